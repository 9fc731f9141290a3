import Derived.Test.YteabpacpngaoaaaGreatDoorC61
import Derived.Test.YteabpacpngaoaaaGreatDoorC67
import Derived.Test.YteabpacpngaoaaaGreatDoorC65
namespace Go.Proofs.YteabpacpngaoaaaGreatDoor
section
theorem zG2:∀(a b r:Nat),qS (a+b) r=qS b (qS a r)
 | 0,b,r=>by rw[Nat.zero_add];rfl
 | a+1,b,r=>by rw[show a+1+b=(a+b)+1 by omega];exact zG2 a b (jI r)
theorem zKU(r:Nat):zCl r 0=qS 8 r:=by
 have h:=zFu r 0;have e:(UInt8.toNat 0)=0:=rfl;have hv:val (zEG 0)=0:=zDf 0 (by omega);rw[e] at h;rw[h,zDb,hv,Nat.xor_zero];rfl
theorem zFA:∀(n r:Nat),jJ r (List.replicate n 0)=qS (8 * n) r
 | 0,_=>rfl
 | n+1,r=>by
  rw[List.replicate_succ,jJ,show (0:UInt8).toNat=0 from rfl,zKU,zFA n,<- zG2];congr 1
  omega
theorem zRq:∀k<5,∀n<233,∀i<2,jJ 4294967295 [UInt8.ofNat (k+1),0,UInt8.ofNat n,0,UInt8.ofNat i]≠3572990385:=by decide +kernel
theorem zRr:qS 1976 3572990385=4294967295:=by decide +kernel
theorem zQV{l:List UInt8}{j:Nat}(h:∀r,r<8->zA4 l (8 * j+r)=false):l.getD j 0=0:=by
 have e:(l.getD j 0).toNat=0:=by
  apply Nat.eq_of_testBit_eq
  intro r;rw[Nat.zero_testBit];rcases Nat.lt_or_ge r 8 with hr|hr
  .have:=h r hr;unfold zA4 at this;rw[show (8 * j+r) / 8=j by omega,show (8 * j+r) % 8=r by omega] at this;exact this
  .exact Nat.testBit_lt_two_pow (Nat.lt_of_lt_of_le (l.getD j 0).toNat_lt (Nat.pow_le_pow_right (n:=2) (by omega) hr))
 exact UInt8.toNat_inj.1 e
theorem zO6(p:zX)(z:Nat):(vH p z).getD 0 0=UInt8.ofNat p.kind.toNat/\(vH p z).getD 1 0=0/\(vH p z).getD 2 0=UInt8.ofNat p.body.length/\(vH p z).getD 3 0=UInt8.ofNat (p.body.length / 256)/\(vH p z).getD 4 0=UInt8.ofNat p.id.toNat:=by
 simp[vH,zCm,yD,List.getD]
theorem zO7{bit mask i:Nat}(hi:i<2):∃r,zQ (jS (List.replicate 256 0) bit mask) (i:Int)=.inr r:=by
  obtain⟨l,hl⟩:∃l,l=jS (List.replicate 256 0) bit mask:=⟨_,rfl⟩
  have hlen:l.length=256:=by rw[hl,zCe,List.length_replicate]
  rw[<- hl]
  cases ho:zQ l (i:Int) with
  | inr r=>exact⟨r,rfl⟩
  | inl p =>
    exfalso
    have hid:p.id=(i:Int):=by
      unfold zQ at ho
      split at ho
      . cases ho
      . split at ho
        . cases ho
        . rename_i h;injection ho with ho;subst ho;simpa using h
    obtain⟨hs,hc⟩:=zGx ho
    rw[hlen] at hs hc
    obtain⟨c1,c2,c3,c4,c5,c6⟩:=yZ hc
    have hk:=zEN c3
    obtain⟨k,hk1,hk2⟩:∃k:Nat,p.kind.toNat=k+1/\k<5:=⟨p.kind.toNat-1,by omega,by omega⟩
    have hn:p.body.length<233:=by omega
    obtain⟨e0,e1,e2,e3,e4⟩:=zO6 p 256
    rw[<- hs,hk1] at e0
    rw[<- hs] at e1 e2 e3 e4
    rw[show p.body.length / 256=0 by omega] at e3
    rw[hid,Int.toNat_natCast] at e4
    have hbit:∀q,q<2048->zA4 l q=true->bit<=q/\q<bit+32:=by
      intro q hq hb
      rw[hl,zD9 _ _ _ _ (by rw[List.length_replicate];omega),zGU] at hb
      simp only[Bool.false_xor,Bool.and_eq_true,decide_eq_true_eq] at hb
      exact hb.1
    have hb2:bit<=2:=by
      have h0:∀q,q<8->(UInt8.ofNat (k+1)).toNat.testBit q=true->bit<=q:=by
        intro q hq hb
        refine (hbit q (by omega) ?_).1
        unfold zA4
        rw[show q / 8=0 by omega,show q % 8=q by omega,e0]
        exact hb
      match k,hk2 with
      | 0,_=>have:=h0 0 (by omega) (by decide);omega
      | 1,_=>have:=h0 1 (by omega) (by decide);omega
      | 2,_=>have:=h0 0 (by omega) (by decide);omega
      | 3,_=>have:=h0 2 (by omega) (by decide);omega
      | 4,_=>have:=h0 0 (by omega) (by decide);omega
    have hz:∀j,5<=j->j<256->l.getD j 0=0:=by
      intro j h5 hj
      refine zQV (λr hr=>?_)
      cases hb:zA4 l (8 * j+r) with
      | false=>rfl
      | true=>have:=(hbit (8 * j+r) (by omega) hb).2;omega
    have hle:l=[UInt8.ofNat (k+1),0,UInt8.ofNat p.body.length,0,UInt8.ofNat i]++List.replicate 251 0:=by
      refine List.ext_getElem (by rw[hlen,List.length_append,List.length_replicate];simp) (λj h1 h2=>?_)
      have hg:l[j]=l.getD j 0:=by simp[List.getD,h1]
      rw[hg]
      rw[hlen] at h1
      rcases (show j=0\/j=1\/j=2\/j=3\/j=4\/5<=j by omega) with rfl|rfl|rfl|rfl|rfl|h5
      . rw[e0];rfl
      . rw[e1];rfl
      . rw[e2];rfl
      . rw[e3];rfl
      . rw[e4];rfl
      . rw[hz j h5 h1,List.getElem_append_right (by simpa using h5),List.getElem_replicate]
    have hraw:zCm p 256=[UInt8.ofNat (k+1),0,UInt8.ofNat p.body.length,0,UInt8.ofNat i]++List.replicate 247 0/\yD 4 (zBQ (zCm p 256))=List.replicate 4 0:=by
      have h1:zCm p 256++yD 4 (zBQ (zCm p 256))=([UInt8.ofNat (k+1),0,UInt8.ofNat p.body.length,0,UInt8.ofNat i]++List.replicate 247 0)++List.replicate 4 0:=by
        rw[List.append_assoc,List.replicate_append_replicate]
        exact (hs.symm.trans hle)
      have h2:=zEM p 256 (by omega)
      exact List.append_inj h1 (by rw[h2,List.length_append,List.length_replicate];rfl)
    obtain⟨r1,r2⟩:=hraw
    have hsum:zBQ (zCm p 256)=0:=by
      have h1:=zEL 4 (zBQ (zCm p 256))
      have h2:=zIu (zCm p 256)
      rw [r2, Nat.mod_eq_of_lt (by have : (256 : Nat) ^ 4 = 4294967296 := by decide
                                   omega)] at h1
      rw[<- h1];rfl
    have hmore:jJ 4294967295 (zCm p 256)=4294967295:=by
      unfold zBQ at hsum
      have:=congrArg (4294967295 ^^^ ·) hsum
      simp only[<- Nat.xor_assoc,Nat.xor_self,Nat.zero_xor,Nat.xor_zero] at this
      exact this
    rw[r1,zIS,zFA] at hmore
    exact zRq k hk2 p.body.length hn i hi (zEO 1976 _ _ (zC0 _ _ (by decide)) (by decide) (hmore.trans zRr.symm))
end
section
section
open Go.RowKit
section
variable {F:Nat->Prop}{ad:Nat->Addr}{w:World}
def zLx:Option Err->Nat
 | none=>0
 | some e=>e.2
end
end
section
open Go.RowKit
attribute [local go_sem ↓] Go.wp_at_zero Go.wp_at_succ
section
variable {F:Nat->Prop}{ad:Nat->Addr}{w w':World}
set_option maxRecDepth 100000 in
theorem zLy(hL:yG F ad w)(hfu:zDq ad)(ev:Value)(o:Option Err)(he:zBw F ad w ev o)(k:Nat)(hk:k<100) : Calls Tryz.prog 31 #[ev,.int .i64 (k:Int)] w λe w'=>e=.returned (.bool (decide (zLx o=k)))/\w=w':=by
 have HL:=Lib.hid hL;have HFU:=Lib.hid hfu;clear hL hfu;cases o with
 | none =>
  obtain rfl:ev=.nilIface:=he;by_cases h0:k=0
  .subst h0
   go_enter Tryz.func31, Tryz.ntmps31
   go_wp2_with fail;refine (zQT _).mono ?_;rintro e w1 ⟨rfl,rfl⟩;go_wp2_with fail;go_ret;exact⟨rfl,rfl⟩
  .have hd:((k:Int) == 0)=false:=by rw[beq_eq_false_iff_ne];omega
   go_enter Tryz.func31, Tryz.ntmps31
   go_wp2_with fail;go_ret;refine⟨?_,rfl⟩;have:decide (zLx none=k)=false:=by rw[decide_eq_false_iff_not];exact λe=>h0 e.symm
   rw[this];rfl
 | some er =>
  obtain⟨el,ek⟩:=er;obtain⟨b,rfl,he⟩:=he;have hek:=he.code;have HE:=Lib.hid he;clear he;by_cases h0:k=0
  .subst h0
   go_enter Tryz.func31, Tryz.ntmps31
   go_wp2_with fail;go_ret;refine⟨?_,rfl⟩;have:decide (zLx (some (el,ek))=0)=false:=by rw[decide_eq_false_iff_not];show ¬ ek=0;omega
   rw[this];rfl
  .have hd:((k:Int) == 0)=false:=by rw[beq_eq_false_iff_ne];omega
   go_enter Tryz.func31, Tryz.ntmps31
   go_wp2_with fail;refine (zQS HL.out HFU.out _ el ek HE.out).mono ?_;rintro e w1 ⟨rfl,rfl⟩;go_wp2_with fail;go_ret;refine⟨?_,rfl⟩;have:decide (zLx (some (el,ek))=k)=((ek:Int) == (k:Int)):=by
    show decide (ek=k)=_;rw[Bool.eq_iff_iff,decide_eq_true_iff,beq_iff_eq];omega
   rw[this];rfl
end
theorem zEi{F:Nat->Prop}{ad:Nat->Addr}{w:World}{el:List Int}{k:Nat}(hL:yG F ad w)(hfu:zDq ad){f:Nat}(he:vB F ad w (zL f) el k)(q:Nat)(hq:q<100)(hk:k=q) : Calls Tryz.prog 31 #[zL f,.int .i64 (q:Int)] w λe w'=>e=.returned (.bool true)/\w=w':=by
 refine (zLy hL hfu (zL f) (some (el,k)) ⟨f,rfl,he⟩ q hq).mono ?_;rintro e w' ⟨rfl,h⟩;refine⟨?_,h⟩;have:decide (zLx (some (el,k))=q)=true:=decide_eq_true hk;rw[this]
end
end
section
open Go.RowKit
attribute [local go_sem ↓] Go.wp_at_zero Go.wp_at_succ
section
variable {P P' F F':Nat->Prop}{ad:Nat->Addr}{w w':World}{d:Nat}{D:zI}
theorem jT.arm(h:jT w P d D) : Calls Tryz.prog 32 #[.pointer (some ⟨d,0,none⟩),.int .i64 0,.slice none 0 0,.int .i64 (-1),.int .i64 0] w λe w'=>∃P',e=.returned .nilIface/\jT w' P' d D.armed/\zA P w w'/\∀k,P' k->P k\/w.heap.size<=k:=by
 obtain⟨bl,gs,ws,wv,kv,h1,h2⟩:=h;refine (zRp h1).mono ?_;rintro e w' ⟨kv',rfl,k1,k2,k3⟩;refine⟨dkF d bl gs ws wv kv',rfl,⟨bl,gs,ws,wv,kv',k1,λk=>Iff.rfl⟩,k2.mono (λk e=>(h2 k).2 (.inl (by rw[e];exact List.mem_cons_self))),λk hk=>?_⟩;rcases hk with hk|hk|hk
 .exact .inl ((h2 k).2 (.inl hk))
 .exact .inl ((h2 k).2 (.inr (.inl hk)))
 .exact .inr (k3 k hk)
end
end
open Lib renaming hid->oh
set_option maxHeartbeats 8000000
set_option maxRecDepth 100000
section
open Go.RowKit Go.Maps
attribute [local go_sem ↓] Go.wp_at_zero Go.wp_at_succ
section
variable {F:Nat->Prop}{ad:Nat->Addr}{w0 w w' wr:World}{kb mb d:Nat}{g:Int}{A:yQ}{fv iv lv:Value}{P:Nat->Prop}{D:zI}
def LkF(F:Nat->Prop)(kb mb:Nat)(fv iv lv:Value)(R:Nat):Nat->Prop:=λk=>F k\/LkB kb mb fv iv lv k\/k=R
theorem LkS.envF{s:yM}(h:LkS w0 w kb mb d s g A fv iv lv)(hL:yG F ad w0){X:Nat}(h1:w0.heap.size<=X)(h2:X<w.heap.size):yG (LkF F kb mb fv iv lv X) ad w :=
 hL.step h.ext.ext (λk hk hn hb=>hb.elim hn (λhb=>hb.elim (λhb=>by have:=(h.lt k hb).1;omega) (λe=>by omega))) (λk hb=>hb.elim (λhf=>Nat.lt_of_lt_of_le (hL.lt k hf) h.ext.size) (λhb=>hb.elim (λhb=>(h.lt k hb).2) (λe=>by omega)))
theorem zL0(hL:yG F ad w0)(hD:jT w0 P d D)(hn0:∃r,zQ (D.lasting.getD 0 []) ((0:Nat):Int)=.inr r)(hn1:∃r,zQ (D.lasting.getD 1 []) ((1:Nat):Int)=.inr r)(h:LkS w0 w kb mb d sup0 0 (yQ.hd []) fv iv lv) :
  Calls Tryz.prog 110 #[.pointer (some ⟨kb,0,none⟩)] w λe w'=>∃f el,e=.returned (zL f)/\vB F ad w' (zL f) el 5/\zA (λk=>w0.heap.size<=k) w w':=by
 have HL:=oh hL;have HD:=oh hD;have HN0:=oh hn0;have HN1:=oh hn1;have H:=oh h;obtain⟨z8,zOI,z3,z4, -, -⟩:=hD.lim;obtain⟨DZ,hDZ⟩:∃n,n=D.size:=⟨_,rfl⟩;have HDZ:=oh hDZ;have m0:zF w (w.alloc (.cells #[.slice none 0 0,.slice none 0 0,.slice none 0 0,.slice none 0 0,.slice none 0 0,.slice none 0 0] 279)):=(zA.refl _ w).alloc _;have HM0:=oh m0;have HB0:=oh (zH.new w #[.slice none 0 0,.slice none 0 0,.slice none 0 0,.slice none 0 0,.slice none 0 0,.slice none 0 0] 279);obtain⟨R,hR⟩:∃R,R=w.heap.size:=⟨_,rfl⟩;have hRk:R≠kb:=λe=>by have:=h.blk.lt;omega
 have HRB:Hid (¬ LkB kb mb fv iv lv R):=oh (λhb=>by have:=(h.lt _ hb).2;omega);have HRS:Hid (R=w.heap.size):=oh hR;rw[<- hR] at HB0;clear hL hD hn0 hn1 h m0 hDZ
 go_enter Tryz.func110, Tryz.ntmps110
 go_wp2_with fail;rw[<- hR];clear hR;go_loopg [17] 6 (λq v17 wr=>∃(k:Nat) (G:Nat->Option Addr × Nat) (cs:Array Value),k+q=6/\v17=.int .i64 (k:Int)/\Hid (zF w wr/\zH wr R cs 279 /\ (∀j,j<k->cs[j]? = some (zKQ DZ (G j))/\Sl (LkF F kb mb fv iv lv R) wr 1 zZ (zKQ DZ (G j)) (D.lasting.getD j []))/\∀j,k<=j->j<6->cs[j]? = some (.slice none 0 0)))
 case atStart=>exact⟨0,λ_=>(none,0),_,by omega,rfl,oh ⟨HM0.out,HB0.out,λj hj=>by omega,λj _ hj=>by
  match j,hj with
  | 0,_=>rfl
  | 1,_=>rfl
  | 2,_=>rfl
  | 3,_=>rfl
  | 4,_=>rfl
  | 5,_=>rfl⟩⟩
 case round =>
  obtain⟨k,G,cs,hk,rfl,HQ⟩:=hrel;by_cases hlt:k<6
  .have i0:(0:Int)<=(k:Int):=by omega
   have i6:(k:Int)<6:=by omega
   have c0:=(H.out.at HQ.out.1).blk.cell (o:=0) (v:=.pointer (some ⟨d,0,none⟩)) rfl;have HLA:=oh (jT.lasting ((H.out.at HQ.out.1).envF HL.out (X:=R) (by have:=HRS.out;have:=H.out.ext.size;omega) HQ.out.2.1.lt) (HD.out.at (H.out.ext.trans HQ.out.1)) k (by omega));go_wp2_with fail;refine HLA.out.mono ?_;rintro e w2 ⟨v,rfl,hsl,hlen,hm⟩;obtain⟨va,vc,rfl, -⟩:=id hsl;rw[hlen,<- HDZ.out] at hsl ⊢;have HSL:=oh hsl;have HM2:=oh (HQ.out.1.trans hm);have HM2':=oh hm;have hB2:=HQ.out.2.1.ext hm;have HB2:=oh hB2;have r0:=hB2.cell (o:=k) (v:=.slice none 0 0) (HQ.out.2.2.2 k (Nat.le_refl _) hlt);have rf:=hB2.frozen;clear hsl hlen hm hB2 c0;go_wp2_with fail;go_roundg (gk-1)
   case measure=>omega
   case rel =>
    have hcs:k<cs.size:=(Array.getElem?_eq_some_iff.1 (HQ.out.2.2.2 k (Nat.le_refl _) hlt)).1;have m3:zA (λj=>j=R) w2 (w2.setCell ⟨R,k,none⟩ (.slice va DZ vc)):=zA.setCell (F:=λj=>j=R) (zA.refl _ w2) (p:=⟨R,k,none⟩) (.inr rfl) _;refine⟨k+1,λj=>if j=k then (va,vc) else G j,cs.setIfInBounds k (.slice va DZ vc),by omega,by go_num,oh ⟨HM2.out.trans' m3 (λi hi e=>by have:=HRS.out;omega),HB2.out.set k _,λj hj=>?_,λj hj hj6=>?_⟩⟩
    .by_cases e:j=k
     .subst e;refine⟨by simp[hcs],?_⟩;simp only[if_true];exact HSL.out.mods (m3.mono (λi e=>.inr (.inr e)))
     .obtain⟨q1,q2⟩:=HQ.out.2.2.1 j (by omega);refine⟨?_,?_⟩
      .simp only[if_neg e];rw[<- q1,Array.getElem?_setIfInBounds_ne (λe'=>e e'.symm)]
      .simp only[if_neg e];exact (q2.ext HM2'.out).mods (m3.mono (λi e=>.inr (.inr e)))
    .rw[Array.getElem?_setIfInBounds_ne (by omega)];exact HQ.out.2.2.2 j (by omega) hj6
  .obtain rfl:k=6:=by omega
   obtain⟨p0,q0⟩:=HQ.out.2.2.1 0 (by omega);obtain⟨p1,q1⟩:=HQ.out.2.2.1 1 (by omega);have r0:=HQ.out.2.1.cell p0;have r1:=HQ.out.2.1.cell p1;have HE:=oh ((H.out.at HQ.out.1).envF HL.out (X:=R) (by have:=HRS.out;have:=H.out.ext.size;omega) HQ.out.2.1.lt);have hno:∀{l:List UInt8} {i:Nat},(∃r,zQ l (i:Int)=.inr r)->openS l i=none:=λ⟨r,hr⟩=>by unfold openS;rw[hr]
   have hl0:=q0.lenE;have hl1:=q1.lenE;have HCH:=oh (zIT HE.out _ _ _ _ q0 q1 (by rw[hl0,HDZ.out];omega) (by rw[hl0,HDZ.out];omega) (by rw[hl1,HDZ.out];omega) (by rw[hl1,HDZ.out];omega) (λ_=>HN0.out) (λ_=>HN1.out) (hno HN0.out) (hno HN1.out));have HW:=oh HQ.out.1;clear p0 p1 q0 q1 HQ hl0 hl1 hno;go_wp2_with fail;refine HCH.out.mono ?_;rintro e w5 ⟨ev,rfl,hE5,hm5⟩;obtain⟨f,rfl,hE5⟩:=hE5;have HSV0:Hid (qF sup0=.agg #[.int .u64 0,.int .i64 0,.int .i64 0,.int .i64 0,.int .i64 0]):=oh rfl;rw[HSV0.out];have HE5:=oh hE5;have HM5:=oh ((HW.out.trans hm5).alloc (.cells #[.int .u64 0,.int .i64 0,.int .i64 0,.int .i64 0,.int .i64 0] 57));clear r0 r1 hE5 hm5;unfold zL at *;go_wp2_with fail;go_ret;exact⟨f,_,rfl,(HE5.out.step ((zA.refl _ w5).alloc _) (λ_ _ hn h=>hn (.inl h))),HM5.out.ext⟩
def zIU(F:Nat->Prop)(ad:Nat->Addr)(w:World)(k:Nat)(e:Ending)(w':World):Prop:=∃f el,e=.returned (.tuple #[.pointer none,zL f])/\vB F ad w' (zL f) el k/\zF w w'
theorem zL1(hL:yG F ad w) : Calls Tryz.prog 65 #[.pointer none] w (zIU F ad w 7):=by
 have g7:=hL.c7;have HL:=oh hL;clear hL
 go_enter Tryz.func65, Tryz.ntmps65
 go_wp2_with fail;refine (qN HL.out _ _ _ 7 (.sent 7 (by decide) (by decide))).mono ?_;rintro e w2 ⟨f,rfl,hE,hm⟩;have HE:=oh hE;have HM:=oh hm;clear hE hm;go_wp2_with fail;go_ret2
 exact⟨f,_,rfl,HE.out,HM.out⟩
theorem zQW(hL:yG F ad w)(c9:w.cell? ⟨d,9,none⟩=some (.bool true)) : Calls Tryz.prog 65 #[.pointer (some ⟨d,0,none⟩)] w (zIU F ad w 7):=by
 have HO:=oh (offC c9);have g7:=hL.c7;have HL:=oh hL;clear hL c9
 go_enter Tryz.func65, Tryz.ntmps65
 go_wp2_with fail;refine HO.out.mono ?_;rintro e w1 ⟨rfl,rfl⟩;go_wp2_with fail;refine (qN HL.out _ _ _ 7 (.sent 7 (by decide) (by decide))).mono ?_;rintro e w2 ⟨f,rfl,hE,hm⟩;have HE:=oh hE;have HM:=oh hm;clear hE hm;go_wp2_with fail;go_ret2
 exact⟨f,_,rfl,HE.out,HM.out⟩
theorem zJg(hL:yG F ad w)(hD:jT w P d D)(ho:D.off=false)(hn0:∃r,zQ (D.lasting.getD 0 []) ((0:Nat):Int)=.inr r)(hn1:∃r,zQ (D.lasting.getD 1 []) ((1:Nat):Int)=.inr r) : Calls Tryz.prog 65 #[.pointer (some ⟨d,0,none⟩)] w (zIU F ad w 5):=by
 have HO:=oh hD.off;rw[ho] at HO;have hmm:=@run_makeMap Tryz.prog;have HK0:=oh (LkS.made w d);have HHD:=oh (zL0 hL hD hn0 hn1 HK0.out);clear hL hD ho hn0 hn1
 go_enter Tryz.func65, Tryz.ntmps65
 go_wp2_with fail;refine HO.out.mono ?_;rintro e w1 ⟨rfl,rfl⟩;go_wp2_with fail;refine HHD.out.mono ?_;rintro e w2 ⟨f,el,rfl,hE,hm⟩;have HE:=oh hE;have HM:Hid (zF w w2):=oh (HK0.out.ext.trans' hm (λi hi h=>by omega));clear hE hm;unfold zL;go_wp2_with fail;go_ret2
 exact⟨f,el,rfl,HE.out,HM.out⟩
abbrev zST:Value:=.agg #[.int .u64 0,.slice none 0 0,.int .i64 0,.slice none 0 0,.int .i64 0,.slice none 0 0,.bool false]
theorem zKV(hL:yG NoB ad w)(dv:Value)(k:Nat)(hdv:dv=.pointer none\/∃d,dv=.pointer (some ⟨d,0,none⟩))(h:∀F W,yG F ad W->zF w W -> Calls Tryz.prog 65 #[dv] W (zIU F ad W k)) : Calls Tryz.prog 25 #[dv] w λe w'=>∃f el,e=.returned (.tuple #[zST,zL f])/\vB NoB ad w' (zL f) el k/\zF w w':=by
 obtain⟨w1,hw1⟩:∃W,W=w.alloc (.cells #[.int .u64 0,.slice none 0 0,.int .i64 0,.slice none 0 0,.int .i64 0,.slice none 0 0,.bool false] 71):=⟨_,rfl⟩;have m1:zF w w1:=by rw[hw1];exact (zA.refl _ w).alloc _
 obtain⟨R,hR⟩:∃R,R=w.heap.size:=⟨_,rfl⟩;have hR1:zH w1 R #[.int .u64 0,.slice none 0 0,.int .i64 0,.slice none 0 0,.int .i64 0,.slice none 0 0,.bool false] 71:=by rw[hw1,hR];exact zH.new w _ _
 have HM1:=oh m1;have HR1:=oh hR1;have HR:=oh hR;have HL:=oh hL;have hE1:yG (λk=>k=R) ad w1:=hL.step m1.ext (λk hk _ e=>by have e:k=R:=e;omega) (λk e=>by have e:k=R:=e;rw[e];exact hR1.lt);have HE1:=oh hE1;have HH:=oh (h _ _ hE1 m1);clear hL h m1 hR1 hE1;rcases hdv with rfl|⟨d,rfl⟩
 all_goals
  go_enter Tryz.func25, Tryz.ntmps25
  go_wp2_with fail;rw[<- hw1,<- hR];refine HH.out.mono ?_;rintro e w2 ⟨f,el,rfl,hE,hm⟩;have HM2:=oh (HM1.out.trans hm);have HM12:=oh hm;have HWR:=oh (λop=>wrap_any (HE1.out.mods HM12.out.ext) op _ _ _ hE);have HR2:=oh (HR1.out.ext hm);clear hE hm hw1 hR;unfold zL at HWR ⊢;go_wp2_with fail;refine (HWR.out _).mono ?_;rintro e w3 ⟨f3,rfl,hE3,hm3⟩;have HE3:=oh hE3;have HM3:=oh (HM2.out.trans hm3);have hR3:=HR2.out.ext hm3;have HR3:=oh hR3;have r0:=hR3.cell (o:=0) (v:=.int .u64 0) rfl;have r1:=hR3.cell (o:=1) (v:=.slice none 0 0) rfl;have r2:=hR3.cell (o:=2) (v:=.int .i64 0) rfl;have r3:=hR3.cell (o:=3) (v:=.slice none 0 0) rfl;have r4:=hR3.cell (o:=4) (v:=.int .i64 0) rfl;have r5:=hR3.cell (o:=5) (v:=.slice none 0 0) rfl;have r6:=hR3.cell (o:=6) (v:=.bool false) rfl;have rf:=hR3.frozen;clear hE3 hm3 hR3;go_wp2_with fail;have m4:=zA.set7 (F:=λk=>k=R) (zA.refl _ w3) (R:=R) (.inr rfl) (.int .u64 0) (.slice none 0 0) (.int .i64 0) (.slice none 0 0) (.int .i64 0) (.slice none 0 0) (.bool false);refine bodyPost_ret (zC rfl _ _ R 71 #[.int .u64 0,.slice none 0 0,.int .i64 0,.slice none 0 0,.int .i64 0,.slice none 0 0,.bool false] _ rfl (HR3.out.set7 _ _ _ _ _ _ _) Tryz.underlying71 rfl Tryz.repSz) rfl ?_;exact⟨f3,_,rfl,HE3.out.step m4 (λ_ _ _ h=>h.elim),HM3.out.trans' m4 (λi hi e=>by have e:i=R:=e;have:=HR.out;omega)⟩
theorem zNn(hL:yG NoB ad w)(dv:Value)(k:Nat)(hdv:dv=.pointer none\/∃d,dv=.pointer (some ⟨d,0,none⟩))(h : Calls Tryz.prog 65 #[dv] w (zIU NoB ad w k)) : Calls Tryz.prog 30 #[dv] w λe w'=>∃f el,e=.returned (.tuple #[.slice none 0 0,zL f])/\vB NoB ad w' (zL f) el k/\zF w w':=by
 have HL:=oh hL;have HH:=oh h;clear hL h;rcases hdv with rfl|⟨d,rfl⟩
 all_goals
  go_enter Tryz.func30, Tryz.ntmps30
  go_wp2_with fail;refine HH.out.mono ?_;rintro e w2 ⟨f,el,rfl,hE,hm⟩;have HM2:=oh hm;have HWR:=oh (λop=>wrap_any (HL.out.mods HM2.out.ext) op _ _ _ hE);clear hE hm;unfold zL at HWR ⊢;go_wp2_with fail;refine (HWR.out _).mono ?_;rintro e w3 ⟨f3,rfl,hE3,hm3⟩;have HE3:=oh hE3;have HM3:=oh (HM2.out.trans hm3);clear hE3 hm3;go_wp2_with fail;go_ret2
  exact⟨f3,_,rfl,HE3.out,HM3.out⟩
end
end
section
open Go.RowKit
attribute [local go_sem ↓] Go.wp_at_zero Go.wp_at_succ
section
variable {F P:Nat->Prop}{ad:Nat->Addr}{w w':World}{d:Nat}{D:zI}
theorem jT.flushBurn(hL:yG F ad w)(hP:∀k,P k->F k)(h:jT w P d D)(ho:D.off=false)(hU:zRo D) :
  Calls Tryz.prog 33 #[.pointer (some ⟨d,0,none⟩)] w λe w'=>∃f,e=.returned (zL f)/\zA P w w'/\w'.cell? ⟨d,9,none⟩=some (.bool true):=by
 obtain⟨bl,gs,ws,wv,kv,h1,h2⟩:=h;have hd:P d:=(h2 d).2 (.inl List.mem_cons_self);have HB:=oh (zLz h1 hU);have c9:=h1.offC;rw[ho] at c9;have HL:=oh hL;have HD:=oh hd;have HF:=oh (hP d hd);have HC9:=oh c9;clear hL hP h1 h2 hd
 go_enter Tryz.func33, Tryz.ntmps33
 go_wp2_with fail;refine HB.out.mono ?_;rintro e w1 ⟨rfl,hm,h9⟩;have HM:=oh hm;have H9:=oh h9;have HE:=oh (HL.out.mods (hm.mono (λk e=>e ▸ HF.out)));have g7:=HE.out.c7;clear hm h9 c9;go_wp2_with fail;refine (qN HE.out _ _ _ 7 (.sent 7 (by decide) (by decide))).mono ?_;rintro e w2 ⟨f,rfl, -,hm2⟩;have HM2:=oh hm2;clear hm2;go_wp2_with fail;go_ret;exact⟨f,rfl,(HM.out.mono (λk e=>e ▸ HD.out)).trans HM2.out.ext,(HM2.out.cell (yH H9.out) (λf=>f)).trans H9.out⟩
def zQX(F P:Nat->Prop)(ad:Nat->Addr)(w:World)(d:Nat)(D:zI)(e:Ending)(w':World):Prop :=
 ∃P' F',e=.returned (.bool true)/\jT w' P' d D/\zY P P' F F' ad w w'
theorem zL2(hL:yG F ad w)(hP:∀k,P k->F k)(h:jT w P d D)(hb:D.blocks=120)(hz:D.size=256)(blk bit mask:Nat)(h1:blk<65536)(h2:bit<65536)(h3:mask<4294967296)(q:Nat)(hq:zH w q #[.int .u16 (blk:Int),.int .u16 (bit:Int),.int .u32 (mask:Int)] 53)(hnq:¬ P q) :
  Calls Tryz.prog 24 #[.pointer (some ⟨d,0,none⟩),.slice (some ⟨q,0,none⟩) 1 1] w (zQX F P ad w d (zCF D (blk % 120) (bit % 2048) (mask ||| 1))):=by
 obtain⟨mk,hmk⟩:∃mk,mk=mask ||| 1:=⟨_,rfl⟩
 have hmk1:mk<4294967296:=by rw[hmk];exact Nat.or_lt_two_pow (n:=32) h3 (by decide)
 have v4:bits .or .u32 (mask:Int) 1=(mk:Int):=by
  have:=u32_or_nat mask 1 h3 (by decide);rw[hmk];exact this
 obtain⟨bt,hbt⟩:∃bt,bt=bit % 2048:=⟨_,rfl⟩;obtain⟨bb,hbb⟩:∃bb,bb=blk % 120:=⟨_,rfl⟩;have hbt1:bt<2048:=by omega
 have hbb1:bb<120:=by omega
 have v1:(bit:Int).tmod 2048=(bt:Int):=by rw[Int.tmod_eq_emod_of_nonneg (by omega),hbt];rfl
 have v2:IntKind.i64.wrap (bt:Int)=(bt:Int):=IntWalk.i64_in _ (by omega);have v3:IntKind.u16.wrap (bt:Int)=(bt:Int):=by show (bt:Int) % 65536=_;omega
 have v5:(blk:Int).tmod 120=(bb:Int):=by rw[Int.tmod_eq_emod_of_nonneg (by omega),hbb];rfl
 have v6:IntKind.i64.wrap (bb:Int)=(bb:Int):=IntWalk.i64_in _ (by omega);have v7:IntKind.u16.wrap (bb:Int)=(bb:Int):=by show (bb:Int) % 65536=_;omega
 rw[<- hmk,<- hbt,<- hbb];have HC:=oh (jT.hit (hL.mods (zA.refl _ w).drew.ext) hP (h.at (zA.refl _ w).drew) bb bt mk (by omega) (by rw[hz];omega) hmk1);have HQ:=oh hq;have HNQ:=oh hnq;have HN0:=oh (zY.ext hL hP (zA.refl _ w).drew);have q0:=hq.cell (o:=0) (v:=.int .u16 (blk:Int)) rfl;have q1:=hq.cell (o:=1) (v:=.int .u16 (bit:Int)) rfl;have q2:=hq.cell (o:=2) (v:=.int .u32 (mask:Int)) rfl;clear hL hP h hb hz hmk hbt hbb hbt1 hbb1 hmk1 hq hnq h1 h2 h3
 go_enter Tryz.func24, Tryz.ntmps24
 go_wp2_with fail;go_loopg [5] 1 (λm v5 wr=>(m=1/\v5=.int .i64 0/\wr=w)\/(m=0/\v5=.int .i64 1/\Hid (∃P' F',jT wr P' d (zCF D bb bt mk)/\zY P P' F F' ad w wr)))
 case atStart=>exact .inl ⟨rfl,rfl,rfl⟩
 case round =>
  rcases hrel with ⟨rfl,rfl,rfl⟩|⟨rfl,rfl,HR⟩
  .have z0:(wr.drew).cell? ⟨q,0,none⟩=some (.int .u16 (blk:Int)):=q0;have z1:(wr.drew).cell? ⟨q,1,none⟩=some (.int .u16 (bit:Int)):=q1;have z2:(wr.drew).cell? ⟨q,2,none⟩=some (.int .u32 (mask:Int)):=q2;go_wp2_with fail;go_region_held3 (λw'=>w'.cell? ⟨q,0,none⟩=some (.int .u16 (blk:Int))/\w'.cell? ⟨q,1,none⟩=some (.int .u16 (bit:Int))/\w'.cell? ⟨q,2,none⟩=some (.int .u32 (mask:Int)))
    (first|(with_reducible exact⟨z0,z1,z2⟩)|(with_reducible exact⟨x0,x1,x2⟩)|fail)
    (first
     | (go_at_call 36;(with_reducible refine HC.out.mono ?_);rintro e w2 ⟨P2,F2,rfl,hD2,hN2⟩;have x0:=hN2.cellK (w:=wr.drew) z0 HNQ.out;have x1:=hN2.cellK (w:=wr.drew) z1 HNQ.out;have x2:=hN2.cellK (w:=wr.drew) z2 HNQ.out)
     | fail)
   have HFIN:Hid (∃P' F',jT w2 P' d (zCF D bb bt mk)/\zY P P' F F' ad wr w2):=oh ⟨P2,F2,hD2,HN0.out.trans hN2⟩;clear hD2 hN2 x0 x1 x2 z0 z1 z2 q0 q1 q2;go_wp2_with fail;go_roundg 0
   case measure=>omega
   case rel=>exact .inr ⟨rfl,by go_num,HFIN⟩
  .go_wp2_with fail;go_ret;obtain⟨P',F',h5,h6⟩:=HR.out;exact⟨P',F',rfl,h5,h6⟩
end
section
variable {ad:Nat->Addr}{w w':World}{P:Nat->Prop}
theorem zNo(hL:yG NoB ad w)(m:zF w w')(h1:∀k,P k->w.heap.size<=k)(h2:∀k,P k->k<w'.heap.size):yG P ad w' :=
 hL.step m.ext (λk hk _ hp=>by have:=h1 k hp;omega) h2
theorem zIV(bb bt mk:Nat){j:Nat}(hj:j<2):∃r,zQ ((zCF (jK 120 256) bb bt mk).lasting.getD j []) (j:Int)=.inr r:=by
 have hz:∀i,i<120->(jK 120 256).lasting.getD i []=List.replicate 256 0:=λi hi=>by
  unfold jK;rw[List.getD_eq_getElem?_getD,List.getElem?_replicate,if_pos hi];exact Option.getD_some
 by_cases e:j=bb
 .subst e;rw[zM8 _ (by unfold jK;rw[List.length_replicate];omega),hz j (by omega)];exact zO7 hj
 .rw[zCy _ e,hz j (by omega)];unfold zQ;rw[if_pos (zLw (by omega))];exact⟨_,rfl⟩
theorem zGO(hL:yG NoB ad w)(hfu:zDq ad)(blk bit mask:Nat)(h1:blk<65536)(h2:bit<65536)(h3:mask<4294967296) :
  Calls Tryz.prog 6 #[.agg #[.int .u16 (blk:Int),.int .u16 (bit:Int),.int .u32 (mask:Int)]] w λe w'=>e=.returned (.bool true)/\zF w w':=by
 have m0:zF w (w.alloc (.cells #[.int .u16 (blk:Int),.int .u16 (bit:Int),.int .u32 (mask:Int)] 53)):=(zA.refl _ w).alloc _;have HQ0:=oh (zH.new w #[.int .u16 (blk:Int),.int .u16 (bit:Int),.int .u32 (mask:Int)] 53);have HL:=oh hL;have HFU:=oh hfu;have HBD:=oh (And.intro h1 (And.intro h2 h3));have HM0:=oh m0;have HLK0:=oh (zKV (hL.mods m0.ext) (.pointer none) 7 (.inl rfl) (λF W hE _=>zL1 hE));obtain⟨Q,hQ⟩:∃Q,Q=w.heap.size:=⟨_,rfl⟩;have HQE:=oh hQ;clear hL hfu h1 h2 h3 m0 hQ
 go_enter Tryz.func6, Tryz.ntmps6
 go_wp2_with fail;refine HLK0.out.mono ?_;rintro e w1 ⟨f1,el1,rfl,hE1,hm1⟩;have hm1':=(HM0.out.trans hm1).alloc (.cells #[.int .u64 0,.slice none 0 0,.int .i64 0,.slice none 0 0,.int .i64 0,.slice none 0 0,.bool false] 71);have HE1:=oh (hE1.mods ((zA.refl (λ_=>False) w1).alloc (.cells #[.int .u64 0,.slice none 0 0,.int .i64 0,.slice none 0 0,.int .i64 0,.slice none 0 0,.bool false] 71)).ext);have HM1:=oh hm1';have HMD:=oh (zNn (HL.out.mods hm1'.ext) (.pointer none) 7 (.inl rfl) (zL1 (HL.out.mods hm1'.ext)));have HQ1:=oh (HQ0.out.ext (hm1.alloc (.cells #[.int .u64 0,.slice none 0 0,.int .i64 0,.slice none 0 0,.int .i64 0,.slice none 0 0,.bool false] 71)));clear hE1 hm1 hm1';unfold zL at *;go_wp2_with fail;refine HMD.out.mono ?_;rintro e w2 ⟨f2,el2,rfl,hE2,hm2⟩;have HE2:=oh hE2;have HE12:=oh (HE1.out.mods hm2.ext);have HM2:=oh (HM1.out.trans hm2);have HQ2:=oh (HQ1.out.ext hm2);clear hE2 hm2;unfold zL at *;go_wp2_with fail;refine (zJe _).mono ?_;rintro e w3 ⟨rfl,hm3⟩;have HM3:=oh hm3;clear hm3;go_wp2_with fail;refine (zKs 120 256 (by omega) (by omega) (by omega) (by omega)).mono ?_;rintro e w4 ⟨d,Pd,rfl,hD,hn,hm⟩;have hm24:=HM3.out.trans hm;have HM4:=oh (HM2.out.trans hm24);have HD4:Hid (jT w4 Pd d (jK 120 256)):=oh hD;have HN4:Hid (∀k,Pd k->w.heap.size<=k/\k≠Q/\k<w4.heap.size):=oh (λk hk=>by
  have a:=hn k hk;have b:=(HQ2.out.ext HM3.out).lt;have c:=HM2.out.size;have e:=HM3.out.size;exact⟨by omega,by have:=HQE.out;omega,hD.bd k hk⟩)
 have HQ4:=oh (HQ2.out.ext hm24);have HL4:=oh (HL.out.mods (HM4.out).ext);have HT1:=oh (zEi HL4.out HFU.out (HE12.out.mods hm24.ext) 7 (by omega) rfl);have HT2:=oh (zEi HL4.out HFU.out (HE2.out.mods hm24.ext) 7 (by omega) rfl);rw[show ((7:Nat):Int)=7 from rfl] at HT1 HT2;clear hD hn hm hm24;have q0:=HQ4.out.cell (o:=0) (v:=.int .u16 (blk:Int)) rfl;have q1:=HQ4.out.cell (o:=1) (v:=.int .u16 (bit:Int)) rfl;have q2:=HQ4.out.cell (o:=2) (v:=.int .u32 (mask:Int)) rfl;have HB5:=oh (zH.new w4 #[.int .u16 (blk:Int),.int .u16 (bit:Int),.int .u32 (mask:Int)] 53);have m5:zF w4 (w4.alloc (.cells #[.int .u16 (blk:Int),.int .u16 (bit:Int),.int .u32 (mask:Int)] 53)):=(zA.refl _ w4).alloc _;have HM5:=oh (HM4.out.trans m5);have hE5:yG Pd ad (w4.alloc (.cells #[.int .u16 (blk:Int),.int .u16 (bit:Int),.int .u32 (mask:Int)] 53)):=zNo HL.out HM5.out (λk hk=>(HN4.out k hk).1) (λk hk=>Nat.lt_of_lt_of_le (HN4.out k hk).2.2 m5.size);have HSP:=oh (zL2 hE5 (λ_ h=>h) (HD4.out.at m5) rfl rfl blk bit mask HBD.out.1 HBD.out.2.1 HBD.out.2.2 w4.heap.size HB5.out (λh=>by have:=(HN4.out _ h).2.2;omega));clear m5 hE5;go_wp2_with fail;refine HT1.out.mono ?_;rintro e w5 ⟨rfl,rfl⟩;go_wp2_with fail;refine HT2.out.mono ?_;rintro e w5 ⟨rfl,rfl⟩;go_wp2_with fail;refine HSP.out.mono ?_;rintro e w6 ⟨P6,F6,rfl,hD6,hN6⟩;obtain⟨D6,hD6e⟩:∃D,D=zCF (jK 120 256) (blk % 120) (bit % 2048) (mask ||| 1):=⟨_,rfl⟩;rw[<- hD6e] at hD6;have HD6:=oh hD6;have HX6:Hid (zF w w6):=oh (HM5.out.trans' hN6.stp.mods (λi hi h=>by have:=(HN4.out i h).1;omega));have HN6:Hid (∀k,P6 k->w.heap.size<=k/\k<w6.heap.size):=oh (λk hk=>⟨Nat.le_of_not_lt (λhlt=>by have:=(HN4.out k (hN6.stp.old k (Nat.lt_of_lt_of_le hlt HM5.out.size) hk)).1;omega),hN6.stp.bd k hk⟩);have HOF:Hid (D6.off=false/\D6.waiting.length<900000/\(∃r,zQ (D6.lasting.getD 0 []) ((0:Nat):Int)=.inr r)/\∃r,zQ (D6.lasting.getD 1 []) ((1:Nat):Int)=.inr r):=oh (by rw[hD6e];exact⟨rfl,by show [].length<_;simp,zIV _ _ _ (by omega),zIV _ _ _ (by omega)⟩);have HLK6:=oh (zKV (HL.out.mods HX6.out.ext) (.pointer (some ⟨d,0,none⟩)) 5 (.inr ⟨d,rfl⟩) (λF W hE m=>zJg hE (HD6.out.at m) HOF.out.1 HOF.out.2.2.1 HOF.out.2.2.2));clear hD6 hD6e hN6 q0 q1 q2;go_wp2_with fail;refine HLK6.out.mono ?_;rintro e w7 ⟨f7,el7,rfl,hE7,hm7⟩;have m8:=hm7.alloc (.cells #[.int .u64 0,.slice none 0 0,.int .i64 0,.slice none 0 0,.int .i64 0,.slice none 0 0,.bool false] 71);have HE8:=oh (hE7.mods ((zA.refl (λ_=>False) w7).alloc (.cells #[.int .u64 0,.slice none 0 0,.int .i64 0,.slice none 0 0,.int .i64 0,.slice none 0 0,.bool false] 71)).ext);have HM8:=oh m8;have hL8:=HL.out.mods (HX6.out.trans m8).ext;have HMD8:=oh (zNn hL8 (.pointer (some ⟨d,0,none⟩)) 5 (.inr ⟨d,rfl⟩) (zJg hL8 (HD6.out.at m8) HOF.out.1 HOF.out.2.2.1 HOF.out.2.2.2));clear hE7 hm7 m8 hL8;unfold zL at *;go_wp2_with fail;refine HMD8.out.mono ?_;rintro e w9 ⟨f9,el9,rfl,hE9,hm9⟩;have HM9:=oh (HM8.out.trans hm9);have HL9:=oh (HL.out.mods (HX6.out.trans HM9.out).ext);have HT8:=oh (zEi HL9.out HFU.out (HE8.out.mods hm9.ext) 5 (by omega) rfl);have HT9:=oh (zEi HL9.out HFU.out hE9 5 (by omega) rfl);rw[show ((5:Nat):Int)=5 from rfl] at HT8 HT9;have HAR:=oh (HD6.out.at HM9.out).arm;clear hE9 hm9;unfold zL at *;go_wp2_with fail;refine HT8.out.mono ?_;rintro e w10 ⟨rfl,rfl⟩;go_wp2_with fail;refine HT9.out.mono ?_;rintro e w10 ⟨rfl,rfl⟩;go_wp2_with fail;refine HAR.out.mono ?_;rintro e w11 ⟨P11,rfl,hD11,hm11,hp11⟩;have HX11:Hid (zF w w11):=oh ((HX6.out.trans HM9.out).trans' hm11 (λi hi h=>by have:=(HN6.out i h).1;omega));have hn11:∀k,P11 k->w.heap.size<=k:=λk hk=>by
  rcases hp11 k hk with h|h
  .exact (HN6.out k h).1
  .have:=(HX6.out.trans HM9.out).size;omega
 have HN11:=oh hn11;have HFL:=oh (jT.flushBurn (zNo HL.out HX11.out hn11 hD11.bd) (λ_ h=>h) hD11 (by show D6.off=false;exact HOF.out.1) (zNF D6));clear hD11 hm11 hp11 hn11;go_wp2_with fail;refine HFL.out.mono ?_;rintro e w12 ⟨f12,rfl,hm12,h9⟩;have HX12:Hid (zF w w12):=oh (HX11.out.trans' hm12 (λi hi h=>by have:=HN11.out i h;omega));have HLK12:=oh (zKV (HL.out.mods HX12.out.ext) (.pointer (some ⟨d,0,none⟩)) 7 (.inr ⟨d,rfl⟩) (λF W hE m=>zQW hE ((m.cell (yH h9) (λf=>f)).trans h9)));clear hm12 h9;unfold zL at *;go_wp2_with fail;refine HLK12.out.mono ?_;rintro e w13 ⟨f13,el13,rfl,hE13,hm13⟩;have m14:=hm13.alloc (.cells #[.int .u64 0,.slice none 0 0,.int .i64 0,.slice none 0 0,.int .i64 0,.slice none 0 0,.bool false] 71);have HX14:=oh (HX12.out.trans m14);have HL14:=oh (HL.out.mods HX14.out.ext);have HT14:=oh (zEi HL14.out HFU.out (hE13.mods ((zA.refl (λ_=>False) w13).alloc (.cells #[.int .u64 0,.slice none 0 0,.int .i64 0,.slice none 0 0,.int .i64 0,.slice none 0 0,.bool false] 71)).ext) 7 (by omega) rfl);rw[show ((7:Nat):Int)=7 from rfl] at HT14;have HAW:=oh (zG0 HL14.out);clear hE13 hm13 m14;unfold zL at *;go_wp2_with fail;refine HT14.out.mono ?_;rintro e w15 ⟨rfl,rfl⟩;go_wp2_with fail;refine HAW.out.mono ?_;rintro e w16 ⟨rfl,hm16⟩;have HX16:=oh (HX14.out.trans hm16);clear hm16;go_wp2_with fail;go_ret;exact⟨rfl,HX16.out⟩
end
end
end Go.Proofs.YteabpacpngaoaaaGreatDoor
