import Derived.Test.YteabpacpngaoaaaGreatDoorC26
import Derived.Test.YteabpacpngaoaaaGreatDoorC25
namespace Go.Proofs.YteabpacpngaoaaaGreatDoor
open Lib renaming hid->oh
set_option maxRecDepth 100000
section
theorem zEp(b:List UInt8)(r:RdA):r.at_+1<=(jO b r).2.at_/\((jO b r).2.at_<=r.at_+1\/(jO b r).2.at_<=b.length):=by
 unfold jO;simp only;have h:(vD b r 1).2.at_=r.at_+1:=rfl;split
 .rw[<- h];exact⟨Int.le_refl _,.inl (Int.le_refl _)⟩
 .rename_i hc;simp only[not_or,Int.not_lt] at hc;simp only;rw[h] at hc ⊢;exact⟨by omega,.inr (by omega)⟩
theorem zLF{b:List UInt8}{r:RdA}{W:Nat}(h:(vD b r W).2.bad=false):r.bad=false/\r.at_+W<=b.length:=by
 unfold vD at h;simp only[Bool.or_eq_false_iff] at h;refine⟨h.1,?_⟩;have h2:=h.2;unfold vI at h2;split at h2
 .simp at h2
 .split at h2
  .simp at h2
  .rename_i h4;omega
theorem zOT{b:List UInt8}{r:RdA}(h:(jO b r).2.bad=false):r.bad=false/\(jO b r).2.at_<=b.length:=by
 unfold jO at h ⊢;simp only at h ⊢;split
 .rename_i hc;rw[if_pos hc] at h;cases h
 .rename_i hc;simp only[not_or,Int.not_lt,Bool.not_eq_true] at hc;exact⟨(zLF hc.1).1,by simp only;omega⟩
theorem zCT(b:List UInt8)(r:RdA)(W:Nat):(vD b r W).2.at_=r.at_+W:=rfl
theorem zHs(b:List UInt8)(r:RdA):r.at_+1<=(vX b r).2.at_/\((vX b r).2.at_<=r.at_+10\/(vX b r).2.at_<=b.length+10):=by
 have h1:=zEp b r;unfold vX;simp only;split
 .have h2:=zEp b (vD b (jO b r).2 1).2;have h3:=zCT b (jO b r).2 1;simp only;rw[h3] at h2;omega
 .have h3:=zCT b (jO b r).2 1;have h4:=zCT b (vD b (jO b r).2 1).2 4;have h5:=zCT b (vD b (vD b (jO b r).2 1).2 4).2 4;simp only;rw[h5,h4,h3];omega
theorem zMd{b:List UInt8}{r:RdA}(h:(vX b r).2.bad=false):(vX b r).2.at_<=b.length:=by
 unfold vX at h ⊢;simp only at h ⊢;split
 .rename_i hc;rw[if_pos hc] at h;exact (zOT h).2
 .rename_i hc;rw[if_neg hc] at h;exact (zLF h).2
theorem zE5(b:List UInt8):∀(k:Nat) (r:RdA) (l:List zV),(qD b k r l).1.length<=l.length+(if r.bad then 0 else (b.length-r.at_).toNat+1)
 | 0,r,l=>by simp only[qD];omega
 | k+1,r,l=>by
  rw[qD];cases hb:r.bad with
  | true=>simp
  | false =>
   simp only[Bool.false_eq_true,if_false];have h1:=zE5 b k (vX b r).2 (l++[(vX b r).1]);have h2:=zHs b r;simp only[List.length_append,List.length_cons,List.length_nil] at h1;cases hc:(vX b r).2.bad with
   | true=>rw[hc] at h1;simp at h1;omega
   | false =>
    have h3:=zMd hc;rw[hc] at h1;simp only[Bool.false_eq_true,if_false] at h1;omega
theorem zJE(b:List UInt8)(r:RdA):(vD b r 2).1<=65535:=by
 unfold vD vI;simp only;split
 .simp
 .split
  .simp
  .have h1:=zEj ((b.drop r.at_.toNat).take 2);have h2:((b.drop r.at_.toNat).take 2).length<=2:=List.length_take_le _ _;have h3:(256:Nat) ^ ((b.drop r.at_.toNat).take 2).length<=256 ^ 2:=Nat.pow_le_pow_right (by omega) h2;simp only;omega
theorem zGh(lf:Bool)(b:List UInt8):(zAH lf b).1.leaf=lf:=by
 unfold zAH;cases lf <;> simp
theorem zFk(lf:Bool)(b:List UInt8)(hb:b.length<=1000)(hr:zO (zAH lf b).1=true):(yE (zAH lf b).1).length<=100000:=by
 have hl:=zGh lf b;cases lf with
 | true =>
  have hn:(zAH true b).1.entries.length<=1001:=by
   unfold zAH;simp only[if_true];have:=zE5 b (vD b ⟨0,false⟩ 2).1 (vD b ⟨0,false⟩ 2).2 [];have h2:(vD b ⟨0,false⟩ 2).2.at_=2:=zCT b ⟨0,false⟩ 2;simp only[List.length_nil] at this;split at this <;> omega
  have hall:∀x∈(zAH true b).1.entries,(zAP x).length<=59:=λx hx=>by
   obtain⟨i,hi,e⟩:=List.getElem_of_mem hx;exact zMR (zGg hl hr (k:=i) (by rw[<- e];exact List.getElem?_eq_getElem hi))
  have:=zHl zAP 59 _ hall;unfold yE;rw[if_pos hl,List.length_append,zD];omega
 | false =>
  obtain⟨g1,g2,g3⟩:=zJC hl hr;have hall:∀x∈(zAH false b).1.keys.zip (zAH false b).1.kids.tail,(zAi x).length<=37:=λx hx=>by
   obtain⟨s,c⟩:=x;have h1:=(List.of_mem_zip hx).1;rw[zCS hl,zCA] at hr;simp only[Bool.and_eq_true,List.all_eq_true] at hr;exact zMS (hr.1.2 s h1)
  have:=zHl zAi 37 _ hall;have hz:((zAH false b).1.keys.zip (zAH false b).1.kids.tail).length<=255:=by
   rw[List.length_zip,List.length_tail];omega
  unfold yE;rw[if_neg (by rw[hl];simp),List.length_append,List.length_append,zD,zD];omega
end
section
open Go.RowKit
section
variable {F:Nat->Prop}{ad:Nat->Addr}{w w':World}{B:Nat}{bv:Value}{b:List UInt8}{r:RdA}
theorem zDw(b:List UInt8)(r:RdA)(W:Nat)(hW:W=1\/W=2\/W=4):(vD b r W).1<4294967296/\(vD b r W).2.at_=r.at_+W:=⟨zGe b r.at_ W hW,rfl⟩
theorem zHt(hL:yG F ad w)(h:RdR F w B bv b r)(W:Nat)(hW:W=1\/W=2\/W=4)(h0:0<=r.at_)(h1:r.at_<=1000000000000)(n:Nat)(r':RdA)(hx:vD b r W=(n,r')) :
  Calls Tryz.prog 245 #[.pointer (some ⟨B,0,none⟩),.int .i64 (W:Int)] w λe w'=>e=.returned (.int .i64 (n:Int))/\RdR F w' B bv b r'/\zA (λk=>k=B) w w':=by
 have:=zOL hL h W hW h0 h1;rw[hx] at this;exact this
theorem zMe(hL:yG F ad w)(h:RdR F w B bv b r)(h0:0<=r.at_)(h1:r.at_<=1000000000000) :
    Calls Tryz.prog 246 #[.pointer (some ⟨B,0,none⟩)] w λe w'=>e=.returned (.string (jO b r).1)/\RdR F w' B bv b (jO b r).2/\zA (λk=>k=B) w w':=by
  have HH:=oh h
  have HL:=oh hL
  obtain⟨hf1,hf2⟩:=zDw b r 1 (.inl rfl)
  obtain⟨n,⟨t,bd⟩,hx⟩:∃n r1,vD b r 1=(n,r1):=⟨_,_,rfl⟩
  rw[hx] at hf1 hf2
  simp only at hf1 hf2
  obtain⟨t,rfl⟩:∃k:Nat,t=k:=⟨t.toNat,by omega⟩
  have ht:(t:Int)<=1000000000001:=by omega
  have HX:=oh hx
  have H01:=oh (And.intro h0 h1)
  obtain⟨sa,cap,rfl,hz,hz2,hz3,hz4⟩:=_root_.id h.sl
  unfold maxLen at hz2
  have HT:Hid (jO b r=if bd=true\/(b.length:Int)-t<(n:Int) then (⟨#[]⟩,⟨t,true⟩) else (⟨((b.drop t).take n).toArray⟩,⟨t+n,false⟩)):=oh (by
    unfold jO;simp only[hx,Int.toNat_natCast])
  have ht1:1<=t:=by omega
  clear h hL hx hf2 h0 h1
  by_cases hc:bd=true\/(b.length:Int)-t<(n:Int)
  . rw[if_pos hc] at HT
    have HC:=oh hc
    clear hc hz4
    go_enter Tryz.func246, Tryz.ntmps246
    go_wp2_with fail
    refine (zHt HL.out HH.out 1 (.inl rfl) H01.out.1 H01.out.2 _ _ HX.out).mono ?_
    rintro e w1 ⟨rfl,hR,hm⟩
    have HR:=oh hR
    have HM:=oh hm
    have c0:=hR.own.cell (o:=0) (v:=.slice sa b.length cap) rfl
    have c1:=hR.own.cell (o:=1) (v:=.int .i64 (t:Int)) rfl
    have c2:=hR.own.cell (o:=2) (v:=.bool bd) rfl
    have f2:=hR.own.frozen 2
    clear hR hm
    have HM1:Hid (∀q,zA (λk=>k=B) w1 ((w1.drewN q).setCell ⟨B,2,none⟩ (.bool true))):=oh λq=>((zA.refl _ w1).drewN q).trans (zA.at (λk=>k=B) (w1.drewN q) B 2 _ rfl)
    have HB:Hid (∀q,zH (w1.drewN q) B #[.slice sa b.length cap,.int .i64 (t:Int),.bool bd] 358):=oh λ_=>HR.out.own
    cases bd
    . have hlt:(b.length:Int)-t<(n:Int):=by have:=HC.out;simpa using this
      have hd:decide ((b.length:Int)-t<(n:Int))=true:=decide_eq_true hlt
      go_wp2_with fail
      go_quiet (fail)
      go_wp2_with fail
      go_ret
      exact⟨by rw[HT.out];rfl,by rw[HT.out];exact HR.out.turn ⟨t,true⟩ (HM1.out _) ((HB.out _).set 2 _),HM.out.trans (HM1.out _)⟩
    . go_wp2_with fail
      go_quiet (fail)
      go_wp2_with fail
      go_ret
      exact⟨by rw[HT.out];rfl,by rw[HT.out];exact HR.out.turn ⟨t,true⟩ (HM1.out _) ((HB.out _).set 2 _),HM.out.trans (HM1.out _)⟩
  . rw[if_neg hc] at HT
    have hbd:bd=false:=by cases bd <;> simp_all
    subst hbd
    have hlt:¬ (b.length:Int)-t<(n:Int):=λh=>hc (.inr h)
    clear hc
    have hle:t+n<=b.length:=by omega
    obtain⟨bb,off,rfl⟩:∃bb off,sa=some ⟨bb,off,none⟩:=by
      rcases hz4 with h|⟨bb,off,h,_⟩
      . rw[h] at hle;simp at hle;omega
      . exact⟨bb,off,h⟩
    clear hz4
    go_enter Tryz.func246, Tryz.ntmps246
    go_wp2_with fail
    refine (zHt HL.out HH.out 1 (.inl rfl) H01.out.1 H01.out.2 _ _ HX.out).mono ?_
    rintro e w1 ⟨rfl,hR,hm⟩
    have HR:=oh hR
    have HM:=oh hm
    have c0:=hR.own.cell (o:=0) (v:=.slice (some ⟨bb,off,none⟩) b.length cap) rfl
    have c1:=hR.own.cell (o:=1) (v:=.int .i64 (t:Int)) rfl
    have c2:=hR.own.cell (o:=2) (v:=.bool false) rfl
    have f1:=hR.own.frozen 1
    have hd:decide ((b.length:Int)-t<(n:Int))=false:=decide_eq_false (by omega)
    have hw1:IntKind.i64.wrap (t:Int)=(t:Int):=IntWalk.i64_in _ (by omega)
    have hi0:(0:Int)<=(t:Int):=by omega
    have hi1:(t:Int)<=(t:Int)+(n:Int):=by omega
    have hi2:(t:Int)+(n:Int)<=(cap:Int):=by omega
    have hi3:(0:Int)<=(t:Int)+(n:Int):=by omega
    have hs1:((t:Int)+(n:Int)).toNat-t=n:=by omega
    have hsl:Sl F w1 1 zZ (.slice (if cap=t then some ⟨bb,off,none⟩ else some ⟨bb,off+t,none⟩) n (cap-t)) ((b.drop t).take n):=by
      have hln:((b.drop t).take n).length=n:=by simp;omega
      split
      . have hn0:n=0:=by omega
        subst hn0
        exact⟨some ⟨bb,off,none⟩,cap-t,by simp,by simp,by unfold maxLen;omega,by simp,.inl (by simp)⟩
      . have:=Sl.sub hR.sl t (t+n) (by omega) hle
        rw[Nat.mul_one,show t+n-t=n by omega] at this
        exact this
    have hcv:∀q q':Nat,(convert 87 9 (.slice (if cap=t then some ⟨bb,off,none⟩ else some ⟨bb,off+t,none⟩) n (cap-t))).run Tryz.prog (((w1.drewN q).setCell ⟨B,1,none⟩ (.int .i64 ((t:Int)+(n:Int)))).drewN q')=.ok (.string ⟨((b.drop t).take n).toArray⟩) (((w1.drewN q).setCell ⟨B,1,none⟩ (.int .i64 ((t:Int)+(n:Int)))).drewN q'):=λq q' =>
      zKy (P:=Tryz.prog) Tryz.underlying87 Tryz.underlying5 Tryz.underlying9 (hsl.mods ((((zA.refl F w1).drewN q).trans (zA.at F (w1.drewN q) B 1 _ hR.mem)).drewN q'))
    have HCV:=oh hsl
    have HM1:Hid (∀q q',zA (λk=>k=B) w1 (((w1.drewN q).setCell ⟨B,1,none⟩ (.int .i64 ((t:Int)+(n:Int)))).drewN q')):=oh λq q'=>(((zA.refl _ w1).drewN q).trans (zA.at (λk=>k=B) (w1.drewN q) B 1 _ rfl)).drewN q'
    have HB:Hid (∀q q',zH (((w1.drewN q).setCell ⟨B,1,none⟩ (.int .i64 ((t:Int)+(n:Int)))).drewN q') B #[.slice (some ⟨bb,off,none⟩) b.length cap,.int .i64 ((t:Int)+(n:Int)),.bool false] 358):=oh λq _=>zH.set (w:=w1.drewN q) HR.out.own 1 _
    clear hR hm hsl
    go_wp2_with fail
    go_quiet (fail)
    go_wp2_with fail
    go_quiet (fail)
    all_goals go_wp2_with fail
    all_goals
      go_ret
      try (have e : cap = t := by assumption
           subst e)
      exact⟨by rw[HT.out];rfl,by rw[HT.out];exact HR.out.turn _ (HM1.out _ _) (HB.out _ _),HM.out.trans (HM1.out _ _)⟩
end
end
section
open Go.RowKit
attribute [local go_sem ↓] Go.wp_at_zero Go.wp_at_succ
structure zBk(ad:Nat->Addr)(F:Nat->Prop)(w w1:World)(ve vk vi:Value)(lf:Bool)(B:Nat)(l:List UInt8):Prop where
 ext:zF w w1
 wr:WrR (w.heap.size+1) w1 B l
 env0:yG F ad w
 box:zH w1 w.heap.size #[.bool lf,ve,vk,vi] 174
section
variable {F:Nat->Prop}{ad:Nat->Addr}{w w1 w2 w':World}{n:zJ}{ve vk vi:Value}{lf:Bool}{B:Nat}{l l':List UInt8}
theorem zBk.step(h:zBk ad F w w1 ve vk vi lf B l)(m:zA (λk=>w.heap.size+1<=k) w1 w2)(g:WrR (w.heap.size+1) w2 B l'):zBk ad F w w2 ve vk vi lf B l' :=
 ⟨zA.past h.ext (m.mono (λk (hk:w.heap.size+1<=k)=>by omega)),g,h.env0,h.box.mods m (by omega)⟩
theorem zBk.alloc(h:zBk ad F w w1 ve vk vi lf B l)(o:Obj):zBk ad F w (w1.alloc o) ve vk vi lf B l :=
 h.step ((zA.refl _ w1).alloc o) (by
  obtain⟨a,c,h1,h2⟩:=h.wr.box;exact⟨⟨a,c,h1.alloc o,h2.ext ((zA.refl _ w1).alloc o)⟩,h.wr.ge⟩)
theorem zBk.env(h:zBk ad F w w1 ve vk vi lf B l):yG F ad w1:=h.env0.mods h.ext.ext
theorem zBk.lt(h:zBk ad F w w1 ve vk vi lf B l):∀k,F k->k<w.heap.size+1:=λk hk=>by have:=h.env0.lt k hk;omega
theorem zBk.num(h:zBk ad F w w1 ve vk vi lf B l)(m W:Nat)(hW:W=1\/W=2\/W=4)(hm:m<256 ^ W)(hlen:l.length<=100000) :
  Calls Tryz.prog 217 #[.pointer (some ⟨B,0,none⟩),.int .i64 (m:Int),.int .i64 (W:Int)] w1 λe w'=>e=.returned (.tuple #[])/\zBk ad F w w' ve vk vi lf B (l++yD W m)/\zA (λk=>w.heap.size+1<=k) w1 w'/\WFr B w1 w' :=
 (zK5 h.env h.lt h.wr m W hW hm hlen).mono λ_ _ ⟨h1,h2,h3,h4⟩=>⟨h1,h.step h3 h2,h3,h4⟩
theorem zBk.text(h:zBk ad F w w1 ve vk vi lf B l)(s:ByteArray)(hs:s.size<256)(hlen:l.length<=100000) :
  Calls Tryz.prog 218 #[.pointer (some ⟨B,0,none⟩),.string s] w1 λe w'=>e=.returned (.tuple #[])/\zBk ad F w w' ve vk vi lf B (l++vK s)/\zA (λk=>w.heap.size+1<=k) w1 w'/\WFr B w1 w' :=
 (zOK h.env h.lt h.wr s hs hlen).mono λ_ _ ⟨h1,h2,h3,h4⟩=>⟨h1,h.step h3 h2,h3,h4⟩
theorem zNQ{G:Nat->Prop}{w w':World}(m:zA G w w'){b o:Nat}{v:Value}(h:w.cell? ⟨b,o,none⟩=some v)(hb:¬ G b):w'.cell? ⟨b,o,none⟩=some v:=(m.cell (yH h) hb).trans h
theorem zPq(l:List Int)(h:0<l.length):l.headD 0=l[0]:=by
 cases l with
 | nil=>simp at h
 | cons a r=>rfl
theorem zEb(hL:yG F ad w)(n:zJ)(ve vk vi:Value)(hve:Sl F w 4 zAO ve n.entries)(hvk:Sl F w 1 vZ vk n.keys)(hvi:Sl F w 1 yK vi n.kids)(hlen:zO n=true->(yE n).length<=100000) :
  Calls Tryz.prog 149 #[.agg #[.bool n.leaf,ve,vk,vi]] w (zQp F ad w n):=by
 have m0:zF w (w.alloc (.cells #[.bool n.leaf,ve,vk,vi] 174)):=(zA.refl _ w).alloc _;have HB0:=oh (zH.new w #[.bool n.leaf,ve,vk,vi] 174);have HVE:=oh hve;have HVK:=oh hvk;have HVI:=oh hvi;have HL:=oh hL;have HCK:=oh (zE3 (hL.mods m0.ext) n ve vk vi (hve.ext m0) (hvk.ext m0) (hvi.ext m0));have HM0:=oh m0;have HLEN:=oh hlen;obtain⟨ae,ce,rfl,he1,he2,he3,hee⟩:=hve;obtain⟨ak,ck,rfl,hk1,hk2,hk3,hkk⟩:=hvk;obtain⟨ai,ci,rfl,hi1,hi2,hi3,hii⟩:=hvi;have HEE:=oh hee;have HKK:=oh hkk;have HII:=oh hii;clear hL m0 hlen hee hkk hii;unfold maxLen at he2 hk2 hi2;generalize hlf:n.leaf=lf
 rw[hlf] at HB0 HCK HM0;have HLF:=oh hlf;clear hlf
 go_enter Tryz.func149, Tryz.ntmps149
 go_wp2_with fail;refine (HCK.out).mono ?_;rintro e w1 ⟨ev,rfl,hE,hm1⟩;have HB1:=oh (HB0.out.ext hm1);have HM1:=oh (HM0.out.trans hm1);have HL1:=oh (HL.out.mods HM1.out.ext);clear hm1;cases hr:zO n with
 | false =>
  have HR:=oh hr;unfold zCB at hE;rw[hr,if_neg (by simp)] at hE;obtain⟨f,rfl,hE⟩:=hE;have HE:=oh hE;clear hE hr;go_wp2_with fail;refine (wrap_any HL1.out _ _ _ _ HE.out).mono ?_;rintro e w2 ⟨f2,rfl,hE2,hm2⟩;have HE2:=oh hE2;have HM2:=oh (HM1.out.trans hm2);clear hE2 hm2;go_wp2_with fail;go_ret2
  exact⟨HM2.out,.inr ⟨HR.out,f2,rfl,HE2.out⟩⟩
 | true =>
  have HR:=oh hr;unfold zCB at hE;rw[hr,if_pos rfl] at hE;cases hE
  clear hr;have hz1:=HM1.out.size;have hzb:=HB1.out.lt;have HP:Hid (zBk ad F w (w1.alloc (.cells #[.slice none 0 0,.nilIface] 337)) (.slice ae n.entries.length ce) (.slice ak n.keys.length ck) (.slice ai n.kids.length ci) lf w1.heap.size []):=oh
   ⟨HM1.out.alloc _,WrR.new w1 _ (by omega),HL.out,HB1.out.alloc _⟩
  have p0:=HP.out.box.cell (o:=0) (v:=.bool lf) rfl;cases lf
  .obtain⟨g1,g2,g3⟩:=zJC HLF.out HR.out;have p3:=HP.out.box.cell (o:=3) (v:=.slice ai n.kids.length ci) rfl;have HSM:Hid ((yE n).length<=100000):=oh (HLEN.out HR.out);have HG3:=oh g3;obtain⟨b0,off0,rfl,hb0,hF0,hc0⟩:=Sl.at HII.out HP.out.ext (λ_ _ f=>f.elim) 0 (by omega);have hk0:=zJD HLF.out HR.out (List.getElem?_eq_getElem (show 0<n.kids.length by omega));obtain⟨z,hz⟩:∃z:Nat,n.kids[0]=(z:Int):=⟨n.kids[0].toNat,by omega⟩;have HZ:Hid (z<256 ^ 4/\(n.kids.headD 0).toNat=z):=oh ⟨by omega,by
    have:=zPq n.kids (show 0<n.kids.length by omega);rw[this,hz];rfl⟩
   have i0:(0:Int)<(n.kids.length:Int):=by omega
   have HZ0:=oh hz;clear hc0 hk0 hz g3;go_wp2_with fail;refine (HP.out.num n.kids.length 2 (.inr (.inl rfl)) (by have:=HG3.out;omega) (by simp)).mono ?_;rintro e w2 ⟨rfl,hP2,_,_⟩;have p3:=hP2.box.cell (o:=3) (v:=.slice (some ⟨b0,off0,none⟩) n.kids.length ci) rfl;obtain⟨b0',off0',hbb,_,_,hc0⟩:=Sl.at HII.out hP2.ext (λ_ _ f=>f.elim) 0 (by have:=HG3.out;omega);injection hbb with hbb;injection hbb with hb1 hb2;subst hb1 hb2;have d0:w2.cell? ⟨b0,off0,none⟩=some (.int .i64 (z:Int)):=by
    have:=hc0 0 _ rfl;rw[HZ0.out] at this;simpa using this
   have HP2:=oh hP2;clear hP2 hc0 HP;go_wp2_with fail;refine (HP2.out.num z 4 (.inr (.inr rfl)) HZ.out.1 (by simp[zD])).mono ?_;rintro e w3 ⟨rfl,hP3,_,_⟩;have p2:=hP3.box.cell (o:=2) (v:=.slice ak n.keys.length ck) rfl;rw[List.nil_append,<- HZ.out.2,<- zIk n] at hP3;have HP3:=oh hP3;have hz2:=hP3.ext.size;clear hP3 HP2 d0;go_wp2_with fail;go_loopg [70] n.keys.length (λm i wr=>∃k:Nat,k+m=n.keys.length/\i=.int .i64 k/\Hid (zBk ad F w wr (.slice ae n.entries.length ce) (.slice ak n.keys.length ck) (.slice (some ⟨b0,off0,none⟩) n.kids.length ci) false w1.heap.size (zAr n k)))
   case atStart=>exact⟨0,by omega,rfl,HP3⟩
   case round =>
    obtain⟨k,hkm,rfl,HPk⟩:=hrel;by_cases hlt:k<n.keys.length
    .obtain⟨b,off,rfl,hb,hF,hc⟩:=Sl.at HKK.out HPk.out.ext (λ_ _ f=>f.elim) k hlt;have hlk:k+1<n.kids.length:=by rw[HG3.out];omega
     have hen:n.keys[k]? = some n.keys[k]:=List.getElem?_eq_getElem hlt;have hkd:n.kids[k+1]? = some n.kids[k+1]:=List.getElem?_eq_getElem hlk;have hpre:=zIl n hen hkd;have hks:=zMc HLF.out HR.out hen;have hkr:=zJD HLF.out HR.out hkd;have hpl:(zAr n (k+1)).length<=100000:=Nat.le_trans (zJ2 HLF.out (k+1)) HSM.out;rw[hpre,List.length_append] at hpl;have c0:=hc 0 _ rfl;simp only[Nat.add_zero,Nat.mul_one] at c0;obtain⟨y,hy⟩:∃y:Nat,n.kids[k+1]=(y:Int):=⟨n.kids[k+1].toNat,by omega⟩;have HY:Hid (n.kids[k+1]? = some (y:Int)/\y<256 ^ 4):=oh ⟨by rw[hkd,hy],by omega⟩;have HBY:Hid (zAi (n.keys[k],n.kids[k+1])=vK n.keys[k]++yD 4 y):=oh (by unfold zAi;simp only[hy,Int.toNat_natCast]);have HPL:Hid ((zAr n k).length+(vK n.keys[k]++yD 4 y).length<=100000):=oh (by rw[<- HBY.out];exact hpl);have HPRE:=oh hpre;have HLK:=oh hlk;have i1:(k:Int)+1<(n.kids.length:Int):=by omega
     clear hc hen hkd hpre hpl hkr hy;go_wp2_with fail;refine (HPk.out.text n.keys[k] hks (by have:=HPL.out;omega)).mono ?_;rintro e w4 ⟨rfl,hP4,_,_⟩;have p3:=hP4.box.cell (o:=3) (v:=.slice (some ⟨b0,off0,none⟩) n.kids.length ci) rfl;obtain⟨b0',off0',hbb,_,_,hc0⟩:=Sl.at HII.out hP4.ext (λ_ _ f=>f.elim) (k+1) HLK.out;injection hbb with hbb;injection hbb with hb1 hb2;subst hb1 hb2;have d0:w4.cell? ⟨b0,off0+(k+1),none⟩=some (.int .i64 (y:Int)):=by
      have:=hc0 0 (.int .i64 (n.kids[k+1]'HLK.out)) rfl;have hy2:n.kids[k+1]'HLK.out=(y:Int):=by
       have:=HY.out.1;rw[List.getElem?_eq_getElem HLK.out] at this;exact Option.some.inj this
      rw[hy2] at this;simpa using this
     have HP4:=oh hP4;clear hP4 hc0;go_wp2_with fail;refine (HP4.out.num y 4 (.inr (.inr rfl)) HY.out.2 (by have:=HPL.out;simp only[List.length_append] at this ⊢;omega)).mono ?_;rintro e w5 ⟨rfl,hP5,_,_⟩;have HP5:=oh hP5;clear hP5;go_wp2_with fail;go_roundg (gk-1)
     case measure=>omega
     case rel=>exact⟨k+1,by omega,by go_num,oh (by rw[HPRE.out,HBY.out];have:=HP5.out;simpa only[List.append_assoc] using this)⟩
    .have hke:k=n.keys.length:=by omega
     have HPE:=oh HPk.out;rw[zJ1 HLF.out HG3.out hke] at HPE;obtain⟨a,c,hBW,hOW⟩:=HPE.out.wr.box;have b0:=hBW.cell (o:=0) (v:=.slice a (yE n).length c) rfl;have b1:=hBW.cell (o:=1) (v:=.nilIface) rfl;have HOW:=oh hOW;clear hBW hOW hke;go_wp2_with fail;go_region_held3 (λw'=>w'.cell? ⟨w1.heap.size,0,none⟩=some (.slice a (yE n).length c)/\w'.cell? ⟨w1.heap.size,1,none⟩=some .nilIface)
      (first|(with_reducible exact⟨b0,b1⟩)|go_keep)
      (first
       | (go_at_call 48;refine (wrap_nil _ _).mono ?_;rintro e w2 ⟨rfl,rfl⟩)
       | fail)
     all_goals
      go_wp2_with fail;go_ret2
      exact⟨HPE.out.ext.drew,.inl ⟨HR.out,a,c,rfl,(HOW.out.rebase (by omega)).ext (zA.refl _ wr).drew⟩⟩
  .have p1:=HP.out.box.cell (o:=1) (v:=.slice ae n.entries.length ce) rfl;have HSM:Hid (n.entries.length<=65535/\(yE n).length<=100000):=oh ⟨zOS HLF.out HR.out,HLEN.out HR.out⟩;go_wp2_with fail;refine (HP.out.num n.entries.length 2 (.inr (.inl rfl)) (by have:=HSM.out;omega) (by simp)).mono ?_;rintro e w2 ⟨rfl,hP2,_,_⟩;have p1:=hP2.box.cell (o:=1) (v:=.slice ae n.entries.length ce) rfl;rw[List.nil_append,<- zJz n] at hP2;have HP2:=oh hP2;have hz2:=hP2.ext.size;clear hP2 HP;go_wp2_with fail;go_loopg [28] n.entries.length (λm i wr=>∃k:Nat,k+m=n.entries.length/\i=.int .i64 k/\Hid (zBk ad F w wr (.slice ae n.entries.length ce) (.slice ak n.keys.length ck) (.slice ai n.kids.length ci) true w1.heap.size (zBN n k)))
   case atStart=>exact⟨0,by omega,rfl,HP2⟩
   case round =>
    obtain⟨k,hkm,rfl,HPk⟩:=hrel;by_cases hlt:k<n.entries.length
    .obtain⟨b,off,rfl,hb,hF,hc⟩:=Sl.at HEE.out HPk.out.ext (λ_ _ f=>f.elim) k hlt;have hen:n.entries[k]? = some n.entries[k]:=List.getElem?_eq_getElem hlt;have hpre:=zJ0 n hen;have hre:=zGg HLF.out HR.out hen;have hpl:(zBN n (k+1)).length<=100000:=Nat.le_trans (zLE HLF.out (k+1)) HSM.out.2;rw[hpre,List.length_append] at hpl;have c0:=hc 0 _ rfl;simp only[Nat.add_zero] at c0;have c1:=hc 1 _ rfl;have c2:=hc 2 _ rfl;have c3:=hc 3 _ rfl;clear hc hen;generalize n.entries[k]=en at *
     obtain⟨key,value,chain,size⟩:=en;have HPRE:=oh hpre;clear hpre;simp only at c0 c1 c2 c3;unfold vC at hre;simp only[Bool.and_eq_true] at hre;obtain⟨hk,hre⟩:=hre;have hk2:key.size<256:=by have:=(zAo key).1 hk;omega
     have hnB:wr.heap.size≠w1.heap.size:=by
      obtain⟨_,_,hbb,_⟩:=HPk.out.wr.box;have:=hbb.lt;omega
     have HNB:=oh hnB;have HBE:=oh (zH.new wr #[.string key,.string value,.int .i64 chain,.int .i64 size] 228);clear hk hnB;by_cases hz:chain=0
     .rw[if_pos hz] at hre;subst hz;simp only[Bool.and_eq_true,decide_eq_true_eq] at hre;have HV:=oh hre.2;have HBY:Hid (zAP ⟨key,value,0,size⟩=vK key++(yD 1 0++vK value)):=oh rfl;have HPL:Hid ((zBN n k).length+(vK key++(yD 1 0++vK value)).length<=100000):=oh hpl;clear hre hpl;go_wp2_with fail;refine ((HPk.out.alloc _).text key hk2 (by have:=HPL.out;omega)).mono ?_;rintro e w3 ⟨rfl,hP3,_,hf3⟩;have hB3:=hf3 _ _ _ HNB.out (by decide) HBE.out;have q1:=hB3.cell (o:=1) (v:=.string value) rfl;have q2:=hB3.cell (o:=2) (v:=.int .i64 0) rfl;have HB3:=oh hB3;have HP3:=oh hP3;clear hB3 hP3 hf3;go_wp2_with fail;refine (HP3.out.num 0 1 (.inl rfl) (by decide) (by have:=HPL.out;simp only[List.length_append] at this ⊢;omega)).mono ?_;rintro e w4 ⟨rfl,hP4,_,hf4⟩;have hB4:=hf4 _ _ _ HNB.out (by decide) HB3.out;have q1:=hB4.cell (o:=1) (v:=.string value) rfl;have HP4:=oh hP4;clear hB4 hP4 hf4;go_wp2_with fail;refine (HP4.out.text value (by have:=HV.out;omega) (by have:=HPL.out;simp only[List.length_append] at this ⊢;omega)).mono ?_;rintro e w5 ⟨rfl,hP5,_,_⟩;have HP5:=oh hP5;clear hP5;go_wp2_with fail;go_roundg (gk-1)
      case measure=>omega
      case rel=>exact⟨k+1,by omega,by go_num,oh (by rw[HPRE.out,HBY.out];have:=HP5.out;simpa only[List.append_assoc] using this)⟩
     .rw[if_neg hz] at hre;simp only[Bool.and_eq_true,decide_eq_true_eq,zCo] at hre;obtain⟨⟨⟨⟨g1,g2⟩,g3⟩,g4⟩,g5⟩:=hre;obtain⟨cn,rfl⟩:∃cn:Nat,chain=(cn:Int):=⟨chain.toNat,by omega⟩;obtain⟨sn,rfl⟩:∃sn:Nat,size=(sn:Int):=⟨size.toNat,by omega⟩;have hzb:((cn:Int) == 0)=false:=beq_eq_false_iff_ne.2 hz;have HBY:Hid (zAP ⟨key,value,(cn:Int),(sn:Int)⟩=vK key++(yD 1 1++(yD 4 cn++yD 4 sn))):=oh (by unfold zAP;simp only[if_neg hz,Int.toNat_natCast]);have HPL:Hid ((zBN n k).length+(vK key++(yD 1 1++(yD 4 cn++yD 4 sn))).length<=100000):=oh (by rw[<- HBY.out];exact hpl);have HC:Hid (cn<256 ^ 4/\sn<256 ^ 4):=oh (by constructor <;> omega);clear hpl hz g1 g2 g3 g4 g5;go_wp2_with fail;refine ((HPk.out.alloc _).text key hk2 (by have:=HPL.out;omega)).mono ?_;rintro e w3 ⟨rfl,hP3,_,hf3⟩;have hB3:=hf3 _ _ _ HNB.out (by decide) HBE.out;have q2:=hB3.cell (o:=2) (v:=.int .i64 (cn:Int)) rfl;have HB3:=oh hB3;have HP3:=oh hP3;clear hB3 hP3 hf3;go_wp2_with fail;refine (HP3.out.num 1 1 (.inl rfl) (by decide) (by have:=HPL.out;simp only[List.length_append] at this ⊢;omega)).mono ?_;rintro e w4 ⟨rfl,hP4,_,hf4⟩;have hB4:=hf4 _ _ _ HNB.out (by decide) HB3.out;have q2:=hB4.cell (o:=2) (v:=.int .i64 (cn:Int)) rfl;have HB4:=oh hB4;have HP4:=oh hP4;clear hB4 hP4 hf4;go_wp2_with fail;refine (HP4.out.num cn 4 (.inr (.inr rfl)) HC.out.1 (by have:=HPL.out;simp only[List.length_append] at this ⊢;omega)).mono ?_;rintro e w5 ⟨rfl,hP5,_,hf5⟩;have hB5:=hf5 _ _ _ HNB.out (by decide) HB4.out;have q3:=hB5.cell (o:=3) (v:=.int .i64 (sn:Int)) rfl;have HP5:=oh hP5;clear hB5 hP5 hf5;go_wp2_with fail;refine (HP5.out.num sn 4 (.inr (.inr rfl)) HC.out.2 (by have:=HPL.out;simp only[List.length_append] at this ⊢;omega)).mono ?_;rintro e w6 ⟨rfl,hP6,_,_⟩;have HP6:=oh hP6;clear hP6;go_wp2_with fail;go_roundg (gk-1)
      case measure=>omega
      case rel=>exact⟨k+1,by omega,by go_num,oh (by rw[HPRE.out,HBY.out];have:=HP6.out;simpa only[List.append_assoc] using this)⟩
    .have hke:k=n.entries.length:=by omega
     have HPE:=oh HPk.out;rw[zLD HLF.out hke] at HPE;obtain⟨a,c,hBW,hOW⟩:=HPE.out.wr.box;have b0:=hBW.cell (o:=0) (v:=.slice a (yE n).length c) rfl;have b1:=hBW.cell (o:=1) (v:=.nilIface) rfl;have HOW:=oh hOW;clear hBW hOW hke;go_wp2_with fail;go_region_held3 (λw'=>w'.cell? ⟨w1.heap.size,0,none⟩=some (.slice a (yE n).length c)/\w'.cell? ⟨w1.heap.size,1,none⟩=some .nilIface)
      (first|(with_reducible exact⟨b0,b1⟩)|go_keep)
      (first
       | (go_at_call 48;refine (wrap_nil _ _).mono ?_;rintro e w2 ⟨rfl,rfl⟩)
       | fail)
     all_goals
      go_wp2_with fail;go_ret2
      exact⟨HPE.out.ext.drew,.inl ⟨HR.out,a,c,rfl,(HOW.out.rebase (by omega)).ext (zA.refl _ wr).drew⟩⟩
end
end
section
open Go.RowKit
theorem Tryz.mkE:(Tryz.prog.info? 228).map (λi=>(i.zero,i.size,i.bytes))=some (some (.agg #[.string ⟨#[]⟩,.string ⟨#[]⟩,.int .i64 0,.int .i64 0]),4,48):=by kernel_rfl
theorem Tryz.mkS:(Tryz.prog.info? 9).map (λi=>(i.zero,i.size,i.bytes))=some (some (.string ⟨#[]⟩),1,16):=by kernel_rfl
theorem Tryz.elE:ElT Tryz.prog 172 228 (.agg #[.string ⟨#[]⟩,.string ⟨#[]⟩,.int .i64 0,.int .i64 0]) 4 48:=⟨Tryz.underlying172,Tryz.mkE,rfl,by decide,by decide⟩
theorem Tryz.elS:ElT Tryz.prog 60 9 (.string ⟨#[]⟩) 1 16:=⟨Tryz.underlying60,Tryz.mkS,rfl,by decide,by decide⟩
theorem zBV:zCh zAO 4:=⟨λ_=>rfl,by intro x u hu;simp[zAO] at hu;rcases hu with rfl|rfl|rfl|rfl <;> rfl⟩
theorem zBl:zCh vZ 1:=⟨λ_=>rfl,by intro x u hu;simp[vZ] at hu;subst hu;rfl⟩
theorem zEq{P:Program}{α:Type}{F G:Nat->Prop}{w:World}{t e:TypeId}{z:Value}{sz bytes:Nat}{enc:α->List Value}(T:ElT P t e z sz bytes)(E:zCh enc sz)
  {ops:Array Oper} {o:Oper} {a:Act} {K:Act->World->Prop} {Q:Exit->Act->World->Prop} {X:Prop} (hgd:o.guard=none) (sx x:Operand)
  (ho:o.op=.call { callee:=.builtin .append,args:=#[sx,x],argTypes:=#[t,t] })
  (base:Nat) (v s:Value) (l m:List α) (hv:a.eval sx=v) (hx:a.eval x=s) (hown:yC F w base e sz enc v l) (hs:Sl G w sz enc s m) (hb:(l.length+m.length) * bytes<=140737488355328) (hbase:base<=w.heap.size) (hn:¬ F w.heap.size)
  (h:∀a' c' w',yC F w' base e sz enc (.slice a' (l.length+m.length) c') (l++m)->zA (λk=>v.ownBlock=some k) w w' ->
   ((Value.slice a' (l.length+m.length) c').ownBlock=v.ownBlock\/(Value.slice a' (l.length+m.length) c').ownBlock=some w.heap.size)->K (a.put o.dst (.slice a' (l.length+m.length) c')) w') :
  if Region.wanted o (yielded ops a.tmps)=true then Oper.wp P o a w K Q else X:=by
 have hw:Region.wanted o (yielded ops a.tmps)=true:=by simp[Region.wanted,hgd]
 rw[if_pos hw];obtain⟨i,hi,hz,hs1,hb1⟩:=zEz T.info;obtain⟨a',c',w',hr,h2,h3,h4⟩:=zDT (P:=P) (F:=F) (G:=G) (w:=w) base t o.type e i z sz bytes T.under hi hz hs1 hb1 T.zs T.sz0 enc E.len E.one v s l m hown hs hb T.by0 hbase hn;unfold Oper.wp execOp;simp only[ho,resolve,invoke,builtin,Sem.run_bind,Sem.run_pure,Result.andThen_ok,List.map_toArray,List.map_cons,List.map_nil,hv,hx,hr];exact h a' c' w' h2 (zA.of_grown h3) h4
theorem yC.far{α β:Type}{F G:Nat->Prop}{w:World}{base base':Nat}{e e':TypeId}{sz sz':Nat}{enc:α->List Value}{enc':β->List Value}{v v':Value}{x:List α}{x':List β}(h:yC F w base e sz enc v x)(h':yC G w base' e' sz' enc' v' x')(hne:e≠e'):∀g,v.ownBlock=some g->v'.ownBlock≠some g:=by
 intro g hg hg';rcases h'.1.2 with ⟨rfl,_⟩|⟨g',cap,cur,rfl,_,h2,_⟩
 .simp[Value.ownBlock] at hg'
 .simp[Value.ownBlock] at hg';subst hg';exact yC.notB h (B:=g') (c:=cur) (t:=e') h2 hne.symm g' hg rfl
def GB(F:Nat->Prop)(w:World):Nat->Prop:=λk=>F k\/(w.heap.size<=k/\k<w.heap.size+2)
def NoF:Nat->Prop:=λ_=>False
structure jB(F:Nat->Prop)(ad:Nat->Addr)(w wr:World)(lf:Bool)(bv:Value)(b:List UInt8)(r:RdA)(es:List zV)(ks:List ByteArray)(is:List Int)(ve vk vi s1 s2 s3:Value):Prop where
 ext:zF w wr
 env0:yG F ad w
 sl0:Sl F w 1 zZ bv b
 box:zH wr (w.heap.size+1) #[bv,.int .i64 r.at_,.bool r.bad] 358
 nd:zH wr (w.heap.size+1+1) #[.bool lf,s1,s2,s3] 174
 oe:yC NoF wr (w.heap.size+3) 228 4 zAO ve es
 ok:yC NoF wr (w.heap.size+3) 9 1 vZ vk ks
 oi:yC NoF wr (w.heap.size+3) 3 1 yK vi is
 res:zH wr w.heap.size #[.bool false,.slice none 0 0,.slice none 0 0,.slice none 0 0] 174
section
variable {F:Nat->Prop}{ad:Nat->Addr}{w wr w2:World}{lf:Bool}{bv:Value}{b:List UInt8}{r r':RdA}{es es':List zV}{ks ks':List ByteArray}{is is':List Int}{ve vk vi s1 s2 s3 ve' vk' vi':Value}
theorem jB.base(h:jB F ad w wr lf bv b r es ks is ve vk vi s1 s2 s3):w.heap.size+3<=wr.heap.size:=by have:=h.nd.lt;omega
theorem jB.env(h:jB F ad w wr lf bv b r es ks is ve vk vi s1 s2 s3):yG (GB F w) ad wr :=
 h.env0.step h.ext.ext (λk hk hn hg=>hg.elim hn (λe=>by omega)) (λk hg=>hg.elim (λhf=>Nat.lt_of_lt_of_le (h.env0.lt k hf) h.ext.size) (λe=>by have:=h.base;omega))
theorem jB.rd(h:jB F ad w wr lf bv b r es ks is ve vk vi s1 s2 s3):RdR (GB F w) wr (w.heap.size+1) bv b r :=
 ⟨h.box,h.sl0.step h.ext.ext (λk hk hn hg=>hg.elim hn (λe=>by omega)),.inr ⟨by omega,by omega⟩⟩
theorem jB.step(h:jB F ad w wr lf bv b r es ks is ve vk vi s1 s2 s3)(m:zF wr w2):jB F ad w w2 lf bv b r es ks is ve vk vi s1 s2 s3 :=
 ⟨h.ext.trans m,h.env0,h.sl0,h.box.ext m,h.nd.ext m,h.oe.ext m,h.ok.ext m,h.oi.ext m,h.res.ext m⟩
theorem jB.drew(h:jB F ad w wr lf bv b r es ks is ve vk vi s1 s2 s3):jB F ad w wr.drew lf bv b r es ks is ve vk vi s1 s2 s3:=h.step (zA.refl _ wr).drew
theorem jB.read(h:jB F ad w wr lf bv b r es ks is ve vk vi s1 s2 s3)(m:zA (λk=>k=w.heap.size+1) wr w2)(g:RdR (GB F w) w2 (w.heap.size+1) bv b r'):jB F ad w w2 lf bv b r' es ks is ve vk vi s1 s2 s3 :=
 ⟨zA.past h.ext (m.mono (λk (hk:k=w.heap.size+1)=>by omega)),h.env0,h.sl0,g.own,h.nd.mods m (by omega),
  h.oe.mods m (λg hg=>by have:=h.oe.lt g hg;omega),h.ok.mods m (λg hg=>by have:=h.ok.lt g hg;omega),h.oi.mods m (λg hg=>by have:=h.oi.lt g hg;omega),h.res.mods m (by omega)⟩
theorem jB.row(h:jB F ad w wr lf bv b r es ks is ve vk vi s1 s2 s3){G:Nat->Prop}(hG:∀k,G k->w.heap.size+3<=k)(m:zA G wr w2)
  (oe:yC NoF w2 (w.heap.size+3) 228 4 zAO ve' es') (ok:yC NoF w2 (w.heap.size+3) 9 1 vZ vk' ks') (oi:yC NoF w2 (w.heap.size+3) 3 1 yK vi' is'):jB F ad w w2 lf bv b r es' ks' is' ve' vk' vi' s1 s2 s3:=by
 have hn:∀k,k<w.heap.size+3->¬ G k:=λk hk g=>by have:=hG k g;omega
 exact⟨zA.past h.ext (m.mono (λk hk=>by have:=hG k hk;omega)),h.env0,h.sl0,h.box.mods m (hn _ (by omega)),h.nd.mods m (hn _ (by omega)),oe,ok,oi,h.res.mods m (hn _ (by omega))⟩
theorem jB.appE(h:jB F ad w wr lf bv b r es ks is ve vk vi s1 s2 s3)(m:zA (λk=>ve.ownBlock=some k) wr w2)(oe:yC NoF w2 (w.heap.size+3) 228 4 zAO ve' es'):jB F ad w w2 lf bv b r es' ks is ve' vk vi s1 s2 s3 :=
 h.row (λk hk=>(h.oe.lt k hk).1) m oe (h.ok.mods m (λg hg e=>h.ok.far h.oe (by decide) g hg e)) (h.oi.mods m (λg hg e=>h.oi.far h.oe (by decide) g hg e))
theorem jB.appK(h:jB F ad w wr lf bv b r es ks is ve vk vi s1 s2 s3)(m:zA (λk=>vk.ownBlock=some k) wr w2)(ok:yC NoF w2 (w.heap.size+3) 9 1 vZ vk' ks'):jB F ad w w2 lf bv b r es ks' is ve vk' vi s1 s2 s3 :=
 h.row (λk hk=>(h.ok.lt k hk).1) m (h.oe.mods m (λg hg e=>h.oe.far h.ok (by decide) g hg e)) ok (h.oi.mods m (λg hg e=>h.oi.far h.ok (by decide) g hg e))
theorem jB.appI(h:jB F ad w wr lf bv b r es ks is ve vk vi s1 s2 s3)(m:zA (λk=>vi.ownBlock=some k) wr w2)(oi:yC NoF w2 (w.heap.size+3) 3 1 yK vi' is'):jB F ad w w2 lf bv b r es ks is' ve vk vi' s1 s2 s3 :=
 h.row (λk hk=>(h.oi.lt k hk).1) m (h.oe.mods m (λg hg e=>h.oe.far h.oi (by decide) g hg e)) (h.ok.mods m (λg hg e=>h.ok.far h.oi (by decide) g hg e)) oi
theorem jB.far(h:jB F ad w wr lf bv b r es ks is ve vk vi s1 s2 s3){X:Nat}(hX:w.heap.size+3<=X)(m:zA (λk=>k=X) wr w2)(he:ve.ownBlock≠some X)(hk:vk.ownBlock≠some X)(hi:vi.ownBlock≠some X):jB F ad w w2 lf bv b r es ks is ve vk vi s1 s2 s3 :=
 h.row (G:=λk=>k=X) (λk hk=>by omega) m (h.oe.mods m (λg hg e=>he (by rw[hg,e]))) (h.ok.mods m (λg hg e=>hk (by rw[hg,e]))) (h.oi.mods m (λg hg e=>hi (by rw[hg,e])))
theorem jB.slE(h:jB F ad w wr lf bv b r es ks is ve vk vi s1 s2 s3){G:Nat->Prop}(hG:∀k,G k->k<w.heap.size+3)(hl:es.length<=140737488355328):Sl G wr 4 zAO ve es :=
 yC.sl (F:=G) ⟨h.oe.1,λg hg f=>by have:=h.oe.lt g hg;have:=hG g f;omega⟩ zBV.len hl
theorem jB.slK(h:jB F ad w wr lf bv b r es ks is ve vk vi s1 s2 s3){G:Nat->Prop}(hG:∀k,G k->k<w.heap.size+3)(hl:ks.length<=140737488355328):Sl G wr 1 vZ vk ks :=
 yC.sl (F:=G) ⟨h.ok.1,λg hg f=>by have:=h.ok.lt g hg;have:=hG g f;omega⟩ zBl.len hl
theorem jB.slI(h:jB F ad w wr lf bv b r es ks is ve vk vi s1 s2 s3){G:Nat->Prop}(hG:∀k,G k->k<w.heap.size+3)(hl:is.length<=140737488355328):Sl G wr 1 yK vi is :=
 yC.sl (F:=G) ⟨h.oi.1,λg hg f=>by have:=h.oi.lt g hg;have:=hG g f;omega⟩ vW.len hl
theorem jB.gb(h:jB F ad w wr lf bv b r es ks is ve vk vi s1 s2 s3):∀k,GB F w k->k<w.heap.size+3:=λk hk=>hk.elim (λhf=>by have:=h.env0.lt k hf;omega) (λe=>by omega)
theorem jB.put(h:jB F ad w wr lf bv b r es ks is ve vk vi s1 s2 s3)(i:Nat)(v t1 t2 t3:Value)(e:(#[.bool lf,s1,s2,s3]:Array Value).setIfInBounds i v=#[.bool lf,t1,t2,t3]):jB F ad w (wr.setCell ⟨w.heap.size+1+1,i,none⟩ v) lf bv b r es ks is ve vk vi t1 t2 t3:=by
 have m:zA (λk=>k=w.heap.size+1+1) wr (wr.setCell ⟨w.heap.size+1+1,i,none⟩ v):=zA.at _ wr _ i v rfl;have hn:=h.nd.set i v;rw[e] at hn;exact⟨zA.past h.ext (m.mono (λk (hk:k=w.heap.size+1+1)=>by omega)),h.env0,h.sl0,h.box.mods m (by omega),hn,
  h.oe.mods m (λg hg=>by have:=h.oe.lt g hg;omega),h.ok.mods m (λg hg=>by have:=h.ok.lt g hg;omega),h.oi.mods m (λg hg=>by have:=h.oi.lt g hg;omega),h.res.mods m (by omega)⟩
theorem jB.text(h:jB F ad w wr lf bv b r es ks is ve vk vi s1 s2 s3)(h0:0<=r.at_)(h1:r.at_<=1000000000000)(s:ByteArray)(hx:jO b r=(s,r')) :
  Calls Tryz.prog 246 #[.pointer (some ⟨w.heap.size+1,0,none⟩)] wr λe w'=>e=.returned (.string s)/\jB F ad w w' lf bv b r' es ks is ve vk vi s1 s2 s3/\zA (λk=>k=w.heap.size+1) wr w':=by
 have:=zMe h.env h.rd h0 h1;rw[hx] at this;exact this.mono λe w' ⟨a1,a2,a3⟩=>⟨a1,h.read a3 a2,a3⟩
theorem jB.num(h:jB F ad w wr lf bv b r es ks is ve vk vi s1 s2 s3)(W:Nat)(hW:W=1\/W=2\/W=4)(h0:0<=r.at_)(h1:r.at_<=1000000000000)(n:Nat)(hx:vD b r W=(n,r')) :
  Calls Tryz.prog 245 #[.pointer (some ⟨w.heap.size+1,0,none⟩),.int .i64 (W:Int)] wr λe w'=>e=.returned (.int .i64 (n:Int))/\jB F ad w w' lf bv b r' es ks is ve vk vi s1 s2 s3/\zA (λk=>k=w.heap.size+1) wr w' :=
 (zHt h.env h.rd W hW h0 h1 n r' hx).mono λ_ _ ⟨a1,a2,a3⟩=>⟨a1,h.read a3 a2,a3⟩
end
theorem Sl.slc{α:Type}{F:Nat->Prop}{w:World}{sz:Nat}{enc:α->List Value}{a:Option Addr}{n c:Nat}{l:List α}(h:Sl F w sz enc (.slice a n c) l)(i j:Nat)(hij:i<=j)(hj:j<=n) :
  Sl F w sz enc (.slice (if c=i then a else a.map (·.add (i * sz))) (j-i) (c-i)) ((l.drop i).take (j-i)):=by
 obtain⟨a',cap,he,h1,h2,h3,h4⟩:=h;simp only[Value.slice.injEq] at he;obtain⟨rfl,rfl,rfl⟩:=he;have hlen:((l.drop i).take (j-i)).length=j-i:=by simp[List.length_take,List.length_drop];omega
 refine⟨_,c-i,by rw[hlen],by rw[hlen];omega,by omega,by rw[hlen];omega,?_⟩;rcases h4 with rfl|⟨b,off,rfl,hb,hF,hc⟩
 .exact .inl (by simp)
 .by_cases hz:c=i
  .exact .inl (List.eq_nil_of_length_eq_zero (by rw[hlen];omega))
  .refine .inr ⟨b,off+i * sz,?_,hb,hF,λk x hk q u hu=>?_⟩
   .rw[if_neg hz];simp only[Option.map_some,Addr.add];by_cases h0:i * sz=0
    .rw[if_pos h0,h0];rfl
    .rw[if_neg h0]
   .have hk1:k<j-i:=by
     have:=(List.getElem?_eq_some_iff.1 hk).1;rwa [hlen] at this
    rw[List.getElem?_take_of_lt hk1,List.getElem?_drop] at hk;have:=hc (i+k) x hk q u hu;rw[<- this];congr 2
    rw[Nat.add_mul];omega
theorem Sl.tail_{α:Type}{F:Nat->Prop}{w:World}{sz:Nat}{enc:α->List Value}{a:Option Addr}{n c:Nat}{l:List α}(h:Sl F w sz enc (.slice a n c) l)(i:Nat)(hi:i<=n) :
  Sl F w sz enc (.slice (if c=i then a else a.map (·.add (i * sz))) (n-i) (c-i)) (l.drop i):=by
 have:=h.slc i n hi (Nat.le_refl _);obtain⟨a',cap,he, -⟩:=_root_.id h;simp only[Value.slice.injEq] at he;rw[he.2.1] at this ⊢;rwa [List.take_of_length_le (by simp)] at this
section
variable {F H:Nat->Prop}{w w':World}
theorem zGF(lv mv:Value)(L M:List zV)(hl:Sl F w 4 zAO lv L)(hm:Sl H w 4 zAO mv M)(i many:Nat)(h1:i+many<=L.length)(hb:L.length<=1000000)(hb2:M.length<=1000000) :
  Calls Tryz.prog 144 #[lv,.int .i64 (i:Int),.int .i64 (many:Int),mv] w λe w'=>∃v,e=.returned v/\yC (λ_=>False) w' w.heap.size 228 4 zAO v (L.take i++M++L.drop (i+many))/\zF w w':=by
 obtain⟨la,lc,rfl,l1,l2,l3, -⟩:=_root_.id hl;unfold maxLen at l2;have HL:=oh hl;have HM:=oh hm;have hO0:Hid (yC (λ_=>False) (w.alloc (.cells #[] 228)) w.heap.size 228 4 zAO (.slice (some ⟨w.heap.size,0,none⟩) 0 0) ([]:List zV)):=oh (yC.empty (λk f=>f.elim) _ _ _ zBV.len);have hm0:Hid (zF w (w.alloc (.cells #[] 228))):=oh ((zA.refl _ w).alloc _);obtain⟨ma,mc,rfl,m1,m2,m3, -⟩:=hm;have u1:IntKind.i64.wrap ((i:Int)+(many:Int))=((i+many:Nat):Int):=by rw[IntWalk.i64_in _ (by omega)];omega
 have lt1:(L.take i).length=i:=by rw[List.length_take];omega
 have lt2:(L.drop (i+many)).length=L.length-(i+many):=List.length_drop;have HT1:=oh lt1;have HT2:=oh lt2;clear hl lt1 lt2;have p1:Hid (Sl F w 4 zAO (.slice la i lc) (L.take i)):=oh (HL.out.pre i (by omega));have p3:Hid (Sl F w 4 zAO (.slice (if lc=i+many then la else la.map (·.add ((i+many) * 4))) (L.length-(i+many)) (lc-(i+many))) (L.drop (i+many))):=oh (by have:=HL.out.tail_ (i+many) h1;simpa only[Nat.mul_one] using this);obtain⟨R,hR⟩:∃R,R=L.take i++M++L.drop (i+many):=⟨_,rfl⟩;rw[<- hR];have HR:=oh hR;clear hR
 go_enter Tryz.func144, Tryz.ntmps144
 go_wp2_with (first
  | (at_builtin;refine yU Tryz.elE zBV rfl _ _ rfl w.heap.size _ (.slice la i lc) [] (L.take i) rfl rfl hO0.out (p1.out.ext hm0.out) (by rw[HT1.out];simp only[List.length_nil];omega) (by simp) (λf=>f) ?_;rw[List.nil_append,List.length_nil,HT1.out,Nat.zero_add];intro a1 c1 w1 hO1 hm1 hat1;have HO1:=oh hO1;have HM1:Hid (zF w w1):=oh (zA.past hm0.out (hm1.mono (λk hk=>(hO0.out.lt k hk).1)));clear hO1 hm1 hat1)
  | (at_builtin;refine yU Tryz.elE zBV rfl _ _ rfl w.heap.size (.slice a1 i c1) (.slice ma M.length mc) (L.take i) M rfl rfl HO1.out (HM.out.ext HM1.out) (by rw[HT1.out];omega) HM1.out.size (λf=>f) ?_;rw[HT1.out];intro a2 c2 w2 hO2 hm2 hat2;have HO2:=oh hO2;have HM2:Hid (zF w w2):=oh (zA.past HM1.out (hm2.mono (λk hk=>(HO1.out.lt k hk).1)));clear hO2 hm2 hat2)
  | (at_builtin;refine yU Tryz.elE zBV rfl _ _ rfl w.heap.size (.slice a2 (i+M.length) c2) _ (L.take i++M) (L.drop (i+many)) rfl rfl HO2.out (p3.out.ext HM2.out) (by rw[List.length_append,HT1.out,HT2.out];omega) HM2.out.size (λf=>f) ?_;rw[List.length_append,HT1.out,HT2.out];intro a3 c3 w3 hO3 hm3 hat3;have HO3:=oh hO3;have HM3:Hid (zF w w3):=oh (zA.past HM2.out (hm3.mono (λk hk=>(HO2.out.lt k hk).1)));clear hO3 hm3 hat3)
  | fail)
 all_goals
  go_ret;exact⟨_,rfl,by rw[HR.out];exact HO3.out,HM3.out⟩
theorem zOU(lv:Value)(L:List zV)(hl:Sl F w 4 zAO lv L)(k:Nat)(hk:k=L.length)(hb:L.length<=1000000) :
  Calls Tryz.prog 144 #[lv,.int .i64 (k:Int),.int .i64 0,.slice none 0 0] w λe w'=>∃a c,e=.returned (.slice a k c)/\yC (λ_=>False) w' w.heap.size 228 4 zAO (.slice a k c) L/\zF w w':=by
 have h:=zGF lv (.slice none 0 0) L [] hl (Sl.nil (λ_=>False) w 4 zAO) k 0 (by omega) hb (by simp);refine h.mono ?_;rintro e w' ⟨v,rfl,ho,hm⟩;have e1:L.take k++[]++L.drop (k+0)=L:=by rw[Nat.add_zero,List.append_nil,List.take_append_drop]
 rw[e1] at ho;obtain⟨a,c,rfl,_⟩:=ho.form;subst hk;exact⟨a,c,rfl,ho,hm⟩
theorem zOV(lv:Value)(L:List zV)(hl:Sl F w 4 zAO lv L)(k:Nat)(hk:k=L.length)(hb:L.length<=1000000) :
  Calls Tryz.prog 144 #[lv,.int .i64 0,.int .i64 0,.slice none 0 0] w λe w'=>∃a c,e=.returned (.slice a k c)/\yC (λ_=>False) w' w.heap.size 228 4 zAO (.slice a k c) L/\zF w w':=by
 have h:=zGF lv (.slice none 0 0) L [] hl (Sl.nil (λ_=>False) w 4 zAO) 0 0 (by omega) hb (by simp);refine h.mono ?_;rintro e w' ⟨v,rfl,ho,hm⟩;have e1:L.take 0++[]++L.drop (0+0)=L:=by simp
 rw[e1] at ho;obtain⟨a,c,rfl,_⟩:=ho.form;subst hk;exact⟨a,c,rfl,ho,hm⟩
theorem zGG(lv mv:Value)(L M:List ByteArray)(hl:Sl F w 1 vZ lv L)(hm:Sl H w 1 vZ mv M)(i many:Nat)(h1:i+many<=L.length)(hb:L.length<=1000000)(hb2:M.length<=1000000) :
  Calls Tryz.prog 148 #[lv,.int .i64 (i:Int),.int .i64 (many:Int),mv] w λe w'=>∃v,e=.returned v/\yC (λ_=>False) w' w.heap.size 9 1 vZ v (L.take i++M++L.drop (i+many))/\zF w w':=by
 obtain⟨la,lc,rfl,l1,l2,l3, -⟩:=_root_.id hl;unfold maxLen at l2;have HL:=oh hl;have HM:=oh hm;have hO0:Hid (yC (λ_=>False) (w.alloc (.cells #[] 9)) w.heap.size 9 1 vZ (.slice (some ⟨w.heap.size,0,none⟩) 0 0) ([]:List ByteArray)):=oh (yC.empty (λk f=>f.elim) _ _ _ zBl.len);have hm0:Hid (zF w (w.alloc (.cells #[] 9))):=oh ((zA.refl _ w).alloc _);obtain⟨ma,mc,rfl,m1,m2,m3, -⟩:=hm;have u1:IntKind.i64.wrap ((i:Int)+(many:Int))=((i+many:Nat):Int):=by rw[IntWalk.i64_in _ (by omega)];omega
 have lt1:(L.take i).length=i:=by rw[List.length_take];omega
 have lt2:(L.drop (i+many)).length=L.length-(i+many):=List.length_drop;have HT1:=oh lt1;have HT2:=oh lt2;clear hl lt1 lt2;have p1:Hid (Sl F w 1 vZ (.slice la i lc) (L.take i)):=oh (HL.out.pre i (by omega));have p3:Hid (Sl F w 1 vZ (.slice (if lc=i+many then la else la.map (·.add (i+many))) (L.length-(i+many)) (lc-(i+many))) (L.drop (i+many))):=oh (by have:=HL.out.tail_ (i+many) h1;simpa only[Nat.mul_one] using this);obtain⟨R,hR⟩:∃R,R=L.take i++M++L.drop (i+many):=⟨_,rfl⟩;rw[<- hR];have HR:=oh hR;clear hR
 go_enter Tryz.func148, Tryz.ntmps148
 go_wp2_with (first
  | (at_builtin;refine yU Tryz.elS zBl rfl _ _ rfl w.heap.size _ (.slice la i lc) [] (L.take i) rfl rfl hO0.out (p1.out.ext hm0.out) (by rw[HT1.out];simp only[List.length_nil];omega) (by simp) (λf=>f) ?_;rw[List.nil_append,List.length_nil,HT1.out,Nat.zero_add];intro a1 c1 w1 hO1 hm1 hat1;have HO1:=oh hO1;have HM1:Hid (zF w w1):=oh (zA.past hm0.out (hm1.mono (λk hk=>(hO0.out.lt k hk).1)));clear hO1 hm1 hat1)
  | (at_builtin;refine yU Tryz.elS zBl rfl _ _ rfl w.heap.size (.slice a1 i c1) (.slice ma M.length mc) (L.take i) M rfl rfl HO1.out (HM.out.ext HM1.out) (by rw[HT1.out];omega) HM1.out.size (λf=>f) ?_;rw[HT1.out];intro a2 c2 w2 hO2 hm2 hat2;have HO2:=oh hO2;have HM2:Hid (zF w w2):=oh (zA.past HM1.out (hm2.mono (λk hk=>(HO1.out.lt k hk).1)));clear hO2 hm2 hat2)
  | (at_builtin;refine yU Tryz.elS zBl rfl _ _ rfl w.heap.size (.slice a2 (i+M.length) c2) _ (L.take i++M) (L.drop (i+many)) rfl rfl HO2.out (p3.out.ext HM2.out) (by rw[List.length_append,HT1.out,HT2.out];omega) HM2.out.size (λf=>f) ?_;rw[List.length_append,HT1.out,HT2.out];intro a3 c3 w3 hO3 hm3 hat3;have HO3:=oh hO3;have HM3:Hid (zF w w3):=oh (zA.past HM2.out (hm3.mono (λk hk=>(HO2.out.lt k hk).1)));clear hO3 hm3 hat3)
  | fail)
 all_goals
  go_ret;exact⟨_,rfl,by rw[HR.out];exact HO3.out,HM3.out⟩
theorem zJF(lv:Value)(L:List ByteArray)(hl:Sl F w 1 vZ lv L)(k:Nat)(hk:k=L.length)(hb:L.length<=1000000) :
  Calls Tryz.prog 148 #[lv,.int .i64 (k:Int),.int .i64 0,.slice none 0 0] w λe w'=>∃a c,e=.returned (.slice a k c)/\yC (λ_=>False) w' w.heap.size 9 1 vZ (.slice a k c) L/\zF w w':=by
 have h:=zGG lv (.slice none 0 0) L [] hl (Sl.nil (λ_=>False) w 1 vZ) k 0 (by omega) hb (by simp);refine h.mono ?_;rintro e w' ⟨v,rfl,ho,hm⟩;have e1:L.take k++[]++L.drop (k+0)=L:=by rw[Nat.add_zero,List.append_nil,List.take_append_drop]
 rw[e1] at ho;obtain⟨a,c,rfl,_⟩:=ho.form;subst hk;exact⟨a,c,rfl,ho,hm⟩
theorem zJG(lv:Value)(L:List ByteArray)(hl:Sl F w 1 vZ lv L)(k:Nat)(hk:k=L.length)(hb:L.length<=1000000) :
  Calls Tryz.prog 148 #[lv,.int .i64 0,.int .i64 0,.slice none 0 0] w λe w'=>∃a c,e=.returned (.slice a k c)/\yC (λ_=>False) w' w.heap.size 9 1 vZ (.slice a k c) L/\zF w w':=by
 have h:=zGG lv (.slice none 0 0) L [] hl (Sl.nil (λ_=>False) w 1 vZ) 0 0 (by omega) hb (by simp);refine h.mono ?_;rintro e w' ⟨v,rfl,ho,hm⟩;have e1:L.take 0++[]++L.drop (0+0)=L:=by simp
 rw[e1] at ho;obtain⟨a,c,rfl,_⟩:=ho.form;subst hk;exact⟨a,c,rfl,ho,hm⟩
theorem zEr(lv mv:Value)(L M:List Int)(hl:Sl F w 1 yK lv L)(hm:Sl H w 1 yK mv M)(i many:Nat)(h1:i+many<=L.length)(hb:L.length<=1000000)(hb2:M.length<=1000000) :
  Calls Tryz.prog 147 #[lv,.int .i64 (i:Int),.int .i64 (many:Int),mv] w λe w'=>∃v,e=.returned v/\yC (λ_=>False) w' w.heap.size 3 1 yK v (L.take i++M++L.drop (i+many))/\zF w w':=by
 obtain⟨la,lc,rfl,l1,l2,l3, -⟩:=_root_.id hl;unfold maxLen at l2;have HL:=oh hl;have HM:=oh hm;have hO0:Hid (yC (λ_=>False) (w.alloc (.cells #[] 3)) w.heap.size 3 1 yK (.slice (some ⟨w.heap.size,0,none⟩) 0 0) ([]:List Int)):=oh (yC.empty (λk f=>f.elim) _ _ _ vW.len);have hm0:Hid (zF w (w.alloc (.cells #[] 3))):=oh ((zA.refl _ w).alloc _);obtain⟨ma,mc,rfl,m1,m2,m3, -⟩:=hm;have u1:IntKind.i64.wrap ((i:Int)+(many:Int))=((i+many:Nat):Int):=by rw[IntWalk.i64_in _ (by omega)];omega
 have lt1:(L.take i).length=i:=by rw[List.length_take];omega
 have lt2:(L.drop (i+many)).length=L.length-(i+many):=List.length_drop;have HT1:=oh lt1;have HT2:=oh lt2;clear hl lt1 lt2;have p1:Hid (Sl F w 1 yK (.slice la i lc) (L.take i)):=oh (HL.out.pre i (by omega));have p3:Hid (Sl F w 1 yK (.slice (if lc=i+many then la else la.map (·.add (i+many))) (L.length-(i+many)) (lc-(i+many))) (L.drop (i+many))):=oh (by have:=HL.out.tail_ (i+many) h1;simpa only[Nat.mul_one] using this);obtain⟨R,hR⟩:∃R,R=L.take i++M++L.drop (i+many):=⟨_,rfl⟩;rw[<- hR];have HR:=oh hR;clear hR
 go_enter Tryz.func147, Tryz.ntmps147
 go_wp2_with (first
  | (at_builtin;refine yU Tryz.elI vW rfl _ _ rfl w.heap.size _ (.slice la i lc) [] (L.take i) rfl rfl hO0.out (p1.out.ext hm0.out) (by rw[HT1.out];simp only[List.length_nil];omega) (by simp) (λf=>f) ?_;rw[List.nil_append,List.length_nil,HT1.out,Nat.zero_add];intro a1 c1 w1 hO1 hm1 hat1;have HO1:=oh hO1;have HM1:Hid (zF w w1):=oh (zA.past hm0.out (hm1.mono (λk hk=>(hO0.out.lt k hk).1)));clear hO1 hm1 hat1)
  | (at_builtin;refine yU Tryz.elI vW rfl _ _ rfl w.heap.size (.slice a1 i c1) (.slice ma M.length mc) (L.take i) M rfl rfl HO1.out (HM.out.ext HM1.out) (by rw[HT1.out];omega) HM1.out.size (λf=>f) ?_;rw[HT1.out];intro a2 c2 w2 hO2 hm2 hat2;have HO2:=oh hO2;have HM2:Hid (zF w w2):=oh (zA.past HM1.out (hm2.mono (λk hk=>(HO1.out.lt k hk).1)));clear hO2 hm2 hat2)
  | (at_builtin;refine yU Tryz.elI vW rfl _ _ rfl w.heap.size (.slice a2 (i+M.length) c2) _ (L.take i++M) (L.drop (i+many)) rfl rfl HO2.out (p3.out.ext HM2.out) (by rw[List.length_append,HT1.out,HT2.out];omega) HM2.out.size (λf=>f) ?_;rw[List.length_append,HT1.out,HT2.out];intro a3 c3 w3 hO3 hm3 hat3;have HO3:=oh hO3;have HM3:Hid (zF w w3):=oh (zA.past HM2.out (hm3.mono (λk hk=>(HO2.out.lt k hk).1)));clear hO3 hm3 hat3)
  | fail)
 all_goals
  go_ret;exact⟨_,rfl,by rw[HR.out];exact HO3.out,HM3.out⟩
theorem zJH(lv:Value)(L:List Int)(hl:Sl F w 1 yK lv L)(k:Nat)(hk:k=L.length)(hb:L.length<=1000000) :
  Calls Tryz.prog 147 #[lv,.int .i64 (k:Int),.int .i64 0,.slice none 0 0] w λe w'=>∃a c,e=.returned (.slice a k c)/\yC (λ_=>False) w' w.heap.size 3 1 yK (.slice a k c) L/\zF w w':=by
 have h:=zEr lv (.slice none 0 0) L [] hl (Sl.nil (λ_=>False) w 1 yK) k 0 (by omega) hb (by simp);refine h.mono ?_;rintro e w' ⟨v,rfl,ho,hm⟩;have e1:L.take k++[]++L.drop (k+0)=L:=by rw[Nat.add_zero,List.append_nil,List.take_append_drop]
 rw[e1] at ho;obtain⟨a,c,rfl,_⟩:=ho.form;subst hk;exact⟨a,c,rfl,ho,hm⟩
theorem zJI(lv:Value)(L:List Int)(hl:Sl F w 1 yK lv L)(k:Nat)(hk:k=L.length)(hb:L.length<=1000000) :
  Calls Tryz.prog 147 #[lv,.int .i64 0,.int .i64 0,.slice none 0 0] w λe w'=>∃a c,e=.returned (.slice a k c)/\yC (λ_=>False) w' w.heap.size 3 1 yK (.slice a k c) L/\zF w w':=by
 have h:=zEr lv (.slice none 0 0) L [] hl (Sl.nil (λ_=>False) w 1 yK) 0 0 (by omega) hb (by simp);refine h.mono ?_;rintro e w' ⟨v,rfl,ho,hm⟩;have e1:L.take 0++[]++L.drop (0+0)=L:=by simp
 rw[e1] at ho;obtain⟨a,c,rfl,_⟩:=ho.form;subst hk;exact⟨a,c,rfl,ho,hm⟩
end
end
end Go.Proofs.YteabpacpngaoaaaGreatDoor
