import Derived.Test.YtgphfebjjedeaaaGreatDoorV22
import Derived.Deep.RegionHeld3
import Derived.BigQuiet
namespace Go.Proofs.YtgphfebjjedeaaaGreatDoor
open Lib renaming hid->oh
set_option maxRecDepth 100000
section
open Go.RowKit
attribute [local go_sem ↓] Go.wp_at_zero Go.wp_at_succ
structure zBz(ad:Nat->Addr)(F:NP)(w w1:World)(ve vk vi:Value)(lf:Bool)(B:Nat)(l:List UInt8):Prop where
 ext:zG w w1
 wr:WrR (w.heap.size+1) w1 B l
 env0:yE F ad w
 box:zK w1 w.heap.size #[.bool lf,ve,vk,vi] 277
section
variable {F:NP}{ad:Nat->Addr}{w w1 w2 w':World}{n:zJ}{ve vk vi:Value}{lf:Bool}{B:Nat}{l l':List UInt8}
theorem zBz.step(h:zBz ad F w w1 ve vk vi lf B l)(m:zA (λk=>w.heap.size+1<=k) w1 w2)(g:WrR (w.heap.size+1) w2 B l'):zBz ad F w w2 ve vk vi lf B l' :=
 ⟨zA.past h.ext (m.mono (λk (hk:w.heap.size+1<=k)=>by omega)),g,h.env0,h.box.mods m (by omega)⟩
theorem zBz.alloc(h:zBz ad F w w1 ve vk vi lf B l)(o:Obj):zBz ad F w (w1.alloc o) ve vk vi lf B l :=
 h.step ((zss w1).alloc o) (by
  obtain⟨a,c,h1,h2⟩:=h.wr.box;exact⟨⟨a,c,h1.alloc o,h2.ext ((zss w1).alloc o)⟩,h.wr.ge⟩)
theorem zBz.env(h:zBz ad F w w1 ve vk vi lf B l):yE F ad w1:=h.env0.mods h.ext.ext
theorem zBz.lt(h:zBz ad F w w1 ve vk vi lf B l):∀k,F k->k<w.heap.size+1:=λk hk=>by have:=h.env0.lt k hk;omega
theorem zBz.num(h:zBz ad F w w1 ve vk vi lf B l)(m W:Nat)(hW:W=1\/W=2\/W=4)(hm:m<256 ^ W)(hlen:l.length<=100000) :
  Calls Tryz.prog 338 #[.pointer (some ⟨B,0,none⟩),.int .i64 (m:Int),.int .i64 (W:Int)] w1 λe w'=>e=.returned (.tuple #[])/\zBz ad F w w' ve vk vi lf B (l++zV W m)/\zA (λk=>w.heap.size+1<=k) w1 w'/\WFr B w1 w' :=
 (zLT h.env h.lt h.wr m W hW hm hlen).mono λ_ _ ⟨h1,h2,h3,h4⟩=>⟨h1,h.step h3 h2,h3,h4⟩
theorem zBz.text(h:zBz ad F w w1 ve vk vi lf B l)(s:ByteArray)(hs:s.size<256)(hlen:l.length<=100000) :
  Calls Tryz.prog 339 #[.pointer (some ⟨B,0,none⟩),.string s] w1 λe w'=>e=.returned (.tuple #[])/\zBz ad F w w' ve vk vi lf B (l++vM s)/\zA (λk=>w.heap.size+1<=k) w1 w'/\WFr B w1 w' :=
 (zO6 h.env h.lt h.wr s hs hlen).mono λ_ _ ⟨h1,h2,h3,h4⟩=>⟨h1,h.step h3 h2,h3,h4⟩
theorem zDZ{G:NP}{w w':World}(m:zA G w w'){b o:Nat}{v:Value}(h:w.cell? ⟨b,o,none⟩=some v)(hb:¬ G b):w'.cell? ⟨b,o,none⟩=some v:=(m.cell (yH h) hb).trans h
theorem zQu(l:List Int)(h:0<l.length):l.headD 0=l[0]:=by
 cases l with
 | nil=>simp at h
 | cons a r=>rfl
theorem zEf(hL:yE F ad w)(n:zJ)(ve vk vi:Value)(hve:Sl F w 4 jW ve n.entries)(hvk:Sl F w 1 vQ vk n.keys)(hvi:Sl F w 1 yL vi n.kids)(hlen:zQ n=true->(yB n).length<=100000) :
  Calls Tryz.prog 273 #[.agg #[.bool n.leaf,ve,vk,vi]] w (zRw F ad w n):=by
 have m0:zG w (w.alloc (.cells #[.bool n.leaf,ve,vk,vi] 277)):=(zss w).alloc _;have HB0:=oh (zK.new w #[.bool n.leaf,ve,vk,vi] 277);have HVE:=oh hve;have HVK:=oh hvk;have HVI:=oh hvi;have HL:=oh hL;have HCK:=oh (zFB (hL.mods m0.ext) n ve vk vi (hve.ext m0) (hvk.ext m0) (hvi.ext m0));have HM0:=oh m0;have HLEN:=oh hlen;obtain⟨ae,ce,rfl,he1,he2,he3,hee⟩:=hve;obtain⟨ak,ck,rfl,hk1,hk2,hk3,hkk⟩:=hvk;obtain⟨ai,ci,rfl,hi1,hi2,hi3,hii⟩:=hvi;have HEE:=oh hee;have HKK:=oh hkk;have HII:=oh hii;clear hL m0 hlen hee hkk hii;unfold maxLen at he2 hk2 hi2;generalize hlf:n.leaf=lf
 rw[hlf] at HB0 HCK HM0;have HLF:=oh hlf;clear hlf
 go_enter Tryz.func273, Tryz.ntmps273
 go_wp2_with fail;refine (HCK.out).mono ?_;rintro e w1 ⟨ev,rfl,hE,hm1⟩;have HB1:=oh (HB0.out.ext hm1);have HM1:=oh (HM0.out.trans hm1);have HL1:=oh (HL.out.mods HM1.out.ext);clear hm1;cases hr:zQ n with
 | false =>
  have HR:=oh hr;unfold zCN at hE;rw[hr,if_neg (by simp)] at hE;obtain⟨f,rfl,hE⟩:=hE;have HE:=oh hE;clear hE hr;go_wp2_with fail;refine (wrap_any HL1.out _ _ _ _ HE.out).mono ?_;rintro e w2 ⟨f2,rfl,hE2,hm2⟩;have HE2:=oh hE2;have HM2:=oh (HM1.out.trans hm2);clear hE2 hm2;go_wp2_with fail;go_ret2
  exact⟨HM2.out,.inr ⟨HR.out,f2,rfl,HE2.out⟩⟩
 | true =>
  have HR:=oh hr;unfold zCN at hE;rw[hr,if_pos rfl] at hE;cases hE
  clear hr;have hz1:=HM1.out.size;have hzb:=HB1.out.lt;have HP:Hid (zBz ad F w (w1.alloc (.cells #[.slice none 0 0,.nilIface] 474)) (.slice ae n.entries.length ce) (.slice ak n.keys.length ck) (.slice ai n.kids.length ci) lf w1.heap.size []):=oh
   ⟨HM1.out.alloc _,WrR.new w1 _ (by omega),HL.out,HB1.out.alloc _⟩
  have p0:=HP.out.box.d 0 (.bool lf) rfl;cases lf
  .obtain⟨g1,g2,g3⟩:=zJZ HLF.out HR.out;have p3:=HP.out.box.d 3 (.slice ai n.kids.length ci) rfl;have HSM:Hid ((yB n).length<=100000):=oh (HLEN.out HR.out);have HG3:=oh g3;obtain⟨b0,off0,rfl,hb0,hF0,hc0⟩:=Sl.at HII.out HP.out.ext (λ_ _ f=>f.elim) 0 (by omega);have hk0:=zJa HLF.out HR.out (uA (show 0<n.kids.length by omega));obtain⟨z,hz⟩:∃z:Nat,n.kids[0]=(z:Int):=⟨n.kids[0].toNat,by omega⟩;have HZ:Hid (z<256 ^ 4/\(n.kids.headD 0).toNat=z):=oh ⟨by omega,by
    have:=zQu n.kids (show 0<n.kids.length by omega);rw[this,hz];rfl⟩
   have i0:(0:Int)<(n.kids.length:Int):=by omega
   have HZ0:=oh hz;clear hc0 hk0 hz g3;go_wp2_with fail;refine (HP.out.num n.kids.length 2 (.inr (.inl rfl)) (by have:=HG3.out;omega) (by simp)).mono ?_;rintro e w2 ⟨rfl,hP2,_,_⟩;have p3:=hP2.box.d 3 (.slice (some ⟨b0,off0,none⟩) n.kids.length ci) rfl;obtain⟨b0',off0',hbb,_,_,hc0⟩:=Sl.at HII.out hP2.ext (λ_ _ f=>f.elim) 0 (by have:=HG3.out;omega);injection hbb with hbb;injection hbb with hb1 hb2;subst hb1 hb2;have d0:w2.cell? ⟨b0,off0,none⟩=some (.int .i64 (z:Int)):=by
    have:=hc0 0 _ rfl;rw[HZ0.out] at this;simpa using this
   have HP2:=oh hP2;clear hP2 hc0 HP;go_wp2_with fail;refine (HP2.out.num z 4 (.inr (.inr rfl)) HZ.out.1 (by simp[zC])).mono ?_;rintro e w3 ⟨rfl,hP3,_,_⟩;have p2:=hP3.box.d 2 (.slice ak n.keys.length ck) rfl;rw[wN,<- HZ.out.2,<- zI0 n] at hP3;have HP3:=oh hP3;have hz2:=hP3.ext.size;clear hP3 HP2 d0;go_wp2_with fail;go_loopg [70] n.keys.length (λm i wr=>∃k:Nat,k+m=n.keys.length/\i=.int .i64 k/\Hid (zBz ad F w wr (.slice ae n.entries.length ce) (.slice ak n.keys.length ck) (.slice (some ⟨b0,off0,none⟩) n.kids.length ci) false w1.heap.size (zAz n k)))
   case atStart=>exact⟨0,by omega,rfl,HP3⟩
   case round =>
    obtain⟨k,hkm,rfl,HPk⟩:=hrel;by_cases hlt:k<n.keys.length
    .obtain⟨b,off,rfl,hb,hF,hc⟩:=Sl.at HKK.out HPk.out.ext (λ_ _ f=>f.elim) k hlt;have hlk:k+1<n.kids.length:=by rw[HG3.out];omega
     have hen:n.keys[k]? = some n.keys[k]:=uA hlt;have hkd:n.kids[k+1]? = some n.kids[k+1]:=uA hlk;have hpre:=zI1 n hen hkd;have hks:=zNO HLF.out HR.out hen;have hkr:=zJa HLF.out HR.out hkd;have hpl:(zAz n (k+1)).length<=100000:=uT (zKX HLF.out (k+1)) HSM.out;rw[hpre,uC] at hpl;have c0:=hc 0 _ rfl;simp only[uO,uY] at c0;obtain⟨y,hy⟩:∃y:Nat,n.kids[k+1]=(y:Int):=⟨n.kids[k+1].toNat,by omega⟩;have HY:Hid (n.kids[k+1]? = some (y:Int)/\y<256 ^ 4):=oh ⟨by rw[hkd,hy],by omega⟩;have HBY:Hid (zAu (n.keys[k],n.kids[k+1])=vM n.keys[k]++zV 4 y):=oh (by unfold zAu;simp only[hy,uK]);have HPL:Hid ((zAz n k).length+(vM n.keys[k]++zV 4 y).length<=100000):=oh (by rw[<- HBY.out];exact hpl);have HPRE:=oh hpre;have HLK:=oh hlk;have i1:(k:Int)+1<(n.kids.length:Int):=by omega
     clear hc hen hkd hpre hpl hkr hy;go_wp2_with fail;refine (HPk.out.text n.keys[k] hks (by have:=HPL.out;omega)).mono ?_;rintro e w4 ⟨rfl,hP4,_,_⟩;have p3:=hP4.box.d 3 (.slice (some ⟨b0,off0,none⟩) n.kids.length ci) rfl;obtain⟨b0',off0',hbb,_,_,hc0⟩:=Sl.at HII.out hP4.ext (λ_ _ f=>f.elim) (k+1) HLK.out;injection hbb with hbb;injection hbb with hb1 hb2;subst hb1 hb2;have d0:w4.cell? ⟨b0,off0+(k+1),none⟩=some (.int .i64 (y:Int)):=by
      have:=hc0 0 (.int .i64 (n.kids[k+1]'HLK.out)) rfl;have hy2:n.kids[k+1]'HLK.out=(y:Int):=by
       have:=HY.out.1;rw[uA HLK.out] at this;exact Option.some.inj this
      rw[hy2] at this;simpa using this
     have HP4:=oh hP4;clear hP4 hc0;go_wp2_with fail;refine (HP4.out.num y 4 (.inr (.inr rfl)) HY.out.2 (by have:=HPL.out;simp only[uC] at this ⊢;omega)).mono ?_;rintro e w5 ⟨rfl,hP5,_,_⟩;have HP5:=oh hP5;clear hP5;go_wp2_with fail;go_roundg (gk-1)
     case measure=>omega
     case rel=>exact⟨k+1,by omega,by go_num,oh (by rw[HPRE.out,HBY.out];have:=HP5.out;simpa only[uM] using this)⟩
    .have hke:k=n.keys.length:=by omega
     have HPE:=oh HPk.out;rw[zKW HLF.out HG3.out hke] at HPE;obtain⟨a,c,hBW,hOW⟩:=HPE.out.wr.box;have b0:=hBW.d 0 (.slice a (yB n).length c) rfl;have b1:=hBW.d 1 .nilIface rfl;have HOW:=oh hOW;clear hBW hOW hke;go_wp2_with fail;go_region_held3 (λw'=>w'.cell? ⟨w1.heap.size,0,none⟩=some (.slice a (yB n).length c)/\w'.cell? ⟨w1.heap.size,1,none⟩=some .nilIface)
      (first|(with_reducible exact⟨b0,b1⟩)|go_keep)
      (first
       | (go_at_call 64;refine (wrap_nil _ _).mono ?_;rintro e w2 ⟨rfl,rfl⟩)
       | fail)
     all_goals
      go_wp2_with fail;go_ret2
      exact⟨HPE.out.ext.drew,.inl ⟨HR.out,a,c,rfl,(HOW.out.rebase (by omega)).ext (zss wr).drew⟩⟩
  .have p1:=HP.out.box.d 1 (.slice ae n.entries.length ce) rfl;have HSM:Hid (n.entries.length<=65535/\(yB n).length<=100000):=oh ⟨zPH HLF.out HR.out,HLEN.out HR.out⟩;go_wp2_with fail;refine (HP.out.num n.entries.length 2 (.inr (.inl rfl)) (by have:=HSM.out;omega) (by simp)).mono ?_;rintro e w2 ⟨rfl,hP2,_,_⟩;have p1:=hP2.box.d 1 (.slice ae n.entries.length ce) rfl;rw[wN,<- zKU n] at hP2;have HP2:=oh hP2;have hz2:=hP2.ext.size;clear hP2 HP;go_wp2_with fail;go_loopg [28] n.entries.length (λm i wr=>∃k:Nat,k+m=n.entries.length/\i=.int .i64 k/\Hid (zBz ad F w wr (.slice ae n.entries.length ce) (.slice ak n.keys.length ck) (.slice ai n.kids.length ci) true w1.heap.size (zBS n k)))
   case atStart=>exact⟨0,by omega,rfl,HP2⟩
   case round =>
    obtain⟨k,hkm,rfl,HPk⟩:=hrel;by_cases hlt:k<n.entries.length
    .obtain⟨b,off,rfl,hb,hF,hc⟩:=Sl.at HEE.out HPk.out.ext (λ_ _ f=>f.elim) k hlt;have hen:n.entries[k]? = some n.entries[k]:=uA hlt;have hpre:=zKV n hen;have hre:=zEe HLF.out HR.out hen;have hpl:(zBS n (k+1)).length<=100000:=uT (zLe HLF.out (k+1)) HSM.out.2;rw[hpre,uC] at hpl;have c0:=hc 0 _ rfl;simp only[uO] at c0;have c1:=hc 1 _ rfl;have c2:=hc 2 _ rfl;have c3:=hc 3 _ rfl;clear hc hen;generalize n.entries[k]=en at *
     obtain⟨key,value,chain,size⟩:=en;have HPRE:=oh hpre;clear hpre;simp only at c0 c1 c2 c3;unfold qZ at hre;simp only[uL] at hre;obtain⟨hk,hre⟩:=hre;have hk2:key.size<256:=by have:=(jX key).1 hk;omega
     have hnB:wr.heap.size≠w1.heap.size:=by
      obtain⟨_,_,hbb,_⟩:=HPk.out.wr.box;have:=hbb.lt;omega
     have HNB:=oh hnB;have HBE:=oh (zK.new wr #[.string key,.string value,.int .i64 chain,.int .i64 size] 289);clear hk hnB;by_cases hz:chain=0
     .rw[if_pos hz] at hre;subst hz;simp only[uL,uR] at hre;have HV:=oh hre.2;have HBY:Hid (zAJ ⟨key,value,0,size⟩=vM key++(zV 1 0++vM value)):=oh rfl;have HPL:Hid ((zBS n k).length+(vM key++(zV 1 0++vM value)).length<=100000):=oh hpl;clear hre hpl;go_wp2_with fail;refine ((HPk.out.alloc _).text key hk2 (by have:=HPL.out;omega)).mono ?_;rintro e w3 ⟨rfl,hP3,_,hf3⟩;have hB3:=hf3 _ _ _ HNB.out (by decide) HBE.out;have q1:=hB3.d 1 (.string value) rfl;have q2:=hB3.d 2 (.int .i64 0) rfl;have HB3:=oh hB3;have HP3:=oh hP3;clear hB3 hP3 hf3;go_wp2_with fail;refine (HP3.out.num 0 1 (.inl rfl) (by decide) (by have:=HPL.out;simp only[uC] at this ⊢;omega)).mono ?_;rintro e w4 ⟨rfl,hP4,_,hf4⟩;have hB4:=hf4 _ _ _ HNB.out (by decide) HB3.out;have q1:=hB4.d 1 (.string value) rfl;have HP4:=oh hP4;clear hB4 hP4 hf4;go_wp2_with fail;refine (HP4.out.text value (by have:=HV.out;omega) (by have:=HPL.out;simp only[uC] at this ⊢;omega)).mono ?_;rintro e w5 ⟨rfl,hP5,_,_⟩;have HP5:=oh hP5;clear hP5;go_wp2_with fail;go_roundg (gk-1)
      case measure=>omega
      case rel=>exact⟨k+1,by omega,by go_num,oh (by rw[HPRE.out,HBY.out];have:=HP5.out;simpa only[uM] using this)⟩
     .rw[if_neg hz] at hre;simp only[uL,uR,zCo] at hre;obtain⟨⟨⟨⟨g1,g2⟩,g3⟩,g4⟩,g5⟩:=hre;obtain⟨cn,rfl⟩:∃cn:Nat,chain=(cn:Int):=⟨chain.toNat,by omega⟩;obtain⟨sn,rfl⟩:∃sn:Nat,size=(sn:Int):=⟨size.toNat,by omega⟩;have hzb:((cn:Int) == 0)=false:=uS.2 hz;have HBY:Hid (zAJ ⟨key,value,(cn:Int),(sn:Int)⟩=vM key++(zV 1 1++(zV 4 cn++zV 4 sn))):=oh (by unfold zAJ;simp only[if_neg hz,uK]);have HPL:Hid ((zBS n k).length+(vM key++(zV 1 1++(zV 4 cn++zV 4 sn))).length<=100000):=oh (by rw[<- HBY.out];exact hpl);have HC:Hid (cn<256 ^ 4/\sn<256 ^ 4):=oh (by constructor <;> omega);clear hpl hz g1 g2 g3 g4 g5;go_wp2_with fail;refine ((HPk.out.alloc _).text key hk2 (by have:=HPL.out;omega)).mono ?_;rintro e w3 ⟨rfl,hP3,_,hf3⟩;have hB3:=hf3 _ _ _ HNB.out (by decide) HBE.out;have q2:=hB3.d 2 (.int .i64 (cn:Int)) rfl;have HB3:=oh hB3;have HP3:=oh hP3;clear hB3 hP3 hf3;go_wp2_with fail;refine (HP3.out.num 1 1 (.inl rfl) (by decide) (by have:=HPL.out;simp only[uC] at this ⊢;omega)).mono ?_;rintro e w4 ⟨rfl,hP4,_,hf4⟩;have hB4:=hf4 _ _ _ HNB.out (by decide) HB3.out;have q2:=hB4.d 2 (.int .i64 (cn:Int)) rfl;have HB4:=oh hB4;have HP4:=oh hP4;clear hB4 hP4 hf4;go_wp2_with fail;refine (HP4.out.num cn 4 (.inr (.inr rfl)) HC.out.1 (by have:=HPL.out;simp only[uC] at this ⊢;omega)).mono ?_;rintro e w5 ⟨rfl,hP5,_,hf5⟩;have hB5:=hf5 _ _ _ HNB.out (by decide) HB4.out;have q3:=hB5.d 3 (.int .i64 (sn:Int)) rfl;have HP5:=oh hP5;clear hB5 hP5 hf5;go_wp2_with fail;refine (HP5.out.num sn 4 (.inr (.inr rfl)) HC.out.2 (by have:=HPL.out;simp only[uC] at this ⊢;omega)).mono ?_;rintro e w6 ⟨rfl,hP6,_,_⟩;have HP6:=oh hP6;clear hP6;go_wp2_with fail;go_roundg (gk-1)
      case measure=>omega
      case rel=>exact⟨k+1,by omega,by go_num,oh (by rw[HPRE.out,HBY.out];have:=HP6.out;simpa only[uM] using this)⟩
    .have hke:k=n.entries.length:=by omega
     have HPE:=oh HPk.out;rw[zLd HLF.out hke] at HPE;obtain⟨a,c,hBW,hOW⟩:=HPE.out.wr.box;have b0:=hBW.d 0 (.slice a (yB n).length c) rfl;have b1:=hBW.d 1 .nilIface rfl;have HOW:=oh hOW;clear hBW hOW hke;go_wp2_with fail;go_region_held3 (λw'=>w'.cell? ⟨w1.heap.size,0,none⟩=some (.slice a (yB n).length c)/\w'.cell? ⟨w1.heap.size,1,none⟩=some .nilIface)
      (first|(with_reducible exact⟨b0,b1⟩)|go_keep)
      (first
       | (go_at_call 64;refine (wrap_nil _ _).mono ?_;rintro e w2 ⟨rfl,rfl⟩)
       | fail)
     all_goals
      go_wp2_with fail;go_ret2
      exact⟨HPE.out.ext.drew,.inl ⟨HR.out,a,c,rfl,(HOW.out.rebase (by omega)).ext (zss wr).drew⟩⟩
end
theorem zJb(s:ByteArray)(w:World) : Calls Tryz.prog 108 #[.string s] w λe w'=>e=.returned (.bool (qP s))/\w=w':=by
 obtain⟨n,hn⟩:∃n,n=s.size:=⟨_,rfl⟩;have HN:Hid (qP s=(decide (1<=(n:Int)) && decide ((n:Int)<=32))):=oh (by rw[hn];rfl);rw[hn] at HN;clear hn;by_cases h1:0<(s.size:Int)
 all_goals
  have h2:=oh h1
  go_enter Tryz.func108, Tryz.ntmps108
  go_wp2
  go_ret;exact⟨zY (by have:=h2.out;rw[HN.out];first|(rw[uU (show 1<=(s.size:Int) by omega)];simp;done)|(rw[uX (show ¬ 1<=(s.size:Int) by omega)];simp;done)),rfl⟩
end
section
theorem zEv(b:List UInt8)(r:RdA):r.at_+1<=(jK b r).2.at_/\((jK b r).2.at_<=r.at_+1\/(jK b r).2.at_<=b.length):=by
 unfold jK;simp only;have h:(vK b r 1).2.at_=r.at_+1:=rfl;split
 .rw[<- h];exact⟨Int.le_refl _,.inl (Int.le_refl _)⟩
 .rename_i hc;simp only[not_or,Int.not_lt] at hc;simp only;rw[h] at hc ⊢;exact⟨by omega,.inr (by omega)⟩
theorem zLf{b:List UInt8}{r:RdA}{W:Nat}(h:(vK b r W).2.bad=false):r.bad=false/\r.at_+W<=b.length:=by
 unfold vK at h;simp only[pI] at h;refine⟨h.1,?_⟩;have h2:=h.2;unfold yO at h2;split at h2
 .simp at h2
 .split at h2
  .simp at h2
  .rename_i h4;omega
theorem zPI{b:List UInt8}{r:RdA}(h:(jK b r).2.bad=false):r.bad=false/\(jK b r).2.at_<=b.length:=by
 unfold jK at h ⊢;simp only at h ⊢;split
 .rename_i hc;rw[if_pos hc] at h;cases h
 .rename_i hc;simp only[not_or,Int.not_lt,pO] at hc;exact⟨(zLf hc.1).1,by simp only;omega⟩
theorem zCX(b:List UInt8)(r:RdA)(W:Nat):(vK b r W).2.at_=r.at_+W:=rfl
theorem zIB(b:List UInt8)(r:RdA):r.at_+1<=(vV b r).2.at_/\((vV b r).2.at_<=r.at_+10\/(vV b r).2.at_<=b.length+10):=by
 have h1:=zEv b r;unfold vV;simp only;split
 .have h2:=zEv b (vK b (jK b r).2 1).2;have h3:=zCX b (jK b r).2 1;simp only;rw[h3] at h2;omega
 .have h3:=zCX b (jK b r).2 1;have h4:=zCX b (vK b (jK b r).2 1).2 4;have h5:=zCX b (vK b (vK b (jK b r).2 1).2 4).2 4;simp only;rw[h5,h4,h3];omega
theorem zNP{b:List UInt8}{r:RdA}(h:(vV b r).2.bad=false):(vV b r).2.at_<=b.length:=by
 unfold vV at h ⊢;simp only at h ⊢;split
 .rename_i hc;rw[if_pos hc] at h;exact (zPI h).2
 .rename_i hc;rw[if_neg hc] at h;exact (zLf h).2
theorem zFD(b:List UInt8):∀(k:Nat) (r:RdA) (l:List zR),(yX b k r l).1.length<=l.length+(if r.bad then 0 else (b.length-r.at_).toNat+1)
 | 0,r,l=>by simp only[yX];omega
 | k+1,r,l=>by
  rw[yX];cases hb:r.bad with
  | true=>simp
  | false =>
   simp only[wH,tO];have h1:=zFD b k (vV b r).2 (l++[(vV b r).1]);have h2:=zIB b r;simp only[uC,uD,uF] at h1;cases hc:(vV b r).2.bad with
   | true=>rw[hc] at h1;simp at h1;omega
   | false =>
    have h3:=zNP hc;rw[hc] at h1;simp only[wH,tO] at h1;omega
theorem zJc(b:List UInt8)(r:RdA):(vK b r 2).1<=65535:=by
 unfold vK yO;simp only;split
 .simp
 .split
  .simp
  .have h1:=zC6 ((b.drop r.at_.toNat).take 2);have h2:((b.drop r.at_.toNat).take 2).length<=2:=List.length_take_le _ _;have h3:(256:Nat) ^ ((b.drop r.at_.toNat).take 2).length<=256 ^ 2:=wW (by omega) h2;simp only;omega
theorem zG8(lf:Bool)(b:List UInt8):(jZ lf b).1.leaf=lf:=by
 unfold jZ;cases lf <;> simp
theorem zF4(lf:Bool)(b:List UInt8)(hb:b.length<=1000)(hr:zQ (jZ lf b).1=true):(yB (jZ lf b).1).length<=100000:=by
 have hl:=zG8 lf b;cases lf with
 | true =>
  have hn:(jZ true b).1.entries.length<=1001:=by
   unfold jZ;simp only[tY];have:=zFD b (vK b ⟨0,false⟩ 2).1 (vK b ⟨0,false⟩ 2).2 [];have h2:(vK b ⟨0,false⟩ 2).2.at_=2:=zCX b ⟨0,false⟩ 2;simp only[uF] at this;split at this <;> omega
  have hall:∀x∈(jZ true b).1.entries,(zAJ x).length<=59:=λx hx=>by
   obtain⟨i,hi,e⟩:=wI hx;exact zND (zEe hl hr (k:=i) (by rw[<- e];exact uA hi))
  have:=zH2 zAJ 59 _ hall;unfold yB;rw[if_pos hl,uC,zC];omega
 | false =>
  obtain⟨g1,g2,g3⟩:=zJZ hl hr;have hall:∀x∈(jZ false b).1.keys.zip (jZ false b).1.kids.tail,(zAu x).length<=37:=λx hx=>by
   obtain⟨s,c⟩:=x;have h1:=(List.of_mem_zip hx).1;rw[zCW hl,zCM] at hr;simp only[uL,tC] at hr;exact zNE (hr.1.2 s h1)
  have:=zH2 zAu 37 _ hall;have hz:((jZ false b).1.keys.zip (jZ false b).1.kids.tail).length<=255:=by
   rw[List.length_zip,List.length_tail];omega
  unfold yB;rw[if_neg (by rw[hl];simp),uC,uC,zC,zC];omega
end
section
open Go.RowKit
section
variable {F:NP}{ad:Nat->Addr}{w w':World}{B:Nat}{bv:Value}{b:List UInt8}{r:RdA}
theorem zDv(b:List UInt8)(r:RdA)(W:Nat)(hW:W=1\/W=2\/W=4):(vK b r W).1<4294967296/\(vK b r W).2.at_=r.at_+W:=⟨zG5 b r.at_ W hW,rfl⟩
theorem zIC(hL:yE F ad w)(h:RdR F w B bv b r)(W:Nat)(hW:W=1\/W=2\/W=4)(h0:0<=r.at_)(h1:r.at_<=1000000000000)(n:Nat)(r':RdA)(hx:vK b r W=(n,r')) :
  Calls Tryz.prog 317 #[.pointer (some ⟨B,0,none⟩),.int .i64 (W:Int)] w λe w'=>e=.returned (.int .i64 (n:Int))/\RdR F w' B bv b r'/\zA (λk=>k=B) w w':=by
 have:=zO7 hL h W hW h0 h1;rw[hx] at this;exact this
theorem zNQ(hL:yE F ad w)(h:RdR F w B bv b r)(h0:0<=r.at_)(h1:r.at_<=1000000000000) :
    Calls Tryz.prog 318 #[.pointer (some ⟨B,0,none⟩)] w λe w'=>e=.returned (.string (jK b r).1)/\RdR F w' B bv b (jK b r).2/\zA (λk=>k=B) w w':=by
  have HH:=oh h
  have HL:=oh hL
  obtain⟨hf1,hf2⟩:=zDv b r 1 (.inl rfl)
  obtain⟨n,⟨t,bd⟩,hx⟩:∃n r1,vK b r 1=(n,r1):=⟨_,_,rfl⟩
  rw[hx] at hf1 hf2
  simp only at hf1 hf2
  obtain⟨t,rfl⟩:∃k:Nat,t=k:=⟨t.toNat,by omega⟩
  have ht:(t:Int)<=1000000000001:=by omega
  have HX:=oh hx
  have H01:=oh (And.intro h0 h1)
  obtain⟨sa,cap,rfl,hz,hz2,hz3,hz4⟩:=_root_.id h.sl
  unfold maxLen at hz2
  have HT:Hid (jK b r=if bd=true\/(b.length:Int)-t<(n:Int) then (⟨#[]⟩,⟨t,true⟩) else (⟨((b.drop t).take n).toArray⟩,⟨t+n,false⟩)):=oh (by
    unfold jK;simp only[hx,uK])
  have ht1:1<=t:=by omega
  clear h hL hx hf2 h0 h1
  by_cases hc:bd=true\/(b.length:Int)-t<(n:Int)
  . rw[if_pos hc] at HT
    have HC:=oh hc
    clear hc hz4
    go_enter Tryz.func318, Tryz.ntmps318
    go_wp2_with fail
    refine (zIC HL.out HH.out 1 (.inl rfl) H01.out.1 H01.out.2 _ _ HX.out).mono ?_
    rintro e w1 ⟨rfl,hR,hm⟩
    have HR:=oh hR
    have HM:=oh hm
    have c0:=hR.own.d 0 (.slice sa b.length cap) rfl
    have c1:=hR.own.d 1 (.int .i64 (t:Int)) rfl
    have c2:=hR.own.d 2 (.bool bd) rfl
    have f2:=hR.own.frozen 2
    clear hR hm
    have HM1:Hid (∀q,zA (λk=>k=B) w1 ((w1.drewN q).setCell ⟨B,2,none⟩ (.bool true))):=oh λq=>((zss w1).drewN q).trans (zA.at (λk=>k=B) (w1.drewN q) B 2 _ rfl)
    have HB:Hid (∀q,zK (w1.drewN q) B #[.slice sa b.length cap,.int .i64 (t:Int),.bool bd] 458):=oh λ_=>HR.out.own
    cases bd
    . have hlt:(b.length:Int)-t<(n:Int):=by have:=HC.out;simpa using this
      have hd:decide ((b.length:Int)-t<(n:Int))=true:=uU hlt
      go_wp2_with fail
      go_quiet (fail)
      go_wp2_with fail
      go_ret
      exact⟨by rw[HT.out];rfl,by rw[HT.out];exact HR.out.turn ⟨t,true⟩ (HM1.out _) ((HB.out _).set 2 _),HM.out.trans (HM1.out _)⟩
    . go_wp2_with fail
      go_quiet (fail)
      go_wp2_with fail
      go_ret
      exact⟨by rw[HT.out];rfl,by rw[HT.out];exact HR.out.turn ⟨t,true⟩ (HM1.out _) ((HB.out _).set 2 _),HM.out.trans (HM1.out _)⟩
  . rw[if_neg hc] at HT
    have hbd:bd=false:=by cases bd <;> simp_all
    subst hbd
    have hlt:¬ (b.length:Int)-t<(n:Int):=λh=>hc (.inr h)
    clear hc
    have hle:t+n<=b.length:=by omega
    obtain⟨bb,off,rfl⟩:∃bb off,sa=some ⟨bb,off,none⟩:=by
      rcases hz4 with h|⟨bb,off,h,_⟩
      . rw[h] at hle;simp at hle;omega
      . exact⟨bb,off,h⟩
    clear hz4
    go_enter Tryz.func318, Tryz.ntmps318
    go_wp2_with fail
    refine (zIC HL.out HH.out 1 (.inl rfl) H01.out.1 H01.out.2 _ _ HX.out).mono ?_
    rintro e w1 ⟨rfl,hR,hm⟩
    have HR:=oh hR
    have HM:=oh hm
    have c0:=hR.own.d 0 (.slice (some ⟨bb,off,none⟩) b.length cap) rfl
    have c1:=hR.own.d 1 (.int .i64 (t:Int)) rfl
    have c2:=hR.own.d 2 (.bool false) rfl
    have f1:=hR.own.frozen 1
    have hd:decide ((b.length:Int)-t<(n:Int))=false:=uX (by omega)
    have hw1:IntKind.i64.wrap (t:Int)=(t:Int):=IntWalk.i64_in _ (by omega)
    have hi0:(0:Int)<=(t:Int):=by omega
    have hi1:(t:Int)<=(t:Int)+(n:Int):=by omega
    have hi2:(t:Int)+(n:Int)<=(cap:Int):=by omega
    have hi3:(0:Int)<=(t:Int)+(n:Int):=by omega
    have hs1:((t:Int)+(n:Int)).toNat-t=n:=by omega
    have hsl:Sl F w1 1 zO (.slice (if cap=t then some ⟨bb,off,none⟩ else some ⟨bb,off+t,none⟩) n (cap-t)) ((b.drop t).take n):=by
      have hln:((b.drop t).take n).length=n:=by simp;omega
      split
      . have hn0:n=0:=by omega
        subst hn0
        exact⟨some ⟨bb,off,none⟩,cap-t,by simp,by simp,by unfold maxLen;omega,by simp,.inl (by simp)⟩
      . have:=Sl.sub hR.sl t (t+n) (by omega) hle
        rw[uY,show t+n-t=n by omega] at this
        exact this
    have hcv:∀q q':Nat,(convert 27 9 (.slice (if cap=t then some ⟨bb,off,none⟩ else some ⟨bb,off+t,none⟩) n (cap-t))).run Tryz.prog (((w1.drewN q).setCell ⟨B,1,none⟩ (.int .i64 ((t:Int)+(n:Int)))).drewN q')=.ok (.string ⟨((b.drop t).take n).toArray⟩) (((w1.drewN q).setCell ⟨B,1,none⟩ (.int .i64 ((t:Int)+(n:Int)))).drewN q'):=λq q' =>
      zBl (P:=Tryz.prog) Tryz.underlying27 Tryz.underlying5 Tryz.underlying9 (hsl.mods ((((zA.refl F w1).drewN q).trans (zA.at F (w1.drewN q) B 1 _ hR.mem)).drewN q'))
    have HCV:=oh hsl
    have HM1:Hid (∀q q',zA (λk=>k=B) w1 (((w1.drewN q).setCell ⟨B,1,none⟩ (.int .i64 ((t:Int)+(n:Int)))).drewN q')):=oh λq q'=>(((zss w1).drewN q).trans (zA.at (λk=>k=B) (w1.drewN q) B 1 _ rfl)).drewN q'
    have HB:Hid (∀q q',zK (((w1.drewN q).setCell ⟨B,1,none⟩ (.int .i64 ((t:Int)+(n:Int)))).drewN q') B #[.slice (some ⟨bb,off,none⟩) b.length cap,.int .i64 ((t:Int)+(n:Int)),.bool false] 458):=oh λq _=>zK.set (w:=w1.drewN q) HR.out.own 1 _
    clear hR hm hsl
    go_wp2_with fail
    go_quiet (fail)
    go_wp2_with fail
    go_quiet (fail)
    all_goals go_wp2_with fail
    all_goals
      go_ret
      try (have e : cap = t := by assumption
           subst e)
      exact⟨by rw[HT.out];rfl,by rw[HT.out];exact HR.out.turn _ (HM1.out _ _) (HB.out _ _),HM.out.trans (HM1.out _ _)⟩
end
theorem Tryz.mkE:(Tryz.prog.info? 289).map (λi=>(i.zero,i.size,i.bytes))=some (some (.agg #[.string ⟨#[]⟩,.string ⟨#[]⟩,.int .i64 0,.int .i64 0]),4,48):=by kernel_rfl
theorem Tryz.mkS:(Tryz.prog.info? 9).map (λi=>(i.zero,i.size,i.bytes))=some (some (.string ⟨#[]⟩),1,16):=by kernel_rfl
theorem Tryz.elE:ElT Tryz.prog 275 289 (.agg #[.string ⟨#[]⟩,.string ⟨#[]⟩,.int .i64 0,.int .i64 0]) 4 48:=⟨Tryz.underlying275,Tryz.mkE,rfl,by decide,by decide⟩
theorem Tryz.elS:ElT Tryz.prog 45 9 (.string ⟨#[]⟩) 1 16:=⟨Tryz.underlying45,Tryz.mkS,rfl,by decide,by decide⟩
theorem zBT:zCg jW 4:=⟨λ_=>rfl,by intro x u hu;simp[jW] at hu;rcases hu with rfl|rfl|rfl|rfl <;> rfl⟩
theorem zB0:zCg vQ 1:=⟨λ_=>rfl,by intro x u hu;simp[vQ] at hu;subst hu;rfl⟩
theorem zBU{P:Program}{α:Type}{F G:NP}{w:World}{t e:TypeId}{z:Value}{sz bytes:Nat}{enc:α->List Value}(T:ElT P t e z sz bytes)(E:zCg enc sz)
  {ops:Array Oper} {o:Oper} {a:Act} {K:Act->World->Prop} {Q:Exit->Act->World->Prop} {X:Prop} (hgd:o.guard=none) (sx x:Operand)
  (ho:o.op=.call { callee:=.builtin .append,args:=#[sx,x],argTypes:=#[t,t] })
  (base:Nat) (v s:Value) (l m:List α) (hv:a.eval sx=v) (hx:a.eval x=s) (hown:yA F w base e sz enc v l) (hs:Sl G w sz enc s m) (hb:(l.length+m.length) * bytes<=140737488355328) (hbase:base<=w.heap.size) (hn:¬ F w.heap.size)
  (h:∀a' c' w',yA F w' base e sz enc (.slice a' (l.length+m.length) c') (l++m)->zA (λk=>v.ownBlock=some k) w w' ->
   ((Value.slice a' (l.length+m.length) c').ownBlock=v.ownBlock\/(Value.slice a' (l.length+m.length) c').ownBlock=some w.heap.size)->K (a.put o.dst (.slice a' (l.length+m.length) c')) w') :
  if Region.wanted o (yielded ops a.tmps)=true then Oper.wp P o a w K Q else X:=by
 have hw:Region.wanted o (yielded ops a.tmps)=true:=by simp[Region.wanted,hgd]
 rw[if_pos hw];obtain⟨i,hi,hz,hs1,hb1⟩:=zE8 T.info;obtain⟨a',c',w',hr,h2,h3,h4⟩:=zDL (P:=P) (F:=F) (G:=G) (w:=w) base t o.type e i z sz bytes T.under hi hz hs1 hb1 T.zs T.sz0 enc E.len E.one v s l m hown hs hb T.by0 hbase hn;unfold Oper.wp execOp;simp only[ho,resolve,invoke,builtin,Sem.run_bind,Sem.run_pure,Result.andThen_ok,pM,wO,rZ,hv,hx,hr];exact h a' c' w' h2 (zA.of_grown h3) h4
theorem yA.far{α β:Type}{F G:NP}{w:World}{base base':Nat}{e e':TypeId}{sz sz':Nat}{enc:α->List Value}{enc':β->List Value}{v v':Value}{x:List α}{x':List β}(h:yA F w base e sz enc v x)(h':yA G w base' e' sz' enc' v' x')(hne:e≠e'):∀g,v.ownBlock=some g->v'.ownBlock≠some g:=by
 intro g hg hg';rcases h'.1.2 with ⟨rfl,_⟩|⟨g',cap,cur,rfl,_,h2,_⟩
 .simp[Value.ownBlock] at hg'
 .simp[Value.ownBlock] at hg';subst hg';exact yA.notB h (B:=g') (c:=cur) (t:=e') h2 hne.symm g' hg rfl
def GB(F:NP)(w:World):NP:=λk=>F k\/(w.heap.size<=k/\k<w.heap.size+2)
def NoF:NP:=λ_=>False
structure vX(F:NP)(ad:Nat->Addr)(w wr:World)(lf:Bool)(bv:Value)(b:List UInt8)(r:RdA)(es:List zR)(ks:List ByteArray)(is:List Int)(ve vk vi s1 s2 s3:Value):Prop where
 ext:zG w wr
 env0:yE F ad w
 sl0:Sl F w 1 zO bv b
 box:zK wr (w.heap.size+1) #[bv,.int .i64 r.at_,.bool r.bad] 458
 nd:zK wr (w.heap.size+1+1) #[.bool lf,s1,s2,s3] 277
 oe:yA NoF wr (w.heap.size+3) 289 4 jW ve es
 ok:yA NoF wr (w.heap.size+3) 9 1 vQ vk ks
 oi:yA NoF wr (w.heap.size+3) 3 1 yL vi is
 res:zK wr w.heap.size gB 277
section
variable {F:NP}{ad:Nat->Addr}{w wr w2:World}{lf:Bool}{bv:Value}{b:List UInt8}{r r':RdA}{es es':List zR}{ks ks':List ByteArray}{is is':List Int}{ve vk vi s1 s2 s3 ve' vk' vi':Value}
theorem vX.base(h:vX F ad w wr lf bv b r es ks is ve vk vi s1 s2 s3):w.heap.size+3<=wr.heap.size:=by have:=h.nd.lt;omega
theorem vX.env(h:vX F ad w wr lf bv b r es ks is ve vk vi s1 s2 s3):yE (GB F w) ad wr :=
 h.env0.step h.ext.ext (λk hk hn hg=>hg.elim hn (λe=>by omega)) (λk hg=>hg.elim (λhf=>uG (h.env0.lt k hf) h.ext.size) (λe=>by have:=h.base;omega))
theorem vX.rd(h:vX F ad w wr lf bv b r es ks is ve vk vi s1 s2 s3):RdR (GB F w) wr (w.heap.size+1) bv b r :=
 ⟨h.box,h.sl0.step h.ext.ext (λk hk hn hg=>hg.elim hn (λe=>by omega)),.inr ⟨by omega,by omega⟩⟩
theorem vX.step(h:vX F ad w wr lf bv b r es ks is ve vk vi s1 s2 s3)(m:zG wr w2):vX F ad w w2 lf bv b r es ks is ve vk vi s1 s2 s3 :=
 ⟨h.ext.trans m,h.env0,h.sl0,h.box.ext m,h.nd.ext m,h.oe.ext m,h.ok.ext m,h.oi.ext m,h.res.ext m⟩
theorem vX.drew(h:vX F ad w wr lf bv b r es ks is ve vk vi s1 s2 s3):vX F ad w wr.drew lf bv b r es ks is ve vk vi s1 s2 s3:=h.step (zss wr).drew
theorem vX.read(h:vX F ad w wr lf bv b r es ks is ve vk vi s1 s2 s3)(m:zA (λk=>k=w.heap.size+1) wr w2)(g:RdR (GB F w) w2 (w.heap.size+1) bv b r'):vX F ad w w2 lf bv b r' es ks is ve vk vi s1 s2 s3 :=
 ⟨zA.past h.ext (m.mono (λk (hk:k=w.heap.size+1)=>by omega)),h.env0,h.sl0,g.own,h.nd.mods m (by omega),
  h.oe.mods m (λg hg=>by have:=h.oe.lt g hg;omega),h.ok.mods m (λg hg=>by have:=h.ok.lt g hg;omega),h.oi.mods m (λg hg=>by have:=h.oi.lt g hg;omega),h.res.mods m (by omega)⟩
theorem vX.row(h:vX F ad w wr lf bv b r es ks is ve vk vi s1 s2 s3){G:NP}(hG:∀k,G k->w.heap.size+3<=k)(m:zA G wr w2)
  (oe:yA NoF w2 (w.heap.size+3) 289 4 jW ve' es') (ok:yA NoF w2 (w.heap.size+3) 9 1 vQ vk' ks') (oi:yA NoF w2 (w.heap.size+3) 3 1 yL vi' is'):vX F ad w w2 lf bv b r es' ks' is' ve' vk' vi' s1 s2 s3:=by
 have hn:∀k,k<w.heap.size+3->¬ G k:=λk hk g=>by have:=hG k g;omega
 exact⟨zA.past h.ext (m.mono (λk hk=>by have:=hG k hk;omega)),h.env0,h.sl0,h.box.mods m (hn _ (by omega)),h.nd.mods m (hn _ (by omega)),oe,ok,oi,h.res.mods m (hn _ (by omega))⟩
theorem vX.appE(h:vX F ad w wr lf bv b r es ks is ve vk vi s1 s2 s3)(m:zA (λk=>ve.ownBlock=some k) wr w2)(oe:yA NoF w2 (w.heap.size+3) 289 4 jW ve' es'):vX F ad w w2 lf bv b r es' ks is ve' vk vi s1 s2 s3 :=
 h.row (λk hk=>(h.oe.lt k hk).1) m oe (h.ok.mods m (λg hg e=>h.ok.far h.oe (by decide) g hg e)) (h.oi.mods m (λg hg e=>h.oi.far h.oe (by decide) g hg e))
theorem vX.appK(h:vX F ad w wr lf bv b r es ks is ve vk vi s1 s2 s3)(m:zA (λk=>vk.ownBlock=some k) wr w2)(ok:yA NoF w2 (w.heap.size+3) 9 1 vQ vk' ks'):vX F ad w w2 lf bv b r es ks' is ve vk' vi s1 s2 s3 :=
 h.row (λk hk=>(h.ok.lt k hk).1) m (h.oe.mods m (λg hg e=>h.oe.far h.ok (by decide) g hg e)) ok (h.oi.mods m (λg hg e=>h.oi.far h.ok (by decide) g hg e))
theorem vX.appI(h:vX F ad w wr lf bv b r es ks is ve vk vi s1 s2 s3)(m:zA (λk=>vi.ownBlock=some k) wr w2)(oi:yA NoF w2 (w.heap.size+3) 3 1 yL vi' is'):vX F ad w w2 lf bv b r es ks is' ve vk vi' s1 s2 s3 :=
 h.row (λk hk=>(h.oi.lt k hk).1) m (h.oe.mods m (λg hg e=>h.oe.far h.oi (by decide) g hg e)) (h.ok.mods m (λg hg e=>h.ok.far h.oi (by decide) g hg e)) oi
theorem vX.far(h:vX F ad w wr lf bv b r es ks is ve vk vi s1 s2 s3){X:Nat}(hX:w.heap.size+3<=X)(m:zA (λk=>k=X) wr w2)(he:ve.ownBlock≠some X)(hk:vk.ownBlock≠some X)(hi:vi.ownBlock≠some X):vX F ad w w2 lf bv b r es ks is ve vk vi s1 s2 s3 :=
 h.row (G:=λk=>k=X) (λk hk=>by omega) m (h.oe.mods m (λg hg e=>he (by rw[hg,e]))) (h.ok.mods m (λg hg e=>hk (by rw[hg,e]))) (h.oi.mods m (λg hg e=>hi (by rw[hg,e])))
theorem vX.slE(h:vX F ad w wr lf bv b r es ks is ve vk vi s1 s2 s3){G:NP}(hG:∀k,G k->k<w.heap.size+3)(hl:es.length<=140737488355328):Sl G wr 4 jW ve es :=
 yA.sl (F:=G) ⟨h.oe.1,λg hg f=>by have:=h.oe.lt g hg;have:=hG g f;omega⟩ zBT.len hl
theorem vX.slK(h:vX F ad w wr lf bv b r es ks is ve vk vi s1 s2 s3){G:NP}(hG:∀k,G k->k<w.heap.size+3)(hl:ks.length<=140737488355328):Sl G wr 1 vQ vk ks :=
 yA.sl (F:=G) ⟨h.ok.1,λg hg f=>by have:=h.ok.lt g hg;have:=hG g f;omega⟩ zB0.len hl
theorem vX.slI(h:vX F ad w wr lf bv b r es ks is ve vk vi s1 s2 s3){G:NP}(hG:∀k,G k->k<w.heap.size+3)(hl:is.length<=140737488355328):Sl G wr 1 yL vi is :=
 yA.sl (F:=G) ⟨h.oi.1,λg hg f=>by have:=h.oi.lt g hg;have:=hG g f;omega⟩ jR.len hl
theorem vX.gb(h:vX F ad w wr lf bv b r es ks is ve vk vi s1 s2 s3):∀k,GB F w k->k<w.heap.size+3:=λk hk=>hk.elim (λhf=>by have:=h.env0.lt k hf;omega) (λe=>by omega)
theorem vX.put(h:vX F ad w wr lf bv b r es ks is ve vk vi s1 s2 s3)(i:Nat)(v t1 t2 t3:Value)(e:(#[.bool lf,s1,s2,s3]:Array Value).setIfInBounds i v=#[.bool lf,t1,t2,t3]):vX F ad w (wr.setCell ⟨w.heap.size+1+1,i,none⟩ v) lf bv b r es ks is ve vk vi t1 t2 t3:=by
 have m:zA (λk=>k=w.heap.size+1+1) wr (wr.setCell ⟨w.heap.size+1+1,i,none⟩ v):=zA.at _ wr _ i v rfl;have hn:=h.nd.set i v;rw[e] at hn;exact⟨zA.past h.ext (m.mono (λk (hk:k=w.heap.size+1+1)=>by omega)),h.env0,h.sl0,h.box.mods m (by omega),hn,
  h.oe.mods m (λg hg=>by have:=h.oe.lt g hg;omega),h.ok.mods m (λg hg=>by have:=h.ok.lt g hg;omega),h.oi.mods m (λg hg=>by have:=h.oi.lt g hg;omega),h.res.mods m (by omega)⟩
theorem vX.text(h:vX F ad w wr lf bv b r es ks is ve vk vi s1 s2 s3)(h0:0<=r.at_)(h1:r.at_<=1000000000000)(s:ByteArray)(hx:jK b r=(s,r')) :
  Calls Tryz.prog 318 #[.pointer (some ⟨w.heap.size+1,0,none⟩)] wr λe w'=>e=.returned (.string s)/\vX F ad w w' lf bv b r' es ks is ve vk vi s1 s2 s3/\zA (λk=>k=w.heap.size+1) wr w':=by
 have:=zNQ h.env h.rd h0 h1;rw[hx] at this;exact this.mono λe w' ⟨a1,a2,a3⟩=>⟨a1,h.read a3 a2,a3⟩
theorem vX.num(h:vX F ad w wr lf bv b r es ks is ve vk vi s1 s2 s3)(W:Nat)(hW:W=1\/W=2\/W=4)(h0:0<=r.at_)(h1:r.at_<=1000000000000)(n:Nat)(hx:vK b r W=(n,r')) :
  Calls Tryz.prog 317 #[.pointer (some ⟨w.heap.size+1,0,none⟩),.int .i64 (W:Int)] wr λe w'=>e=.returned (.int .i64 (n:Int))/\vX F ad w w' lf bv b r' es ks is ve vk vi s1 s2 s3/\zA (λk=>k=w.heap.size+1) wr w' :=
 (zIC h.env h.rd W hW h0 h1 n r' hx).mono λ_ _ ⟨a1,a2,a3⟩=>⟨a1,h.read a3 a2,a3⟩
end
end
section
open Go.RowKit
attribute [local go_sem ↓] Go.wp_at_zero Go.wp_at_succ
def zKY(F:NP)(ad:Nat->Addr)(w:World)(lf:Bool)(b:List UInt8)(e:Ending)(w':World):Prop :=
 zG w w'/\((∃n ve vk vi,zEM lf b=some n/\e=.returned (.tuple #[.agg #[.bool lf,ve,vk,vi],.nilIface])/\Sl F w' 4 jW ve n.entries/\Sl F w' 1 vQ vk n.keys/\Sl F w' 1 yL vi n.kids) \/
  (zEM lf b=none/\∃f,e=.returned (.tuple #[.agg gB,zI f])/\yN F ad w' (zI f) [-1] 1))
theorem Tryz.nodeSize:(Tryz.prog.info? 277).map (·.size)=some 4:=by kernel_rfl
section
variable {F:NP}{ad:Nat->Addr}{w wr w2:World}
theorem zLg(b:List UInt8)(r:RdA)(hb:b.length<=1000){k:Nat}(h0:0<=r.at_)(h:r.at_<=1020+10 * (k:Int)):0<=(vV b r).2.at_/\(vV b r).2.at_<=1020+10 * ((k+1:Nat):Int):=by
 have:=zIB b r;omega
set_option maxHeartbeats 4000000 in
theorem zKZ(hL:yE F ad w)(bv:Value)(b:List UInt8)(hb:Sl F w 1 zO bv b)(h1000:b.length<=1000) :
  Calls Tryz.prog 244 #[.bool true,bv] w (zKY F ad w true b):=by
 have HL:=oh hL;have HS0:Hid (vX F ad w (((w.alloc gB).alloc (.cells #[bv,.int .i64 0,.bool false] 458)).alloc (.cells #[.bool true,.slice none 0 0,.slice none 0 0,.slice none 0 0] 277)) true bv b ⟨0,false⟩ [] [] [] (.slice none 0 0) (.slice none 0 0) (.slice none 0 0) (.slice none 0 0) (.slice none 0 0) (.slice none 0 0)):=oh
  ⟨(((zss w).alloc _).alloc _).alloc _,hL,hb,by
   have:=(zK.new (w.alloc gB) #[bv,.int .i64 0,.bool false] 458).alloc (.cells #[.bool true,.slice none 0 0,.slice none 0 0,.slice none 0 0] 277);simpa using this,by
   have:=zK.new ((w.alloc gB).alloc (.cells #[bv,.int .i64 0,.bool false] 458)) #[.bool true,.slice none 0 0,.slice none 0 0,.slice none 0 0] 277;simpa using this,yA.nil _ _ _ _ _ _,yA.nil _ _ _ _ _ _,yA.nil _ _ _ _ _ _,((zK.new w _ _).alloc _).alloc _⟩
 have HB:=oh hb;obtain⟨mny,r0,hx⟩:∃n r1,vK b ⟨0,false⟩ 2=(n,r1):=⟨_,_,rfl⟩;have hmn:mny<=65535:=by have:=zJc b ⟨0,false⟩;rw[hx] at this;exact this
 have hr0:r0.at_=2:=by have:=zCX b ⟨0,false⟩ 2;rw[hx] at this;exact this
 have HR0:=oh hr0;have HX:=oh hx;have HND:Hid (jZ true b=(⟨true,(yX b mny r0 []).1,[],[]⟩,(yX b mny r0 []).2)):=oh (by unfold jZ;simp only[hx,tY]);have H10:=oh h1000;obtain⟨ab,cb,rfl,hb1,hb2,hb3,_⟩:=hb;clear hL hx hr0;unfold maxLen at hb2
 go_enter Tryz.func244, Tryz.ntmps244
 go_wp2_with fail;refine (HS0.out.num 2 (.inr (.inl rfl)) (Int.le_refl 0) (show (0:Int)<=1000000000000 by omega) mny HX.out).mono ?_;rintro e w1 ⟨rfl,hS1,_⟩;have HS1:=oh hS1;clear hS1;go_wp2_with fail;go_loopg [9] mny (λm i wr=>∃(k:Nat) (at_:Int) (bd:Bool) (es:List zR) (ve:Value),k+m=mny/\i=.int .i64 k/\Hid (yX b m ⟨at_,bd⟩ es=yX b mny r0 [])/\Hid (vX F ad w wr true (.slice ab b.length cb) b ⟨at_,bd⟩ es [] [] ve (.slice none 0 0) (.slice none 0 0) ve (.slice none 0 0) (.slice none 0 0))/\es.length<=k/\0<=at_/\at_<=1020+10 * (k:Int))
 case atStart=>exact⟨0,r0.at_,r0.bad,[],_,by omega,rfl,oh rfl,HS1,uJ 0,by have:=HR0.out;omega,by have:=HR0.out;omega⟩
 case round =>
  obtain⟨k,at_,bd,es,ve,hkm,rfl,HZ,HS,hes,ha0,ha1⟩:=hrel;have b2:=HS.out.box.d 2 (.bool bd) rfl;by_cases hgo:k<mny/\bd=false
  .obtain⟨hlt,rfl⟩:=hgo;obtain⟨m,rfl⟩:∃m,gk=m+1:=⟨gk-1,by omega⟩;have hat:=zLg b ⟨at_,false⟩ H10.out (k:=k) ha0 ha1;have HZ2:Hid (yX b m (vV b ⟨at_,false⟩).2 (es++[(vV b ⟨at_,false⟩).1])=yX b mny r0 []):=oh (by
    have:=HZ.out;rw[yX] at this;simpa using this)
   clear HZ;obtain⟨key,r1,hk⟩:∃s r1,jK b ⟨at_,false⟩=(s,r1):=⟨_,_,rfl⟩;have hk1:=zEv b ⟨at_,false⟩;rw[hk] at hk1;obtain⟨q,r2,hq⟩:∃n r2,vK b r1 1=(n,r2):=⟨_,_,rfl⟩;have hq1:=zDv b r1 1 (.inl rfl);rw[hq] at hq1;simp only at hk1 hq1;have HK:=oh hk;have HQ:=oh hq;have HR1:Hid (0<=r1.at_/\r1.at_<=1000000/\0<=r2.at_/\r2.at_<=1000000):=oh (by have:=H10.out;omega);have HQ1:=oh hq1.1;clear hk hq hk1 hq1;go_wp2_with fail;refine (HS.out.text ha0 (show at_<=1000000000000 by omega) key HK.out).mono ?_;rintro e w2 ⟨rfl,hS2,_⟩;have HS2:=oh hS2;clear hS2;go_wp2_with fail;have HS3:=oh (HS2.out.step ((zss w2).alloc (.cells #[.string key,.string ⟨#[]⟩,.int .i64 0,.int .i64 0] 289)));refine (HS3.out.num 1 (.inl rfl) HR1.out.1 (by have:=HR1.out;omega) q HQ.out).mono ?_;rintro e w3 ⟨rfl,hS4,hm3⟩;have hB3:=(zK.new w2 #[.string key,.string ⟨#[]⟩,.int .i64 0,.int .i64 0] 289).mods hm3 (by have:=HS2.out.base;omega);have HVX:Hid (ve.ownBlock≠some w2.heap.size):=oh (λe=>by have:=HS2.out.oe.lt _ e;omega);have HB3:=oh hB3;have HS4:=oh hS4;have hz2:=HS2.out.base;clear hB3 hS4 hm3;by_cases hq0:q=0
   .obtain⟨v,r3,hv⟩:∃s r3,jK b r2=(s,r3):=⟨_,_,rfl⟩;have HV:=oh hv;have HRE:Hid (vV b ⟨at_,false⟩=(⟨key,v,0,0⟩,r3)):=oh (by unfold vV;simp only[HK.out,HQ.out,if_pos hq0,HV.out]);clear hv;subst hq0;go_wp2_with fail;refine (HS4.out.text HR1.out.2.2.1 (by have:=HR1.out;omega) v HV.out).mono ?_;rintro e w4 ⟨rfl,hS5,hm4⟩;have hB4:=HB3.out.mods hm4 (by omega);have e1:=hB4.d 1 (.string ⟨#[]⟩) rfl;have ef:=hB4.frozen;have HS5:Hid (vX F ad w (w4.setCell ⟨w2.heap.size,1,none⟩ (.string v)) true (.slice ab b.length cb) b r3 es [] [] ve (.slice none 0 0) (.slice none 0 0) ve (.slice none 0 0) (.slice none 0 0)):=oh
     (hS5.far (X:=w2.heap.size) hz2 (zA.at _ w4 _ 1 _ rfl) HVX.out (by simp[Value.ownBlock]) (by simp[Value.ownBlock]))
    have hB5:zK (w4.setCell ⟨w2.heap.size,1,none⟩ (.string v)) w2.heap.size #[.string key,.string v,.int .i64 0,.int .i64 0] 289:=by simpa using hB4.set 1 (.string v)
    have HB5:=oh hB5;clear hS5 hm4 hB4 hB5;have x0:=HB5.out.d 0 (.string key) rfl;have x1:=HB5.out.d 1 (.string v) rfl;have x2:=HB5.out.d 2 (.int .i64 0) rfl;have x3:=HB5.out.d 3 (.int .i64 0) rfl;have n1:=HS5.out.nd.d 1 ve rfl;go_wp2_with (at_builtin;go_loud (refine yC Tryz.elE zBT rfl _ _ rfl (w.heap.size+3) ve _ es [⟨key,v,0,0⟩] rfl rfl (HS5.out.oe.ext (zr.alloc _)) (Sl.one (F:=NoF) (zM (by simp)) (λf=>f)) (by simp only[uD,uF];omega) (by have:=HS5.out.base;simp at this ⊢;omega) (λf=>f) ?_;simp only[uD,uF,uV];intro a2 c2 w5 hO5 hm5 hat5;have hS6:=(HS5.out.step (zr.alloc _)).appE hm5 hO5;have z1:=hS6.nd.d 1 ve rfl;have zf:=hS6.nd.frozen 1));have HS7:Hid (vX F ad w (w5.setCell ⟨w.heap.size+1+1,1,none⟩ (.slice a2 (es.length+1) c2)) true (.slice ab b.length cb) b r3 (es++[⟨key,v,0,0⟩]) [] [] (.slice a2 (es.length+1) c2) (.slice none 0 0) (.slice none 0 0) (.slice a2 (es.length+1) c2) (.slice none 0 0) (.slice none 0 0)):=oh
     (hS6.put 1 (.slice a2 (es.length+1) c2) (.slice a2 (es.length+1) c2) (.slice none 0 0) (.slice none 0 0) rfl)
    clear hS6 hO5 hm5 hat5;rw[HRE.out] at hat;simp only at hat;have HAT:=oh hat;have HZ3:Hid (yX b m r3 (es++[⟨key,v,0,0⟩])=yX b mny r0 []):=oh (by have:=HZ2.out;rw[HRE.out] at this;exact this);clear hat;go_wp2_with fail;go_roundg m
    case measure=>omega
    case rel=>exact⟨k+1,r3.at_,r3.bad,es++[⟨key,v,0,0⟩],_,by omega,by go_num,HZ3,HS7,by rw[uC,uD,uF];omega,HAT.out.1,HAT.out.2⟩
   .have hqb:((q:Int) == 0)=false:=by rw[uS];omega
    obtain⟨c,r3,hc⟩:∃n r3,vK b r2 4=(n,r3):=⟨_,_,rfl⟩;obtain⟨z,r4,hz⟩:∃n r4,vK b r3 4=(n,r4):=⟨_,_,rfl⟩;have hc1:=zDv b r2 4 (.inr (.inr rfl));rw[hc] at hc1;have HC:=oh hc;have HZZ:=oh hz;have HR3:Hid (0<=r3.at_/\r3.at_<=10000000):=oh (by have:=HR1.out;simp only at hc1;omega);have HRE:Hid (vV b ⟨at_,false⟩=(⟨key,⟨#[]⟩,(c:Int),(z:Int)⟩,r4)):=oh (by unfold vV;simp only[HK.out,HQ.out,if_neg hq0,HC.out,HZZ.out]);clear hc hz hc1 hq0;go_wp2_with fail;refine (HS4.out.num 4 (.inr (.inr rfl)) HR1.out.2.2.1 (by have:=HR1.out;omega) c HC.out).mono ?_;rintro e w4 ⟨rfl,hS5,hm4⟩;have hB4:=HB3.out.mods hm4 (by omega);have HB4:=oh hB4;have HS5:=oh hS5;clear hB4 hS5 hm4;go_wp2_with fail;refine (HS5.out.num 4 (.inr (.inr rfl)) HR3.out.1 (by have:=HR3.out;omega) z HZZ.out).mono ?_;rintro e w4b ⟨rfl,hS5,hm4⟩;have hB4:=HB4.out.mods hm4 (by omega);have e2:=hB4.d 2 (.int .i64 0) rfl;have e3:=hB4.d 3 (.int .i64 0) rfl;have ef:=hB4.frozen;have HS6:Hid (vX F ad w ((w4b.setCell ⟨w2.heap.size,2,none⟩ (.int .i64 (c:Int))).setCell ⟨w2.heap.size,3,none⟩ (.int .i64 (z:Int))) true (.slice ab b.length cb) b r4 es [] [] ve (.slice none 0 0) (.slice none 0 0) ve (.slice none 0 0) (.slice none 0 0)):=oh
     (hS5.far (X:=w2.heap.size) hz2 ((zA.at (λk=>k=w2.heap.size) w4b _ 2 _ rfl).trans (zA.at (λk=>k=w2.heap.size) _ _ 3 _ rfl)) HVX.out (by simp[Value.ownBlock]) (by simp[Value.ownBlock]))
    have hB5:zK ((w4b.setCell ⟨w2.heap.size,2,none⟩ (.int .i64 (c:Int))).setCell ⟨w2.heap.size,3,none⟩ (.int .i64 (z:Int))) w2.heap.size #[.string key,.string ⟨#[]⟩,.int .i64 (c:Int),.int .i64 (z:Int)] 289:=by simpa using (hB4.set 2 (.int .i64 (c:Int))).set 3 (.int .i64 (z:Int))
    have HB5:=oh hB5;clear hS5 hm4 hB4 hB5;have x0:=HB5.out.d 0 (.string key) rfl;have x1:=HB5.out.d 1 (.string ⟨#[]⟩) rfl;have x2:=HB5.out.d 2 (.int .i64 (c:Int)) rfl;have x3:=HB5.out.d 3 (.int .i64 (z:Int)) rfl;have n1:=HS6.out.nd.d 1 ve rfl;go_wp2_with (at_builtin;go_loud (refine yC Tryz.elE zBT rfl _ _ rfl (w.heap.size+3) ve _ es [⟨key,⟨#[]⟩,(c:Int),(z:Int)⟩] rfl rfl (HS6.out.oe.ext (zr.alloc _)) (Sl.one (F:=NoF) (zM (by simp)) (λf=>f)) (by simp only[uD,uF];omega) (by have:=HS6.out.base;simp at this ⊢;omega) (λf=>f) ?_;simp only[uD,uF,uV];intro a2 c2 w5 hO5 hm5 hat5;have hS6:=(HS6.out.step (zr.alloc _)).appE hm5 hO5;have z1:=hS6.nd.d 1 ve rfl;have zf:=hS6.nd.frozen 1));have HS7:Hid (vX F ad w (w5.setCell ⟨w.heap.size+1+1,1,none⟩ (.slice a2 (es.length+1) c2)) true (.slice ab b.length cb) b r4 (es++[⟨key,⟨#[]⟩,(c:Int),(z:Int)⟩]) [] [] (.slice a2 (es.length+1) c2) (.slice none 0 0) (.slice none 0 0) (.slice a2 (es.length+1) c2) (.slice none 0 0) (.slice none 0 0)):=oh
     (hS6.put 1 (.slice a2 (es.length+1) c2) (.slice a2 (es.length+1) c2) (.slice none 0 0) (.slice none 0 0) rfl)
    clear hS6 hO5 hm5 hat5;rw[HRE.out] at hat;simp only at hat;have HAT:=oh hat;have HZ3:Hid (yX b m r4 (es++[⟨key,⟨#[]⟩,(c:Int),(z:Int)⟩])=yX b mny r0 []):=oh (by have:=HZ2.out;rw[HRE.out] at this;exact this);clear hat;go_wp2_with fail;go_roundg m
    case measure=>omega
    case rel=>exact⟨k+1,r4.at_,r4.bad,es++[⟨key,⟨#[]⟩,(c:Int),(z:Int)⟩],_,by omega,by go_num,HZ3,HS7,by rw[uC,uD,uF];omega,HAT.out.1,HAT.out.2⟩
  .have HEND:Hid (yX b mny r0 []=(es,⟨at_,bd⟩)):=oh (by
    rw[<- HZ.out];cases gk with
    | zero=>rfl
    | succ m =>
     rw[yX];have:bd=true:=by
      cases bd
      .exact absurd ⟨by omega,rfl⟩ hgo
      .rfl
     rw[this];rfl)
   have HNN:Hid (jZ true b=(⟨true,es,[],[]⟩,⟨at_,bd⟩)):=oh (by rw[HND.out,HEND.out]);have HGN:Hid (zEM true b=if bd=false/\zQ ⟨true,es,[],[]⟩=true/\yB ⟨true,es,[],[]⟩=b then some ⟨true,es,[],[]⟩ else none):=oh (by unfold zEM;simp only[HNN.out]);obtain⟨pa,pc,rfl,hpc1,hpc2⟩:=HS.out.oe.form;unfold maxLen at hpc2;have hlen:zQ ⟨true,es,[],[]⟩=true->(yB ⟨true,es,[],[]⟩).length<=100000:=λhr=>by
    have:=zF4 true b H10.out;rw[HNN.out] at this;exact this hr
   have HPUT:=oh (zEf (F:=GB F w) HS.out.env ⟨true,es,[],[]⟩ (.slice pa es.length pc) (.slice none 0 0) (.slice none 0 0) (HS.out.slE HS.out.gb (by omega)) (Sl.nil _ _ _ _) (Sl.nil _ _ _ _) hlen);have n0:=HS.out.nd.d 0 (.bool true) rfl;have n1:=HS.out.nd.d 1 (.slice pa es.length pc) rfl;have n2:=HS.out.nd.d 2 (.slice none 0 0) rfl;have n3:=HS.out.nd.d 3 (.slice none 0 0) rfl;have hcase:(k<mny/\bd=true)\/(mny<=k/\bd=true)\/(mny<=k/\bd=false):=by
    by_cases h1:k<mny
    .cases bd
     .exact absurd ⟨h1,rfl⟩ hgo
     .exact .inl ⟨h1,rfl⟩
    .cases bd
     .exact .inr (.inr ⟨by omega,rfl⟩)
     .exact .inr (.inl ⟨by omega,rfl⟩)
   have hlenN:=hlen;have HLEN:=oh hlen;clear HZ HEND hlen hgo hlenN;rcases hcase with ⟨hlt,rfl⟩|⟨hlt,rfl⟩|⟨hlt,rfl⟩
   rotate_left 2;focus
    have hlen:=HLEN.out;go_wp2_with fail;refine (HPUT.out).mono ?_;rintro e w6 hP;obtain⟨hx6,hP⟩:=hP;have HS6:=oh (HS.out.step hx6);clear hx6;rcases hP with ⟨hrt,a6,c6,rfl,hO6⟩|⟨hrt,f6,rfl,hE6⟩
    focus
     have HRT:=oh hrt;have HSL6:=oh (yA.sl (F:=NoF) hO6 yU.len (by have:=hlen hrt;omega));clear hrt hO6 hlen;have b2b:=HS6.out.box.d 2 (.bool false) rfl;go_wp2_with fail;refine (zCx (F:=NoF) (G:=F) _ _ _ b HSL6.out (HB.out.ext HS6.out.ext)).mono ?_;rintro e w8 ⟨rfl,hm8⟩;have HS8:=oh (HS6.out.step hm8);clear hm8;by_cases heq:yB ⟨true,es,[],[]⟩=b
     .rw[uU heq];have HEQ:=oh heq;clear heq;have n0:=HS8.out.nd.d 0 (.bool true) rfl;have n1:=HS8.out.nd.d 1 (.slice pa es.length pc) rfl;have n2:=HS8.out.nd.d 2 (.slice none 0 0) rfl;have n3:=HS8.out.nd.d 3 (.slice none 0 0) rfl;have r0:=HS8.out.res.d 0 (.bool false) rfl;have r1:=HS8.out.res.d 1 (.slice none 0 0) rfl;have r2:=HS8.out.res.d 2 (.slice none 0 0) rfl;have r3:=HS8.out.res.d 3 (.slice none 0 0) rfl;have rf:=HS8.out.res.frozen;have HRB:=oh (HS8.out.res.set4 (.bool true) (.slice pa es.length pc) (.slice none 0 0) (.slice none 0 0));have HMR:=oh (zA.set4 (F:=λk=>k=w.heap.size) (zss w8) (.inr rfl) (.bool true) (.slice pa es.length pc) (.slice none 0 0) (.slice none 0 0));go_wp2_with fail;refine bodyPost_ret (zF rfl _ _ w.heap.size 277 #[.bool true,.slice pa es.length pc,.slice none 0 0,.slice none 0 0] _ rfl HRB.out Tryz.underlying277 rfl Tryz.nodeSize) rfl ?_;refine⟨zA.set4 HS8.out.ext (.inl (uJ _)) _ _ _ _,.inl ⟨⟨true,es,[],[]⟩,.slice pa es.length pc,.slice none 0 0,.slice none 0 0,by rw[HGN.out];exact if_pos (by first|exact⟨rfl,HRT.out,HEQ.out⟩|exact⟨trivial,HRT.out,HEQ.out⟩),rfl,?_,?_,?_⟩⟩
      .exact (HS8.out.slE (G:=GB F w) HS8.out.gb (by omega)).step (HMR.out.mono (λk (hk:k=w.heap.size)=>.inr ⟨by omega,by omega⟩)) (λk _ hn hf=>hn (.inl hf))
      .exact (HS8.out.slK (G:=GB F w) HS8.out.gb (by simp)).step (HMR.out.mono (λk (hk:k=w.heap.size)=>.inr ⟨by omega,by omega⟩)) (λk _ hn hf=>hn (.inl hf))
      .exact (HS8.out.slI (G:=GB F w) HS8.out.gb (by simp)).step (HMR.out.mono (λk (hk:k=w.heap.size)=>.inr ⟨by omega,by omega⟩)) (λk _ hn hf=>hn (.inl hf))
     rw[uX heq];have HEQ:=oh heq;clear heq;have HS6:=HS8;have b2c:=HS6.out.box.d 2 (.bool false) rfl;have HNE:Hid (zEM true b=none):=oh (by rw[HGN.out];exact if_neg (λh=>HEQ.out h.2.2))
    rotate_left;focus
     have HRT:=oh hrt;clear hrt hE6;have b2c:=HS6.out.box.d 2 (.bool false) rfl;have HNE:Hid (zEM true b=none):=oh (by rw[HGN.out];exact if_neg (λh=>by have:=h.2.1;rw[HRT.out] at this;cases this))
   rotate_left 2;iterate 2
    focus
     go_wp2_with fail;refine (HPUT.out).mono ?_;rintro e w6 hP;obtain⟨hx6,hP⟩:=hP;have HS6:=oh (HS.out.step hx6);clear hx6;rcases hP with ⟨_,a6,c6,rfl,_⟩|⟨_,f6,rfl,_⟩
     all_goals
      have b2c:=HS6.out.box.d 2 (.bool true) rfl;have HNE:Hid (zEM true b=none):=oh (by rw[HGN.out];exact if_neg (λh=>by have:=h.1;cases this))
    rotate_left 2
   all_goals
    have g1:=HS6.out.env.c1;go_wp2_with fail;refine (yR HS6.out.env _ _ [] 1 (.sent 1 (by decide) (by decide))).mono ?_;rintro e w7 ⟨f7,rfl,hE7,hm7⟩;have hS7:=HS6.out.step hm7;have r0:=hS7.res.d 0 (.bool false) rfl;have r1:=hS7.res.d 1 (.slice none 0 0) rfl;have r2:=hS7.res.d 2 (.slice none 0 0) rfl;have r3:=hS7.res.d 3 (.slice none 0 0) rfl;have rf:=hS7.res.frozen;have HS7:=oh hS7;have HE7:=oh hE7;have HRB:=oh (hS7.res.set4 (.bool false) (.slice none 0 0) (.slice none 0 0) (.slice none 0 0));clear hS7 hE7 hm7;go_wp2_with fail;refine bodyPost_ret (zF rfl _ _ w.heap.size 277 gB _ rfl HRB.out Tryz.underlying277 rfl Tryz.nodeSize) rfl ?_;exact⟨zA.set4 HS7.out.ext (.inl (uJ _)) _ _ _ _,.inr ⟨HNE.out,f7,rfl,HE7.out.step (zA.set4 (zss w7) (.inr (.inr ⟨uJ _,by omega⟩)) _ _ _ _) (λk _ hn hf=>hn (.inl hf))⟩⟩
end
end
end Go.Proofs.YtgphfebjjedeaaaGreatDoor
