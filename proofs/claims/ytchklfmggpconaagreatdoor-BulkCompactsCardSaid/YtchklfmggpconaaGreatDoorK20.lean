import Derived.Test.YtchklfmggpconaaGreatDoorK19
import Derived.Deep.RegionHeld3
import Derived.Test.YtchklfmggpconaaGreatDoorK18
import Derived.BigQuiet
namespace Go.Proofs.YtchklfmggpconaaGreatDoor
open Lib renaming hid->oh
set_option maxRecDepth 100000
section
open Go.RowKit
attribute [local go_sem ↓] Go.wp_at_zero Go.wp_at_succ
theorem zEr{α:Type}(f:α->List UInt8)(l:List α)(k:Nat):((l.take k).flatMap f).length<=(l.flatMap f).length:=by
 have h:l.flatMap f=(l.take k).flatMap f++(l.drop k).flatMap f:=by rw[<- tJ,uZ]
 rw[h,uC];omega
def zA7(n:zF)(k:Nat):List UInt8:=yI 2 n.entries.length++(n.entries.take k).flatMap jT
def zAn(n:zF)(k:Nat):List UInt8:=yI 2 n.kids.length++(yI 4 (n.kids.headD 0).toNat++((n.keys.zip n.kids.tail).take k).flatMap zAh)
theorem zJp(n:zF):zA7 n 0=yI 2 n.entries.length:=by simp[zA7]
theorem zJq(n:zF){k:Nat}{e:zI}(h:n.entries[k]? = some e):zA7 n (k+1)=zA7 n k++jT e:=by
 unfold zA7;rw[yJ _ _ _ h,tJ,<- uS];simp
theorem zKz{n:zF}(hl:n.leaf=true){k:Nat}(hk:k=n.entries.length):zA7 n k=zZ n:=by
 unfold zA7 zZ;rw[hk,wU,if_pos hl]
theorem zK0{n:zF}(hl:n.leaf=true)(k:Nat):(zA7 n k).length<=(zZ n).length:=by
 unfold zZ zA7;rw[if_pos hl];have:=zEr jT n.entries k;simp only[uC];omega
theorem zIT(n:zF):zAn n 0=yI 2 n.kids.length++yI 4 (n.kids.headD 0).toNat:=by simp[zAn]
theorem zIU(n:zF){k:Nat}{s:ByteArray}{c:Int}(h:n.keys[k]? = some s)(h2:n.kids[k+1]? = some c):zAn n (k+1)=zAn n k++zAh (s,c):=by
 have hz:(n.keys.zip n.kids.tail)[k]? = some (s,c):=by
  rw[List.getElem?_zip_eq_some];exact⟨h,by rw[List.getElem?_tail];exact h2⟩
 unfold zAn;rw[yJ _ _ _ hz,tJ];simp only[uS,wI,List.flatMap_nil,wR]
theorem zJr{n:zF}(hl:n.leaf=false)(_hk2:n.kids.length=n.keys.length+1){k:Nat}(hk:k=n.keys.length):zAn n k=zZ n:=by
 unfold zAn zZ;rw[wE (by simp;omega),if_neg (by rw[hl];simp)]
theorem zJs{n:zF}(hl:n.leaf=false)(k:Nat):(zAn n k).length<=(zZ n).length:=by
 unfold zZ zAn;rw[if_neg (by rw[hl];simp)];have:=zEr zAh (n.keys.zip n.kids.tail) k;simp only[uC];omega
def zQs(F:Nat->Prop)(ad:Nat->Addr)(w:World)(n:zF)(e:Ending)(w':World):Prop :=
 zJ w w'/\((zM n=true/\∃a c,e=.returned (.tuple #[.slice a (zZ n).length c,.nilIface])/\zU (λ_=>False) w' w.heap.size 5 1 yE (.slice a (zZ n).length c) (zZ n)) \/
  (zM n=false/\∃f,e=.returned (.tuple #[.slice none 0 0,zQ f])/\qQ F ad w' (zQ f) [-1, -1] 1))
theorem zED{n:zF}(hl:n.leaf=true)(hr:zM n=true){k:Nat}{e:zI}(h:n.entries[k]? = some e):yC e=true:=by
 rw[zFB hl] at hr;unfold zFi at hr;simp only[uK,tD] at hr;exact hr.1.1.1 e (wM h)
theorem zOf{n:zF}(hl:n.leaf=true)(hr:zM n=true):n.entries.length<=65535:=by
 rw[zFB hl] at hr;simp only[uK,uQ] at hr;exact hr.2
theorem zMd{n:zF}(hl:n.leaf=false)(hr:zM n=true){k:Nat}{s:ByteArray}(h:n.keys[k]? = some s):s.size<256:=by
 rw[zCB hl,zBy] at hr;simp only[uK,tD] at hr;have:=(vC s).1 (hr.1.2 s (wM h));omega
theorem zIs{n:zF}(hl:n.leaf=false)(hr:zM n=true):2<=n.kids.length/\n.kids.length<=256/\n.kids.length=n.keys.length+1:=by
 rw[zCB hl,zBy] at hr;simp only[uK] at hr;have:=(zDe n).1 hr.1.1.1;omega
theorem zIt{n:zF}(hl:n.leaf=false)(hr:zM n=true){k:Nat}{c:Int}(h:n.kids[k]? = some c):2<=c/\c<256:=by
 rw[zCB hl,zBy] at hr;simp only[uK,tD] at hr;simpa[zCL] using hr.1.1.2.1 c (wM h)
section
variable {F:Nat->Prop}{ad:Nat->Addr}{w w':World}
theorem WrR.new(w:World)(base:Nat)(h:base<=w.heap.size):WrR base (w.alloc (.cells #[.slice none 0 0,.nilIface] 222)) w.heap.size [] :=
 ⟨⟨none,0,zL.new w _ _,zU.nil _ _ _ _ _ _⟩,h⟩
end
structure zBf(ad:Nat->Addr)(F:Nat->Prop)(w w1:World)(ve vk vi:Value)(lf:Bool)(B:Nat)(l:List UInt8):Prop where
 ext:zJ w w1
 wr:WrR (w.heap.size+1) w1 B l
 env0:yW F ad w
 box:zL w1 w.heap.size #[.bool lf,ve,vk,vi] 118
section
variable {F:Nat->Prop}{ad:Nat->Addr}{w w1 w2 w':World}{n:zF}{ve vk vi:Value}{lf:Bool}{B:Nat}{l l':List UInt8}
theorem zBf.step(h:zBf ad F w w1 ve vk vi lf B l)(m:zA (λk=>w.heap.size+1<=k) w1 w2)(g:WrR (w.heap.size+1) w2 B l'):zBf ad F w w2 ve vk vi lf B l' :=
 ⟨zA.past h.ext (m.mono (λk (hk:w.heap.size+1<=k)=>by omega)),g,h.env0,h.box.mods m (by omega)⟩
theorem zBf.alloc(h:zBf ad F w w1 ve vk vi lf B l)(o:Obj):zBf ad F w (w1.alloc o) ve vk vi lf B l :=
 h.step ((zA.refl _ w1).alloc o) (by
  obtain⟨a,c,h1,h2⟩:=h.wr.box;exact⟨⟨a,c,h1.alloc o,h2.ext ((zA.refl _ w1).alloc o)⟩,h.wr.ge⟩)
theorem zBf.env(h:zBf ad F w w1 ve vk vi lf B l):yW F ad w1:=h.env0.mods h.ext.ext
theorem zBf.lt(h:zBf ad F w w1 ve vk vi lf B l):∀k,F k->k<w.heap.size+1:=λk hk=>by have:=h.env0.lt k hk;omega
theorem zBf.num(h:zBf ad F w w1 ve vk vi lf B l)(m W:Nat)(hW:W=1\/W=2\/W=4)(hm:m<256 ^ W)(hlen:l.length<=100000) :
  Calls Tryz.prog 130 #[.pointer (some ⟨B,0,none⟩),.int .i64 (m:Int),.int .i64 (W:Int)] w1 λe w'=>e=.returned (.tuple #[])/\zBf ad F w w' ve vk vi lf B (l++yI W m)/\zA (λk=>w.heap.size+1<=k) w1 w'/\WFr B w1 w' :=
 (zKq h.env h.lt h.wr m W hW hm hlen).mono λ_ _ ⟨h1,h2,h3,h4⟩=>⟨h1,h.step h3 h2,h3,h4⟩
theorem zBf.text(h:zBf ad F w w1 ve vk vi lf B l)(s:ByteArray)(hs:s.size<256)(hlen:l.length<=100000) :
  Calls Tryz.prog 131 #[.pointer (some ⟨B,0,none⟩),.string s] w1 λe w'=>e=.returned (.tuple #[])/\zBf ad F w w' ve vk vi lf B (l++vH s)/\zA (λk=>w.heap.size+1<=k) w1 w'/\WFr B w1 w' :=
 (zOX h.env h.lt h.wr s hs hlen).mono λ_ _ ⟨h1,h2,h3,h4⟩=>⟨h1,h.step h3 h2,h3,h4⟩
theorem zBp{G:Nat->Prop}{w w':World}(m:zA G w w'){b o:Nat}{v:Value}(h:w.cell? ⟨b,o,none⟩=some v)(hb:¬ G b):w'.cell? ⟨b,o,none⟩=some v:=(m.cell (qY h) hb).trans h
theorem zP1(l:List Int)(h:0<l.length):l.headD 0=l[0]:=by
 cases l with
 | nil=>simp at h
 | cons a r=>rfl
theorem zEE(hL:yW F ad w)(n:zF)(ve vk vi:Value)(hve:Sl F w 4 vA ve n.entries)(hvk:Sl F w 1 qK vk n.keys)(hvi:Sl F w 1 yB vi n.kids)(hlen:zM n=true->(zZ n).length<=100000) :
  Calls Tryz.prog 96 #[.agg #[.bool n.leaf,ve,vk,vi]] w (zQs F ad w n):=by
 have m0:zJ w (w.alloc (.cells #[.bool n.leaf,ve,vk,vi] 118)):=(zA.refl _ w).alloc _;have HB0:=oh (zL.new w #[.bool n.leaf,ve,vk,vi] 118);have HVE:=oh hve;have HVK:=oh hvk;have HVI:=oh hvi;have HL:=oh hL;have HCK:=oh (zEq (hL.mods m0.ext) n ve vk vi (hve.ext m0) (hvk.ext m0) (hvi.ext m0));have HM0:=oh m0;have HLEN:=oh hlen;obtain⟨ae,ce,rfl,he1,he2,he3,hee⟩:=hve;obtain⟨ak,ck,rfl,hk1,hk2,hk3,hkk⟩:=hvk;obtain⟨ai,ci,rfl,hi1,hi2,hi3,hii⟩:=hvi;have HEE:=oh hee;have HKK:=oh hkk;have HII:=oh hii;clear hL m0 hlen hee hkk hii;unfold maxLen at he2 hk2 hi2;generalize hlf:n.leaf=lf
 rw[hlf] at HB0 HCK HM0;have HLF:=oh hlf;clear hlf
 go_enter Tryz.func96, Tryz.ntmps96
 go_wp2_with fail;refine (HCK.out).mono ?_;rintro e w1 ⟨ev,rfl,hE,hm1⟩;have HB1:=oh (HB0.out.ext hm1);have HM1:=oh (HM0.out.trans hm1);have HL1:=oh (HL.out.mods HM1.out.ext);clear hm1;cases hr:zM n with
 | false =>
  have HR:=oh hr;unfold zBz at hE;rw[hr,if_neg (by simp)] at hE;obtain⟨f,rfl,hE⟩:=hE;have HE:=oh hE;clear hE hr;go_wp2_with fail;refine (wrap_any HL1.out _ _ _ _ HE.out).mono ?_;rintro e w2 ⟨f2,rfl,hE2,hm2⟩;have HE2:=oh hE2;have HM2:=oh (HM1.out.trans hm2);clear hE2 hm2;go_wp2_with fail;go_ret2
  exact⟨HM2.out,.inr ⟨HR.out,f2,rfl,HE2.out⟩⟩
 | true =>
  have HR:=oh hr;unfold zBz at hE;rw[hr,if_pos rfl] at hE;cases hE
  clear hr;have hz1:=HM1.out.size;have hzb:=HB1.out.lt;have HP:Hid (zBf ad F w (w1.alloc (.cells #[.slice none 0 0,.nilIface] 222)) (.slice ae n.entries.length ce) (.slice ak n.keys.length ck) (.slice ai n.kids.length ci) lf w1.heap.size []):=oh
   ⟨HM1.out.alloc _,WrR.new w1 _ (by omega),HL.out,HB1.out.alloc _⟩
  have p0:=HP.out.box.cell (o:=0) (v:=.bool lf) rfl;cases lf
  .obtain⟨g1,g2,g3⟩:=zIs HLF.out HR.out;have p3:=HP.out.box.cell (o:=3) (v:=.slice ai n.kids.length ci) rfl;have HSM:Hid ((zZ n).length<=100000):=oh (HLEN.out HR.out);have HG3:=oh g3;obtain⟨b0,off0,rfl,hb0,hF0,hc0⟩:=Sl.at HII.out HP.out.ext (λ_ _ f=>f.elim) 0 (by omega);have hk0:=zIt HLF.out HR.out (uA (show 0<n.kids.length by omega));obtain⟨z,hz⟩:∃z:Nat,n.kids[0]=(z:Int):=⟨n.kids[0].toNat,by omega⟩;have HZ:Hid (z<256 ^ 4/\(n.kids.headD 0).toNat=z):=oh ⟨by omega,by
    have:=zP1 n.kids (show 0<n.kids.length by omega);rw[this,hz];rfl⟩
   have i0:(0:Int)<(n.kids.length:Int):=by omega
   have HZ0:=oh hz;clear hc0 hk0 hz g3;go_wp2_with fail;refine (HP.out.num n.kids.length 2 (.inr (.inl rfl)) (by have:=HG3.out;omega) (by simp)).mono ?_;rintro e w2 ⟨rfl,hP2,_,_⟩;have p3:=hP2.box.cell (o:=3) (v:=.slice (some ⟨b0,off0,none⟩) n.kids.length ci) rfl;obtain⟨b0',off0',hbb,_,_,hc0⟩:=Sl.at HII.out hP2.ext (λ_ _ f=>f.elim) 0 (by have:=HG3.out;omega);injection hbb with hbb;injection hbb with hb1 hb2;subst hb1 hb2;have d0:w2.cell? ⟨b0,off0,none⟩=some (.int .i64 (z:Int)):=by
    have:=hc0 0 _ rfl;rw[HZ0.out] at this;simpa using this
   have HP2:=oh hP2;clear hP2 hc0 HP;go_wp2_with fail;refine (HP2.out.num z 4 (.inr (.inr rfl)) HZ.out.1 (by simp[zO])).mono ?_;rintro e w3 ⟨rfl,hP3,_,_⟩;have p2:=hP3.box.cell (o:=2) (v:=.slice ak n.keys.length ck) rfl;rw[uT,<- HZ.out.2,<- zIT n] at hP3;have HP3:=oh hP3;have hz2:=hP3.ext.size;clear hP3 HP2 d0;go_wp2_with fail;go_loopg [70] n.keys.length (λm i wr=>∃k:Nat,k+m=n.keys.length/\i=.int .i64 k/\Hid (zBf ad F w wr (.slice ae n.entries.length ce) (.slice ak n.keys.length ck) (.slice (some ⟨b0,off0,none⟩) n.kids.length ci) false w1.heap.size (zAn n k)))
   case atStart=>exact⟨0,by omega,rfl,HP3⟩
   case round =>
    obtain⟨k,hkm,rfl,HPk⟩:=hrel;by_cases hlt:k<n.keys.length
    .obtain⟨b,off,rfl,hb,hF,hc⟩:=Sl.at HKK.out HPk.out.ext (λ_ _ f=>f.elim) k hlt;have hlk:k+1<n.kids.length:=by rw[HG3.out];omega
     have hen:n.keys[k]? = some n.keys[k]:=uA hlt;have hkd:n.kids[k+1]? = some n.kids[k+1]:=uA hlk;have hpre:=zIU n hen hkd;have hks:=zMd HLF.out HR.out hen;have hkr:=zIt HLF.out HR.out hkd;have hpl:(zAn n (k+1)).length<=100000:=uM (zJs HLF.out (k+1)) HSM.out;rw[hpre,uC] at hpl;have c0:=hc 0 _ rfl;simp only[uO,wK] at c0;obtain⟨y,hy⟩:∃y:Nat,n.kids[k+1]=(y:Int):=⟨n.kids[k+1].toNat,by omega⟩;have HY:Hid (n.kids[k+1]? = some (y:Int)/\y<256 ^ 4):=oh ⟨by rw[hkd,hy],by omega⟩;have HBY:Hid (zAh (n.keys[k],n.kids[k+1])=vH n.keys[k]++yI 4 y):=oh (by unfold zAh;simp only[hy,uL]);have HPL:Hid ((zAn n k).length+(vH n.keys[k]++yI 4 y).length<=100000):=oh (by rw[<- HBY.out];exact hpl);have HPRE:=oh hpre;have HLK:=oh hlk;have i1:(k:Int)+1<(n.kids.length:Int):=by omega
     clear hc hen hkd hpre hpl hkr hy;go_wp2_with fail;refine (HPk.out.text n.keys[k] hks (by have:=HPL.out;omega)).mono ?_;rintro e w4 ⟨rfl,hP4,_,_⟩;have p3:=hP4.box.cell (o:=3) (v:=.slice (some ⟨b0,off0,none⟩) n.kids.length ci) rfl;obtain⟨b0',off0',hbb,_,_,hc0⟩:=Sl.at HII.out hP4.ext (λ_ _ f=>f.elim) (k+1) HLK.out;injection hbb with hbb;injection hbb with hb1 hb2;subst hb1 hb2;have d0:w4.cell? ⟨b0,off0+(k+1),none⟩=some (.int .i64 (y:Int)):=by
      have:=hc0 0 (.int .i64 (n.kids[k+1]'HLK.out)) rfl;have hy2:n.kids[k+1]'HLK.out=(y:Int):=by
       have:=HY.out.1;rw[uA HLK.out] at this;exact Option.some.inj this
      rw[hy2] at this;simpa using this
     have HP4:=oh hP4;clear hP4 hc0;go_wp2_with fail;refine (HP4.out.num y 4 (.inr (.inr rfl)) HY.out.2 (by have:=HPL.out;simp only[uC] at this ⊢;omega)).mono ?_;rintro e w5 ⟨rfl,hP5,_,_⟩;have HP5:=oh hP5;clear hP5;go_wp2_with fail;go_roundg (gk-1)
     case measure=>omega
     case rel=>exact⟨k+1,by omega,by go_num,oh (by rw[HPRE.out,HBY.out];have:=HP5.out;simpa only[uS] using this)⟩
    .have hke:k=n.keys.length:=by omega
     have HPE:=oh HPk.out;rw[zJr HLF.out HG3.out hke] at HPE;obtain⟨a,c,hBW,hOW⟩:=HPE.out.wr.box;have b0:=hBW.cell (o:=0) (v:=.slice a (zZ n).length c) rfl;have b1:=hBW.cell (o:=1) (v:=.nilIface) rfl;have HOW:=oh hOW;clear hBW hOW hke;go_wp2_with fail;go_region_held3 (λw'=>w'.cell? ⟨w1.heap.size,0,none⟩=some (.slice a (zZ n).length c)/\w'.cell? ⟨w1.heap.size,1,none⟩=some .nilIface)
      (first|(with_reducible exact⟨b0,b1⟩)|go_keep)
      (first
       | (go_at_call 38;refine (wrap_nil _ _).mono ?_;rintro e w2 ⟨rfl,rfl⟩)
       | fail)
     all_goals
      go_wp2_with fail;go_ret2
      exact⟨HPE.out.ext.drew,.inl ⟨HR.out,a,c,rfl,(HOW.out.rebase (by omega)).ext (zA.refl _ wr).drew⟩⟩
  .have p1:=HP.out.box.cell (o:=1) (v:=.slice ae n.entries.length ce) rfl;have HSM:Hid (n.entries.length<=65535/\(zZ n).length<=100000):=oh ⟨zOf HLF.out HR.out,HLEN.out HR.out⟩;go_wp2_with fail;refine (HP.out.num n.entries.length 2 (.inr (.inl rfl)) (by have:=HSM.out;omega) (by simp)).mono ?_;rintro e w2 ⟨rfl,hP2,_,_⟩;have p1:=hP2.box.cell (o:=1) (v:=.slice ae n.entries.length ce) rfl;rw[uT,<- zJp n] at hP2;have HP2:=oh hP2;have hz2:=hP2.ext.size;clear hP2 HP;go_wp2_with fail;go_loopg [28] n.entries.length (λm i wr=>∃k:Nat,k+m=n.entries.length/\i=.int .i64 k/\Hid (zBf ad F w wr (.slice ae n.entries.length ce) (.slice ak n.keys.length ck) (.slice ai n.kids.length ci) true w1.heap.size (zA7 n k)))
   case atStart=>exact⟨0,by omega,rfl,HP2⟩
   case round =>
    obtain⟨k,hkm,rfl,HPk⟩:=hrel;by_cases hlt:k<n.entries.length
    .obtain⟨b,off,rfl,hb,hF,hc⟩:=Sl.at HEE.out HPk.out.ext (λ_ _ f=>f.elim) k hlt;have hen:n.entries[k]? = some n.entries[k]:=uA hlt;have hpre:=zJq n hen;have hre:=zED HLF.out HR.out hen;have hpl:(zA7 n (k+1)).length<=100000:=uM (zK0 HLF.out (k+1)) HSM.out.2;rw[hpre,uC] at hpl;have c0:=hc 0 _ rfl;simp only[uO] at c0;have c1:=hc 1 _ rfl;have c2:=hc 2 _ rfl;have c3:=hc 3 _ rfl;clear hc hen;generalize n.entries[k]=en at *
     obtain⟨key,value,chain,size⟩:=en;have HPRE:=oh hpre;clear hpre;simp only at c0 c1 c2 c3;unfold yC at hre;simp only[uK] at hre;obtain⟨hk,hre⟩:=hre;have hk2:key.size<256:=by have:=(vC key).1 hk;omega
     have hnB:wr.heap.size≠w1.heap.size:=by
      obtain⟨_,_,hbb,_⟩:=HPk.out.wr.box;have:=hbb.lt;omega
     have HNB:=oh hnB;have HBE:=oh (zL.new wr #[.string key,.string value,.int .i64 chain,.int .i64 size] 141);clear hk hnB;by_cases hz:chain=0
     .rw[if_pos hz] at hre;subst hz;simp only[uK,uQ] at hre;have HV:=oh hre.2;have HBY:Hid (jT ⟨key,value,0,size⟩=vH key++(yI 1 0++vH value)):=oh rfl;have HPL:Hid ((zA7 n k).length+(vH key++(yI 1 0++vH value)).length<=100000):=oh hpl;clear hre hpl;go_wp2_with fail;refine ((HPk.out.alloc _).text key hk2 (by have:=HPL.out;omega)).mono ?_;rintro e w3 ⟨rfl,hP3,_,hf3⟩;have hB3:=hf3 _ _ _ HNB.out (by decide) HBE.out;have q1:=hB3.cell (o:=1) (v:=.string value) rfl;have q2:=hB3.cell (o:=2) (v:=.int .i64 0) rfl;have HB3:=oh hB3;have HP3:=oh hP3;clear hB3 hP3 hf3;go_wp2_with fail;refine (HP3.out.num 0 1 (.inl rfl) (by decide) (by have:=HPL.out;simp only[uC] at this ⊢;omega)).mono ?_;rintro e w4 ⟨rfl,hP4,_,hf4⟩;have hB4:=hf4 _ _ _ HNB.out (by decide) HB3.out;have q1:=hB4.cell (o:=1) (v:=.string value) rfl;have HP4:=oh hP4;clear hB4 hP4 hf4;go_wp2_with fail;refine (HP4.out.text value (by have:=HV.out;omega) (by have:=HPL.out;simp only[uC] at this ⊢;omega)).mono ?_;rintro e w5 ⟨rfl,hP5,_,_⟩;have HP5:=oh hP5;clear hP5;go_wp2_with fail;go_roundg (gk-1)
      case measure=>omega
      case rel=>exact⟨k+1,by omega,by go_num,oh (by rw[HPRE.out,HBY.out];have:=HP5.out;simpa only[uS] using this)⟩
     .rw[if_neg hz] at hre;simp only[uK,uQ,zCL] at hre;obtain⟨⟨⟨⟨g1,g2⟩,g3⟩,g4⟩,g5⟩:=hre;obtain⟨cn,rfl⟩:∃cn:Nat,chain=(cn:Int):=⟨chain.toNat,by omega⟩;obtain⟨sn,rfl⟩:∃sn:Nat,size=(sn:Int):=⟨size.toNat,by omega⟩;have hzb:((cn:Int) == 0)=false:=uV.2 hz;have HBY:Hid (jT ⟨key,value,(cn:Int),(sn:Int)⟩=vH key++(yI 1 1++(yI 4 cn++yI 4 sn))):=oh (by unfold jT;simp only[if_neg hz,uL]);have HPL:Hid ((zA7 n k).length+(vH key++(yI 1 1++(yI 4 cn++yI 4 sn))).length<=100000):=oh (by rw[<- HBY.out];exact hpl);have HC:Hid (cn<256 ^ 4/\sn<256 ^ 4):=oh (by constructor <;> omega);clear hpl hz g1 g2 g3 g4 g5;go_wp2_with fail;refine ((HPk.out.alloc _).text key hk2 (by have:=HPL.out;omega)).mono ?_;rintro e w3 ⟨rfl,hP3,_,hf3⟩;have hB3:=hf3 _ _ _ HNB.out (by decide) HBE.out;have q2:=hB3.cell (o:=2) (v:=.int .i64 (cn:Int)) rfl;have HB3:=oh hB3;have HP3:=oh hP3;clear hB3 hP3 hf3;go_wp2_with fail;refine (HP3.out.num 1 1 (.inl rfl) (by decide) (by have:=HPL.out;simp only[uC] at this ⊢;omega)).mono ?_;rintro e w4 ⟨rfl,hP4,_,hf4⟩;have hB4:=hf4 _ _ _ HNB.out (by decide) HB3.out;have q2:=hB4.cell (o:=2) (v:=.int .i64 (cn:Int)) rfl;have HB4:=oh hB4;have HP4:=oh hP4;clear hB4 hP4 hf4;go_wp2_with fail;refine (HP4.out.num cn 4 (.inr (.inr rfl)) HC.out.1 (by have:=HPL.out;simp only[uC] at this ⊢;omega)).mono ?_;rintro e w5 ⟨rfl,hP5,_,hf5⟩;have hB5:=hf5 _ _ _ HNB.out (by decide) HB4.out;have q3:=hB5.cell (o:=3) (v:=.int .i64 (sn:Int)) rfl;have HP5:=oh hP5;clear hB5 hP5 hf5;go_wp2_with fail;refine (HP5.out.num sn 4 (.inr (.inr rfl)) HC.out.2 (by have:=HPL.out;simp only[uC] at this ⊢;omega)).mono ?_;rintro e w6 ⟨rfl,hP6,_,_⟩;have HP6:=oh hP6;clear hP6;go_wp2_with fail;go_roundg (gk-1)
      case measure=>omega
      case rel=>exact⟨k+1,by omega,by go_num,oh (by rw[HPRE.out,HBY.out];have:=HP6.out;simpa only[uS] using this)⟩
    .have hke:k=n.entries.length:=by omega
     have HPE:=oh HPk.out;rw[zKz HLF.out hke] at HPE;obtain⟨a,c,hBW,hOW⟩:=HPE.out.wr.box;have b0:=hBW.cell (o:=0) (v:=.slice a (zZ n).length c) rfl;have b1:=hBW.cell (o:=1) (v:=.nilIface) rfl;have HOW:=oh hOW;clear hBW hOW hke;go_wp2_with fail;go_region_held3 (λw'=>w'.cell? ⟨w1.heap.size,0,none⟩=some (.slice a (zZ n).length c)/\w'.cell? ⟨w1.heap.size,1,none⟩=some .nilIface)
      (first|(with_reducible exact⟨b0,b1⟩)|go_keep)
      (first
       | (go_at_call 38;refine (wrap_nil _ _).mono ?_;rintro e w2 ⟨rfl,rfl⟩)
       | fail)
     all_goals
      go_wp2_with fail;go_ret2
      exact⟨HPE.out.ext.drew,.inl ⟨HR.out,a,c,rfl,(HOW.out.rebase (by omega)).ext (zA.refl _ wr).drew⟩⟩
end
section
variable {P P' F F':Nat->Prop}{ad:Nat->Addr}{w w':World}{c s:Nat}{G:GA}{l:List Nat}
theorem zCC(n:zF)(ve vk vi:Value)(w:World)(hve:Sl F w 4 vA ve n.entries)(hvk:Sl F w 1 qK vk n.keys)(hb:zD n<=4611686018427387904)(z:Int)(hz : -4611686018427387904<=z)(hz2:z<=9223372036854775807) :
  Calls Tryz.prog 97 #[.agg #[.bool n.leaf,ve,vk,vi],.int .i64 z] w λe w'=>e=.returned (.bool (decide (zD n<=z-24)))/\zJ w w':=by
 have HW:=λW (m:zJ w W)=>zE3 (vi:=vi) n ve vk W (hve.ext m) (hvk.ext m) hb
 obtain⟨ea,ec,rfl,_,_,_,_⟩:=hve;obtain⟨ka,kc,rfl,_,_,_,_⟩:=hvk;have HWL:=oh HW;have hz3:IntKind.i64.wrap (z-24)=z-24:=by rw[IntWalk.i64_in _ (by omega)]
 clear HW
 go_enter Tryz.func97, Tryz.ntmps97
 go_wp2_with fail;refine (HWL.out _ ?_).mono ?_
 .first|exact zA.refl _ _|exact (zA.refl _ _).alloc _
 rintro e w1 ⟨rfl,hm⟩;have HM:=oh hm;clear hm;go_wp2_with fail;go_ret;exact⟨rfl,by first|exact HM.out|exact ((zA.refl _ w).alloc _).trans HM.out⟩
theorem zDf(h:yS F w P c s G l)(gen:Nat) : Calls Tryz.prog 98 #[qR c s gen] w λe w'=>e=.returned (.int .i64 (G.size:Int))/\zJ w w':=by
 unfold qR;have m0:zJ w (w.alloc (gP c s gen)):=(zA.refl _ w).alloc _;obtain⟨d,HH,h1,h2⟩:=zMN (h.at m0);have gf1:=Tryz.geoF1;have H1:=oh h1;have H2:=oh h2;have M0:=oh m0;clear h1 h2 h m0
 go_enter Tryz.func98, Tryz.ntmps98
 go_wp2_with fail;refine H1.out.mono ?_;rintro e w1 ⟨rfl,rfl⟩;go_wp2_with fail;refine (H2.out _ (zA.refl _ _)).mono ?_;rintro e w2 ⟨rfl,hm⟩;have HM:=oh hm;clear hm;go_wp2_with fail;go_ret;exact⟨rfl,M0.out.trans HM.out⟩
def vV(G:GA)(l:List Nat)(old:Nat):GA :=
 if old=0\/jU l old=true then G else if vK l=none then G else G.drop old
def zAI(l:List Nat)(old:Nat):List Nat :=
 if old=0 then zAs l else if jU l old=true then l else match vK l with
  | none=>l
  | some i=>(yR (l.set i 2) old).1
def zAU(l:List Nat)(old:Nat):Option Nat:=if old≠0/\jU l old=true then some old else vK l
def zJt(l:List Nat)(old:Nat):Prop:=old=0\/l[old]? = some 1\/l[old]? = some 2
def zRW(ad:Nat->Addr)(o:Option Nat)(F':Nat->Prop)(w':World)(e:Ending):Prop :=
 (∃i,o=some i/\e=.returned (.tuple #[.int .i64 (i:Int),.nilIface]))\/(o=none/\∃f,e=.returned (.tuple #[.int .i64 0,zQ f])/\qQ F' ad w' (zQ f) [-1] 3)
theorem zOg{l:List Nat}{i old:Nat}(hi:vK l=some i)(h2:2<=old)(h1:l[old]? = some 1):(yR (l.set i 2) old).2=none:=by
 have hne:i≠old:=λe=>by
  have:=(zAa hi).1;rw[e,h1] at this;simp at this
 have hlt:=(uB.1 h1).1;have hc:zAF (l.set i 2) (old:Int)=none:=by
  unfold zAF;rw[if_neg (by rw[tV];omega)]
 unfold yR;rw[hc];simp only[uL,wP hne,h1];simp
theorem zOh(hL:yW F ad w)(hP:∀k,P k->F k)(h:yS F w P c s G l)(gen old:Nat)(hok:zJt l old)(ho2:old=0\/2<=old)(hob:old<256) :
  Calls Tryz.prog 99 #[qR c s gen,.int .i64 (old:Int)] w (jL F P ad w c s (vV G l old) (zAI l old) (zRW ad (zAU l old))):=by
 have m0:zJ w (w.alloc (gP c s gen)):=(zA.refl _ w).alloc _;have HB0:=oh (zL.new w (gP c s gen) 31);have HM0:=oh m0;have HP:=oh hP;have HG:=oh (h.at m0);have HL:=oh (hL.mods m0.ext);have HN0:Hid (zR P P F F ad w _):=oh (zR.ext hL hP m0);have HBP:Hid (¬ P w.heap.size):=oh (λhp=>by have:=h.bd _ hp;omega);have HOK:=oh hok;clear hL hP h m0 hok;unfold qR;by_cases hz:old=0
 .subst hz;have HT:=oh (zML HL.out HP.out HG.out);have HE:Hid (vV G l 0=G/\zAI l 0=zAs l/\zAU l 0=vK l):=oh ⟨by unfold vV;rw[if_pos (.inl rfl)],by unfold zAI;rw[if_pos rfl],by unfold zAU;rw[if_neg (by simp)]⟩;clear ho2 hob
  go_enter Tryz.func99, Tryz.ntmps99
  go_wp2_with fail;refine HT.out.mono ?_;rintro e w1 ⟨P1,F1,hG1,hN1,hr⟩;have HG1:=oh hG1;have HN1:=oh hN1;clear hG1 hN1;rcases hr with ⟨i,hi,hil,rfl⟩|⟨hi,f,rfl,hE⟩
  .have HI:=oh hi;clear hi;go_wp2_with fail;go_ret2
   refine⟨P1,F1,?_,HN0.out.trans HN1.out,?_⟩
   .rw[HE.out.1,HE.out.2.1];exact HG1.out
   .rw[HE.out.2.2];exact .inl ⟨i,HI.out,rfl⟩
  .have HI:=oh hi;have HEE:=oh hE;clear hi hE;go_wp2_with fail;go_ret2
   refine⟨P1,F1,?_,HN0.out.trans HN1.out,?_⟩
   .rw[HE.out.1,HE.out.2.1];exact HG1.out
   .rw[HE.out.2.2];exact .inr ⟨HI.out,f,rfl,HEE.out⟩
 .have hz1:¬ (old:Int)=0:=by omega
  have h2:2<=old:=by omega
  have HF:=oh (zQo HG.out (old:Int));cases hfr:jU l (old:Int) with
  | true =>
   rw[hfr] at HF;have HE:Hid (vV G l old=G/\zAI l old=l/\zAU l old=some old):=oh ⟨by unfold vV;rw[if_pos (.inr hfr)],by unfold zAI;rw[if_neg hz,if_pos hfr],by unfold zAU;rw[if_pos ⟨hz,hfr⟩]⟩;clear hfr hz ho2
   go_enter Tryz.func99, Tryz.ntmps99
   go_wp2_with fail;refine HF.out.mono ?_;rintro e w1 ⟨rfl,rfl⟩;go_wp2_with fail;go_ret2
   refine⟨P,F,?_,HN0.out,?_⟩
   .rw[HE.out.1,HE.out.2.1];exact HG.out
   .rw[HE.out.2.2];exact .inl ⟨old,rfl,rfl⟩
  | false =>
   rw[hfr] at HF;have h1:l[old]? = some 1:=by
    rcases HOK.out with h|h|h
    .exact absurd h hz
    .exact h
    .unfold jU at hfr;rw[uL,h] at hfr;simp at hfr
   have HE:Hid (vV G l old=(if vK l=none then G else G.drop old)/\zAI l old=(match vK l with|none=>l|some i=>(yR (l.set i 2) old).1)/\zAU l old=vK l):=oh
    ⟨by unfold vV;rw[if_neg (by rw[hfr];simp[hz])],by unfold zAI;rw[if_neg hz,if_neg (by rw[hfr];simp)],by unfold zAU;rw[if_neg (by rw[hfr];simp)]⟩
   have H1:=oh h1;have HT:=oh (zML HL.out HP.out HG.out);clear hfr hz ho2 h1
   go_enter Tryz.func99, Tryz.ntmps99
   go_wp2_with fail;refine HF.out.mono ?_;rintro e w1 ⟨rfl,rfl⟩;go_wp2_with fail;refine HT.out.mono ?_;rintro e w1 ⟨P1,F1,hG1,hN1,hr⟩;have HB1:=oh (hN1.blk HB0.out HBP.out);have HBP1:Hid (¬ P1 w.heap.size):=oh (hN1.not HB0.out.lt HBP.out);have HG1:=oh hG1;have HN1:=oh (HN0.out.trans hN1);clear hG1 hN1;rcases hr with ⟨i,hi,hil,rfl⟩|⟨hi,f,rfl,hE⟩
   .have HTK:Hid (zAs l=l.set i 2):=oh (by unfold zAs;rw[hi]);have HGV:Hid ((yR (zAs l) (old:Int)).2=none):=oh (by rw[HTK.out];exact zOg hi h2 H1.out);have HI:=oh hi;clear hi;have b0:=HB1.out.cell (o:=0) (v:=.pointer (some ⟨c,0,none⟩)) rfl;go_wp2_with fail;refine (zMK HN1.out.env HN1.out.sub HG1.out old).mono ?_;rintro e w2 ⟨P2,F2,hG2,hN2,bb,rfl⟩;have HB2:=oh (hN2.blk HB1.out HBP1.out);have b1:=HB2.out.cell (o:=1) (v:=.pointer (some ⟨s,0,none⟩)) rfl;have HG2:=oh hG2;have HN2:=oh (HN1.out.trans hN2);clear hG2 hN2;go_wp2_with fail;refine (zMM HN2.out.env HN2.out.sub HG2.out (old:Int)).mono ?_;rintro e w3 ⟨P3,F3,hG3,hN3,ev,rfl,hev⟩;rw[HGV.out] at hev;cases hev
    have HG3:=oh hG3;have HN3:=oh (HN2.out.trans hN3);clear hG3 hN3;go_wp2_with fail;go_ret2
    refine⟨P3,F3,?_,HN3.out,?_⟩
    .rw[HE.out.1,HE.out.2.1,HI.out,if_neg (by simp)];simp only;rw[<- HTK.out];exact HG3.out
    .rw[HE.out.2.2];exact .inl ⟨i,HI.out,rfl⟩
   .have HI:=oh hi;have HEE:=oh hE;clear hi hE;go_wp2_with fail;go_ret2
    refine⟨P1,F1,?_,HN1.out,?_⟩
    .rw[HE.out.1,HE.out.2.1,HI.out,if_pos rfl];have:zAs l=l:=by unfold zAs;rw[HI.out]
     rw[<- this];exact HG1.out
    .rw[HE.out.2.2];exact .inr ⟨HI.out,f,rfl,HEE.out⟩
end
theorem zOi(s:ByteArray)(w:World) : Calls Tryz.prog 57 #[.string s] w λe w'=>e=.returned (.bool (qC s))/\w=w':=by
 obtain⟨n,hn⟩:∃n,n=s.size:=⟨_,rfl⟩;have HN:Hid (qC s=(decide (1<=(n:Int)) && decide ((n:Int)<=32))):=oh (by rw[hn];rfl);rw[hn] at HN;clear hn;by_cases h1:0<(s.size:Int)
 all_goals
  have h2:=oh h1
  go_enter Tryz.func57, Tryz.ntmps57
  go_wp2
  go_ret;exact⟨zX (by have:=h2.out;rw[HN.out];first|(rw[wC (show 1<=(s.size:Int) by omega)];simp;done)|(rw[uX (show ¬ 1<=(s.size:Int) by omega)];simp;done)),rfl⟩
end
section
theorem zEZ(b:List UInt8)(r:RdA):r.at_+1<=(jK b r).2.at_/\((jK b r).2.at_<=r.at_+1\/(jK b r).2.at_<=b.length):=by
 unfold jK;simp only;have h:(vI b r 1).2.at_=r.at_+1:=rfl;split
 .rw[<- h];exact⟨Int.le_refl _,.inl (Int.le_refl _)⟩
 .rename_i hc;simp only[not_or,Int.not_lt] at hc;simp only;rw[h] at hc ⊢;exact⟨by omega,.inr (by omega)⟩
theorem zK1{b:List UInt8}{r:RdA}{W:Nat}(h:(vI b r W).2.bad=false):r.bad=false/\r.at_+W<=b.length:=by
 unfold vI at h;simp only[Bool.or_eq_false_iff] at h;refine⟨h.1,?_⟩;have h2:=h.2;unfold jW at h2;split at h2
 .simp at h2
 .split at h2
  .simp at h2
  .rename_i h4;omega
theorem zOj{b:List UInt8}{r:RdA}(h:(jK b r).2.bad=false):r.bad=false/\(jK b r).2.at_<=b.length:=by
 unfold jK at h ⊢;simp only at h ⊢;split
 .rename_i hc;rw[if_pos hc] at h;cases h
 .rename_i hc;simp only[not_or,Int.not_lt,pK] at hc;exact⟨(zK1 hc.1).1,by simp only;omega⟩
theorem zCD(b:List UInt8)(r:RdA)(W:Nat):(vI b r W).2.at_=r.at_+W:=rfl
theorem zHe(b:List UInt8)(r:RdA):r.at_+1<=(vR b r).2.at_/\((vR b r).2.at_<=r.at_+10\/(vR b r).2.at_<=b.length+10):=by
 have h1:=zEZ b r;unfold vR;simp only;split
 .have h2:=zEZ b (vI b (jK b r).2 1).2;have h3:=zCD b (jK b r).2 1;simp only;rw[h3] at h2;omega
 .have h3:=zCD b (jK b r).2 1;have h4:=zCD b (vI b (jK b r).2 1).2 4;have h5:=zCD b (vI b (vI b (jK b r).2 1).2 4).2 4;simp only;rw[h5,h4,h3];omega
theorem zMe{b:List UInt8}{r:RdA}(h:(vR b r).2.bad=false):(vR b r).2.at_<=b.length:=by
 unfold vR at h ⊢;simp only at h ⊢;split
 .rename_i hc;rw[if_pos hc] at h;exact (zOj h).2
 .rename_i hc;rw[if_neg hc] at h;exact (zK1 h).2
theorem zEs(b:List UInt8):∀(k:Nat) (r:RdA) (l:List zI),(qB b k r l).1.length<=l.length+(if r.bad then 0 else (b.length-r.at_).toNat+1)
 | 0,r,l=>by simp only[qB];omega
 | k+1,r,l=>by
  rw[qB];cases hb:r.bad with
  | true=>simp
  | false =>
   simp only[wG,tP];have h1:=zEs b k (vR b r).2 (l++[(vR b r).1]);have h2:=zHe b r;simp only[uC,uD,uE] at h1;cases hc:(vR b r).2.bad with
   | true=>rw[hc] at h1;simp at h1;omega
   | false =>
    have h3:=zMe hc;rw[hc] at h1;simp only[wG,tP] at h1;omega
theorem zIu(b:List UInt8)(r:RdA):(vI b r 2).1<=65535:=by
 unfold vI jW;simp only;split
 .simp
 .split
  .simp
  .have h1:=zEU ((b.drop r.at_.toNat).take 2);have h2:((b.drop r.at_.toNat).take 2).length<=2:=List.length_take_le _ _;have h3:(256:Nat) ^ ((b.drop r.at_.toNat).take 2).length<=256 ^ 2:=tT (by omega) h2;simp only;omega
theorem zGo(lf:Bool)(b:List UInt8):(jZ lf b).1.leaf=lf:=by
 unfold jZ;cases lf <;> simp
theorem zFj(lf:Bool)(b:List UInt8)(hb:b.length<=1000)(hr:zM (jZ lf b).1=true):(zZ (jZ lf b).1).length<=100000:=by
 have hl:=zGo lf b;cases lf with
 | true =>
  have hn:(jZ true b).1.entries.length<=1001:=by
   unfold jZ;simp only[t8];have:=zEs b (vI b ⟨0,false⟩ 2).1 (vI b ⟨0,false⟩ 2).2 [];have h2:(vI b ⟨0,false⟩ 2).2.at_=2:=zCD b ⟨0,false⟩ 2;simp only[uE] at this;split at this <;> omega
  have hall:∀x∈(jZ true b).1.entries,(jT x).length<=59:=λx hx=>by
   obtain⟨i,hi,e⟩:=wQ hx;exact zMS (zED hl hr (k:=i) (by rw[<- e];exact uA hi))
  have:=zHX jT 59 _ hall;unfold zZ;rw[if_pos hl,uC,zO];omega
 | false =>
  obtain⟨g1,g2,g3⟩:=zIs hl hr;have hall:∀x∈(jZ false b).1.keys.zip (jZ false b).1.kids.tail,(zAh x).length<=37:=λx hx=>by
   obtain⟨s,c⟩:=x;have h1:=(List.of_mem_zip hx).1;rw[zCB hl,zBy] at hr;simp only[uK,tD] at hr;exact zMT (hr.1.2 s h1)
  have:=zHX zAh 37 _ hall;have hz:((jZ false b).1.keys.zip (jZ false b).1.kids.tail).length<=255:=by
   rw[List.length_zip,rI];omega
  unfold zZ;rw[if_neg (by rw[hl];simp),uC,uC,zO,zO];omega
end
section
open Go.RowKit
section
variable {F:Nat->Prop}{ad:Nat->Addr}{w w':World}{B:Nat}{bv:Value}{b:List UInt8}{r:RdA}
theorem zDg(b:List UInt8)(r:RdA)(W:Nat)(hW:W=1\/W=2\/W=4):(vI b r W).1<4294967296/\(vI b r W).2.at_=r.at_+W:=⟨zEA b r.at_ W hW,rfl⟩
theorem zHf(hL:yW F ad w)(h:RdR F w B bv b r)(W:Nat)(hW:W=1\/W=2\/W=4)(h0:0<=r.at_)(h1:r.at_<=1000000000000)(n:Nat)(r':RdA)(hx:vI b r W=(n,r')) :
  Calls Tryz.prog 163 #[.pointer (some ⟨B,0,none⟩),.int .i64 (W:Int)] w λe w'=>e=.returned (.int .i64 (n:Int))/\RdR F w' B bv b r'/\zA (λk=>k=B) w w':=by
 have:=zOY hL h W hW h0 h1;rw[hx] at this;exact this
theorem zMf(hL:yW F ad w)(h:RdR F w B bv b r)(h0:0<=r.at_)(h1:r.at_<=1000000000000) :
    Calls Tryz.prog 164 #[.pointer (some ⟨B,0,none⟩)] w λe w'=>e=.returned (.string (jK b r).1)/\RdR F w' B bv b (jK b r).2/\zA (λk=>k=B) w w':=by
  have HH:=oh h
  have HL:=oh hL
  obtain⟨hf1,hf2⟩:=zDg b r 1 (.inl rfl)
  obtain⟨n,⟨t,bd⟩,hx⟩:∃n r1,vI b r 1=(n,r1):=⟨_,_,rfl⟩
  rw[hx] at hf1 hf2
  simp only at hf1 hf2
  obtain⟨t,rfl⟩:∃k:Nat,t=k:=⟨t.toNat,by omega⟩
  have ht:(t:Int)<=1000000000001:=by omega
  have HX:=oh hx
  have H01:=oh (And.intro h0 h1)
  obtain⟨sa,cap,rfl,hz,hz2,hz3,hz4⟩:=_root_.id h.sl
  unfold maxLen at hz2
  have HT:Hid (jK b r=if bd=true\/(b.length:Int)-t<(n:Int) then (⟨#[]⟩,⟨t,true⟩) else (⟨((b.drop t).take n).toArray⟩,⟨t+n,false⟩)):=oh (by
    unfold jK;simp only[hx,uL])
  have ht1:1<=t:=by omega
  clear h hL hx hf2 h0 h1
  by_cases hc:bd=true\/(b.length:Int)-t<(n:Int)
  . rw[if_pos hc] at HT
    have HC:=oh hc
    clear hc hz4
    go_enter Tryz.func164, Tryz.ntmps164
    go_wp2_with fail
    refine (zHf HL.out HH.out 1 (.inl rfl) H01.out.1 H01.out.2 _ _ HX.out).mono ?_
    rintro e w1 ⟨rfl,hR,hm⟩
    have HR:=oh hR
    have HM:=oh hm
    have c0:=hR.own.cell (o:=0) (v:=.slice sa b.length cap) rfl
    have c1:=hR.own.cell (o:=1) (v:=.int .i64 (t:Int)) rfl
    have c2:=hR.own.cell (o:=2) (v:=.bool bd) rfl
    have f2:=hR.own.frozen 2
    clear hR hm
    have HM1:Hid (∀q,zA (λk=>k=B) w1 ((w1.drewN q).setCell ⟨B,2,none⟩ (.bool true))):=oh λq=>((zA.refl _ w1).drewN q).trans (zA.at (λk=>k=B) (w1.drewN q) B 2 _ rfl)
    have HB:Hid (∀q,zL (w1.drewN q) B #[.slice sa b.length cap,.int .i64 (t:Int),.bool bd] 257):=oh λ_=>HR.out.own
    cases bd
    . have hlt:(b.length:Int)-t<(n:Int):=by have:=HC.out;simpa using this
      have hd:decide ((b.length:Int)-t<(n:Int))=true:=wC hlt
      go_wp2_with fail
      go_quiet (fail)
      go_wp2_with fail
      go_ret
      exact⟨by rw[HT.out];rfl,by rw[HT.out];exact HR.out.turn ⟨t,true⟩ (HM1.out _) ((HB.out _).set 2 _),HM.out.trans (HM1.out _)⟩
    . go_wp2_with fail
      go_quiet (fail)
      go_wp2_with fail
      go_ret
      exact⟨by rw[HT.out];rfl,by rw[HT.out];exact HR.out.turn ⟨t,true⟩ (HM1.out _) ((HB.out _).set 2 _),HM.out.trans (HM1.out _)⟩
  . rw[if_neg hc] at HT
    have hbd:bd=false:=by cases bd <;> simp_all
    subst hbd
    have hlt:¬ (b.length:Int)-t<(n:Int):=λh=>hc (.inr h)
    clear hc
    have hle:t+n<=b.length:=by omega
    obtain⟨bb,off,rfl⟩:∃bb off,sa=some ⟨bb,off,none⟩:=by
      rcases hz4 with h|⟨bb,off,h,_⟩
      . rw[h] at hle;simp at hle;omega
      . exact⟨bb,off,h⟩
    clear hz4
    go_enter Tryz.func164, Tryz.ntmps164
    go_wp2_with fail
    refine (zHf HL.out HH.out 1 (.inl rfl) H01.out.1 H01.out.2 _ _ HX.out).mono ?_
    rintro e w1 ⟨rfl,hR,hm⟩
    have HR:=oh hR
    have HM:=oh hm
    have c0:=hR.own.cell (o:=0) (v:=.slice (some ⟨bb,off,none⟩) b.length cap) rfl
    have c1:=hR.own.cell (o:=1) (v:=.int .i64 (t:Int)) rfl
    have c2:=hR.own.cell (o:=2) (v:=.bool false) rfl
    have f1:=hR.own.frozen 1
    have hd:decide ((b.length:Int)-t<(n:Int))=false:=uX (by omega)
    have hw1:IntKind.i64.wrap (t:Int)=(t:Int):=IntWalk.i64_in _ (by omega)
    have hi0:(0:Int)<=(t:Int):=by omega
    have hi1:(t:Int)<=(t:Int)+(n:Int):=by omega
    have hi2:(t:Int)+(n:Int)<=(cap:Int):=by omega
    have hi3:(0:Int)<=(t:Int)+(n:Int):=by omega
    have hs1:((t:Int)+(n:Int)).toNat-t=n:=by omega
    have hsl:Sl F w1 1 yE (.slice (if cap=t then some ⟨bb,off,none⟩ else some ⟨bb,off+t,none⟩) n (cap-t)) ((b.drop t).take n):=by
      have hln:((b.drop t).take n).length=n:=by simp;omega
      split
      . have hn0:n=0:=by omega
        subst hn0
        exact⟨some ⟨bb,off,none⟩,cap-t,by simp,by simp,by unfold maxLen;omega,by simp,.inl (by simp)⟩
      . have:=Sl.sub hR.sl t (t+n) (by omega) hle
        rw[wK,show t+n-t=n by omega] at this
        exact this
    have hcv:∀q q':Nat,(convert 134 9 (.slice (if cap=t then some ⟨bb,off,none⟩ else some ⟨bb,off+t,none⟩) n (cap-t))).run Tryz.prog (((w1.drewN q).setCell ⟨B,1,none⟩ (.int .i64 ((t:Int)+(n:Int)))).drewN q')=.ok (.string ⟨((b.drop t).take n).toArray⟩) (((w1.drewN q).setCell ⟨B,1,none⟩ (.int .i64 ((t:Int)+(n:Int)))).drewN q'):=λq q' =>
      zGj (P:=Tryz.prog) Tryz.underlying134 Tryz.underlying5 Tryz.underlying9 (hsl.mods ((((zA.refl F w1).drewN q).trans (zA.at F (w1.drewN q) B 1 _ hR.mem)).drewN q'))
    have HCV:=oh hsl
    have HM1:Hid (∀q q',zA (λk=>k=B) w1 (((w1.drewN q).setCell ⟨B,1,none⟩ (.int .i64 ((t:Int)+(n:Int)))).drewN q')):=oh λq q'=>(((zA.refl _ w1).drewN q).trans (zA.at (λk=>k=B) (w1.drewN q) B 1 _ rfl)).drewN q'
    have HB:Hid (∀q q',zL (((w1.drewN q).setCell ⟨B,1,none⟩ (.int .i64 ((t:Int)+(n:Int)))).drewN q') B #[.slice (some ⟨bb,off,none⟩) b.length cap,.int .i64 ((t:Int)+(n:Int)),.bool false] 257):=oh λq _=>zL.set (w:=w1.drewN q) HR.out.own 1 _
    clear hR hm hsl
    go_wp2_with fail
    go_quiet (fail)
    go_wp2_with fail
    go_quiet (fail)
    all_goals go_wp2_with fail
    all_goals
      go_ret
      try (have e : cap = t := by assumption
           subst e)
      exact⟨by rw[HT.out];rfl,by rw[HT.out];exact HR.out.turn _ (HM1.out _ _) (HB.out _ _),HM.out.trans (HM1.out _ _)⟩
end
end
end Go.Proofs.YtchklfmggpconaaGreatDoor
