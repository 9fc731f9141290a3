import Derived.Test.YtgphfebjjedeaaaGreatDoorS21
import Derived.Test.YtgphfebjjedeaaaGreatDoorS20
import Derived.BigQuiet
import Derived.Deep.RegionHeld3
namespace Go.Proofs.YtgphfebjjedeaaaGreatDoor
open Lib renaming hid->oh
set_option maxRecDepth 100000
section
theorem zCS(b:List UInt8)(r:RdA):r.at_+1<=(qL b r).2.at_/\((qL b r).2.at_<=r.at_+1\/(qL b r).2.at_<=b.length):=by
 unfold qL;simp only;have h:(yQ b r 1).2.at_=r.at_+1:=rfl;split
 .rw[<- h];exact⟨Int.le_refl _,.inl (Int.le_refl _)⟩
 .rename_i hc;simp only[not_or,Int.not_lt] at hc;simp only;rw[h] at hc ⊢;exact⟨by omega,.inr (by omega)⟩
theorem zGm{b:List UInt8}{r:RdA}{W:Nat}(h:(yQ b r W).2.bad=false):r.bad=false/\r.at_+W<=b.length:=by
 unfold yQ at h;simp only[Bool.or_eq_false_iff] at h;refine⟨h.1,?_⟩;have h2:=h.2;unfold qQ at h2;split at h2
 .simp at h2
 .split at h2
  .simp at h2
  .rename_i h4;omega
theorem zIu{b:List UInt8}{r:RdA}(h:(qL b r).2.bad=false):r.bad=false/\(qL b r).2.at_<=b.length:=by
 unfold qL at h ⊢;simp only at h ⊢;split
 .rename_i hc;rw[if_pos hc] at h;cases h
 .rename_i hc;simp only[not_or,Int.not_lt,tY] at hc;exact⟨(zGm hc.1).1,by simp only;omega⟩
theorem zAj(b:List UInt8)(r:RdA)(W:Nat):(yQ b r W).2.at_=r.at_+W:=rfl
theorem zEd(b:List UInt8)(r:RdA):r.at_+1<=(yZ b r).2.at_/\((yZ b r).2.at_<=r.at_+10\/(yZ b r).2.at_<=b.length+10):=by
 have h1:=zCS b r;unfold yZ;simp only;split
 .have h2:=zCS b (yQ b (qL b r).2 1).2;have h3:=zAj b (qL b r).2 1;simp only;rw[h3] at h2;omega
 .have h3:=zAj b (qL b r).2 1;have h4:=zAj b (yQ b (qL b r).2 1).2 4;have h5:=zAj b (yQ b (yQ b (qL b r).2 1).2 4).2 4;simp only;rw[h5,h4,h3];omega
theorem zHa{b:List UInt8}{r:RdA}(h:(yZ b r).2.bad=false):(yZ b r).2.at_<=b.length:=by
 unfold yZ at h ⊢;simp only at h ⊢;split
 .rename_i hc;rw[if_pos hc] at h;exact (zIu h).2
 .rename_i hc;rw[if_neg hc] at h;exact (zGm h).2
theorem zCY(b:List UInt8):∀(k:Nat) (r:RdA) (l:List zS),(yB b k r l).1.length<=l.length+(if r.bad then 0 else (b.length-r.at_).toNat+1)
 | 0,r,l=>by simp only[yB];omega
 | k+1,r,l=>by
  rw[yB];cases hb:r.bad with
  | true=>simp
  | false =>
   simp only[wI,rF];have h1:=zCY b k (yZ b r).2 (l++[(yZ b r).1]);have h2:=zEd b r;simp only[uC,uG,uK] at h1;cases hc:(yZ b r).2.bad with
   | true=>rw[hc] at h1;simp at h1;omega
   | false =>
    have h3:=zHa hc;rw[hc] at h1;simp only[wI,rF] at h1;omega
theorem zFQ(b:List UInt8)(r:RdA):(yQ b r 2).1<=65535:=by
 unfold yQ qQ;simp only;split
 .simp
 .split
  .simp
  .have h1:=zCM ((b.drop r.at_.toNat).take 2);have h2:((b.drop r.at_.toNat).take 2).length<=2:=List.length_take_le _ _;have h3:(256:Nat) ^ ((b.drop r.at_.toNat).take 2).length<=256 ^ 2:=wW (by omega) h2;simp only;omega
theorem zDp(lf:Bool)(b:List UInt8):(qT lf b).1.leaf=lf:=by
 unfold qT;cases lf <;> simp
theorem zDG(lf:Bool)(b:List UInt8)(hb:b.length<=1000)(hr:zY (qT lf b).1=true):(zT (qT lf b).1).length<=100000:=by
 have hl:=zDp lf b;cases lf with
 | true =>
  have hn:(qT true b).1.entries.length<=1001:=by
   unfold qT;simp only[rE];have:=zCY b (yQ b ⟨0,false⟩ 2).1 (yQ b ⟨0,false⟩ 2).2 [];have h2:(yQ b ⟨0,false⟩ 2).2.at_=2:=zAj b ⟨0,false⟩ 2;simp only[uK] at this;split at this <;> omega
  have hall:∀x∈(qT true b).1.entries,(qY x).length<=59:=λx hx=>by
   obtain⟨i,hi,e⟩:=uR hx;exact zHQ (zCI hl hr (k:=i) (by rw[<- e];exact uA hi))
  have:=zEV qY 59 _ hall;unfold zT;rw[if_pos hl,uC,zC];omega
 | false =>
  obtain⟨g1,g2,g3⟩:=zFO hl hr;have hall:∀x∈(qT false b).1.keys.zip (qT false b).1.kids.tail,(vW x).length<=37:=λx hx=>by
   obtain⟨s,c⟩:=x;have h1:=(List.of_mem_zip hx).1;rw[zAi hl,zAU] at hr;simp only[uF,wO] at hr;exact zHR (hr.1.2 s h1)
  have:=zEV vW 37 _ hall;have hz:((qT false b).1.keys.zip (qT false b).1.kids.tail).length<=255:=by
   rw[List.length_zip,List.length_tail];omega
  unfold zT;rw[if_neg (by rw[hl];simp),uC,uC,zC,zC];omega
end
section
open Go.RowKit
section
variable {F:NP}{ad:Nat->Addr}{w w':World}{B:Nat}{bv:Value}{b:List UInt8}{r:RdA}
theorem zBp(b:List UInt8)(r:RdA)(W:Nat)(hW:W=1\/W=2\/W=4):(yQ b r W).1<4294967296/\(yQ b r W).2.at_=r.at_+W:=⟨zDn b r.at_ W hW,rfl⟩
theorem zEe(hL:zZ F ad w)(h:RdR F w B bv b r)(W:Nat)(hW:W=1\/W=2\/W=4)(h0:0<=r.at_)(h1:r.at_<=1000000000000)(n:Nat)(r':RdA)(hx:yQ b r W=(n,r')) :
  Calls Tryz.prog 317 #[.pointer (some ⟨B,0,none⟩),.int .i64 (W:Int)] w λe w'=>e=.returned (.int .i64 (n:Int))/\RdR F w' B bv b r'/\zA (λk=>k=B) w w':=by
 have:=zIm hL h W hW h0 h1;rw[hx] at this;exact this
theorem zHb(hL:zZ F ad w)(h:RdR F w B bv b r)(h0:0<=r.at_)(h1:r.at_<=1000000000000) :
    Calls Tryz.prog 318 #[.pointer (some ⟨B,0,none⟩)] w λe w'=>e=.returned (.string (qL b r).1)/\RdR F w' B bv b (qL b r).2/\zA (λk=>k=B) w w':=by
  have HH:=oh h
  have HL:=oh hL
  obtain⟨hf1,hf2⟩:=zBp b r 1 (.inl rfl)
  obtain⟨n,⟨t,bd⟩,hx⟩:∃n r1,yQ b r 1=(n,r1):=⟨_,_,rfl⟩
  rw[hx] at hf1 hf2
  simp only at hf1 hf2
  obtain⟨t,rfl⟩:∃k:Nat,t=k:=⟨t.toNat,by omega⟩
  have ht:(t:Int)<=1000000000001:=by omega
  have HX:=oh hx
  have H01:=oh (And.intro h0 h1)
  obtain⟨sa,cap,rfl,hz,hz2,hz3,hz4⟩:=_root_.id h.sl
  unfold maxLen at hz2
  have HT:Hid (qL b r=if bd=true\/(b.length:Int)-t<(n:Int) then (⟨#[]⟩,⟨t,true⟩) else (⟨((b.drop t).take n).toArray⟩,⟨t+n,false⟩)):=oh (by
    unfold qL;simp only[hx,uL])
  have ht1:1<=t:=by omega
  clear h hL hx hf2 h0 h1
  by_cases hc:bd=true\/(b.length:Int)-t<(n:Int)
  . rw[if_pos hc] at HT
    have HC:=oh hc
    clear hc hz4
    go_enter Tryz.func318, Tryz.ntmps318
    go_wp2_with fail
    refine (zEe HL.out HH.out 1 (.inl rfl) H01.out.1 H01.out.2 _ _ HX.out).mono ?_
    rintro e w1 ⟨rfl,hR,hm⟩
    have HR:=oh hR
    have HM:=oh hm
    have c0:=hR.own.d 0 (.slice sa b.length cap) rfl
    have c1:=hR.own.d 1 (.int .i64 (t:Int)) rfl
    have c2:=hR.own.d 2 (.bool bd) rfl
    have f2:=hR.own.frozen 2
    clear hR hm
    have HM1:Hid (∀q,zA (λk=>k=B) w1 ((w1.drewN q).setCell ⟨B,2,none⟩ (.bool true))):=oh λq=>((zss w1).drewN q).trans (zA.at (λk=>k=B) (w1.drewN q) B 2 _ rfl)
    have HB:Hid (∀q,zJ (w1.drewN q) B #[.slice sa b.length cap,.int .i64 (t:Int),.bool bd] 458):=oh λ_=>HR.out.own
    cases bd
    . have hlt:(b.length:Int)-t<(n:Int):=by have:=HC.out;simpa using this
      have hd:decide ((b.length:Int)-t<(n:Int))=true:=uU hlt
      go_wp2_with fail
      go_quiet (fail)
      go_wp2_with fail
      go_ret
      exact⟨by rw[HT.out];rfl,by rw[HT.out];exact HR.out.turn ⟨t,true⟩ (HM1.out _) ((HB.out _).set 2 _),HM.out.trans (HM1.out _)⟩
    . go_wp2_with fail
      go_quiet (fail)
      go_wp2_with fail
      go_ret
      exact⟨by rw[HT.out];rfl,by rw[HT.out];exact HR.out.turn ⟨t,true⟩ (HM1.out _) ((HB.out _).set 2 _),HM.out.trans (HM1.out _)⟩
  . rw[if_neg hc] at HT
    have hbd:bd=false:=by cases bd <;> simp_all
    subst hbd
    have hlt:¬ (b.length:Int)-t<(n:Int):=λh=>hc (.inr h)
    clear hc
    have hle:t+n<=b.length:=by omega
    obtain⟨bb,off,rfl⟩:∃bb off,sa=some ⟨bb,off,none⟩:=by
      rcases hz4 with h|⟨bb,off,h,_⟩
      . rw[h] at hle;simp at hle;omega
      . exact⟨bb,off,h⟩
    clear hz4
    go_enter Tryz.func318, Tryz.ntmps318
    go_wp2_with fail
    refine (zEe HL.out HH.out 1 (.inl rfl) H01.out.1 H01.out.2 _ _ HX.out).mono ?_
    rintro e w1 ⟨rfl,hR,hm⟩
    have HR:=oh hR
    have HM:=oh hm
    have c0:=hR.own.d 0 (.slice (some ⟨bb,off,none⟩) b.length cap) rfl
    have c1:=hR.own.d 1 (.int .i64 (t:Int)) rfl
    have c2:=hR.own.d 2 (.bool false) rfl
    have f1:=hR.own.frozen 1
    have hd:decide ((b.length:Int)-t<(n:Int))=false:=uX (by omega)
    have hw1:IntKind.i64.wrap (t:Int)=(t:Int):=IntWalk.i64_in _ (by omega)
    have hi0:(0:Int)<=(t:Int):=by omega
    have hi1:(t:Int)<=(t:Int)+(n:Int):=by omega
    have hi2:(t:Int)+(n:Int)<=(cap:Int):=by omega
    have hi3:(0:Int)<=(t:Int)+(n:Int):=by omega
    have hs1:((t:Int)+(n:Int)).toNat-t=n:=by omega
    have hsl:Sl F w1 1 zM (.slice (if cap=t then some ⟨bb,off,none⟩ else some ⟨bb,off+t,none⟩) n (cap-t)) ((b.drop t).take n):=by
      have hln:((b.drop t).take n).length=n:=by simp;omega
      split
      . have hn0:n=0:=by omega
        subst hn0
        exact⟨some ⟨bb,off,none⟩,cap-t,by simp,by simp,by unfold maxLen;omega,by simp,.inl (by simp)⟩
      . have:=Sl.sub hR.sl t (t+n) (by omega) hle
        rw[uY,show t+n-t=n by omega] at this
        exact this
    have hcv:∀q q':Nat,(convert 27 9 (.slice (if cap=t then some ⟨bb,off,none⟩ else some ⟨bb,off+t,none⟩) n (cap-t))).run Tryz.prog (((w1.drewN q).setCell ⟨B,1,none⟩ (.int .i64 ((t:Int)+(n:Int)))).drewN q')=.ok (.string ⟨((b.drop t).take n).toArray⟩) (((w1.drewN q).setCell ⟨B,1,none⟩ (.int .i64 ((t:Int)+(n:Int)))).drewN q'):=λq q' =>
      zDm (P:=Tryz.prog) Tryz.underlying27 Tryz.underlying5 Tryz.underlying9 (hsl.mods ((((zA.refl F w1).drewN q).trans (zA.at F (w1.drewN q) B 1 _ hR.mem)).drewN q'))
    have HCV:=oh hsl
    have HM1:Hid (∀q q',zA (λk=>k=B) w1 (((w1.drewN q).setCell ⟨B,1,none⟩ (.int .i64 ((t:Int)+(n:Int)))).drewN q')):=oh λq q'=>(((zss w1).drewN q).trans (zA.at (λk=>k=B) (w1.drewN q) B 1 _ rfl)).drewN q'
    have HB:Hid (∀q q',zJ (((w1.drewN q).setCell ⟨B,1,none⟩ (.int .i64 ((t:Int)+(n:Int)))).drewN q') B #[.slice (some ⟨bb,off,none⟩) b.length cap,.int .i64 ((t:Int)+(n:Int)),.bool false] 458):=oh λq _=>zJ.set (w:=w1.drewN q) HR.out.own 1 _
    clear hR hm hsl
    go_wp2_with fail
    go_quiet (fail)
    go_wp2_with fail
    go_quiet (fail)
    all_goals go_wp2_with fail
    all_goals
      go_ret
      try (have e : cap = t := by assumption
           subst e)
      exact⟨by rw[HT.out];rfl,by rw[HT.out];exact HR.out.turn _ (HM1.out _ _) (HB.out _ _),HM.out.trans (HM1.out _ _)⟩
end
end
section
open Go.RowKit
attribute [local go_sem ↓] Go.wp_at_zero Go.wp_at_succ
structure zAH(ad:Nat->Addr)(F:NP)(w w1:World)(ve vk vi:Value)(lf:Bool)(B:Nat)(l:List UInt8):Prop where
 ext:zF w w1
 wr:WrR (w.heap.size+1) w1 B l
 env0:zZ F ad w
 box:zJ w1 w.heap.size #[.bool lf,ve,vk,vi] 277
section
variable {F:NP}{ad:Nat->Addr}{w w1 w2 w':World}{n:zK}{ve vk vi:Value}{lf:Bool}{B:Nat}{l l':List UInt8}
theorem zAH.step(h:zAH ad F w w1 ve vk vi lf B l)(m:zA (λk=>w.heap.size+1<=k) w1 w2)(g:WrR (w.heap.size+1) w2 B l'):zAH ad F w w2 ve vk vi lf B l' :=
 ⟨zA.past h.ext (m.mono (λk (hk:w.heap.size+1<=k)=>by omega)),g,h.env0,h.box.mods m (by omega)⟩
theorem zAH.alloc(h:zAH ad F w w1 ve vk vi lf B l)(o:Obj):zAH ad F w (w1.alloc o) ve vk vi lf B l :=
 h.step ((zss w1).alloc o) (by
  obtain⟨a,c,h1,h2⟩:=h.wr.box;exact⟨⟨a,c,h1.alloc o,h2.ext ((zss w1).alloc o)⟩,h.wr.ge⟩)
theorem zAH.env(h:zAH ad F w w1 ve vk vi lf B l):zZ F ad w1:=h.env0.mods h.ext.ext
theorem zAH.lt(h:zAH ad F w w1 ve vk vi lf B l):∀k,F k->k<w.heap.size+1:=λk hk=>by have:=h.env0.lt k hk;omega
theorem zAH.num(h:zAH ad F w w1 ve vk vi lf B l)(m W:Nat)(hW:W=1\/W=2\/W=4)(hm:m<256 ^ W)(hlen:l.length<=100000) :
  Calls Tryz.prog 338 #[.pointer (some ⟨B,0,none⟩),.int .i64 (m:Int),.int .i64 (W:Int)] w1 λe w'=>e=.returned (.tuple #[])/\zAH ad F w w' ve vk vi lf B (l++zP W m)/\zA (λk=>w.heap.size+1<=k) w1 w'/\WFr B w1 w' :=
 (zGd h.env h.lt h.wr m W hW hm hlen).mono λ_ _ ⟨h1,h2,h3,h4⟩=>⟨h1,h.step h3 h2,h3,h4⟩
theorem zAH.text(h:zAH ad F w w1 ve vk vi lf B l)(s:ByteArray)(hs:s.size<256)(hlen:l.length<=100000) :
  Calls Tryz.prog 339 #[.pointer (some ⟨B,0,none⟩),.string s] w1 λe w'=>e=.returned (.tuple #[])/\zAH ad F w w' ve vk vi lf B (l++yT s)/\zA (λk=>w.heap.size+1<=k) w1 w'/\WFr B w1 w' :=
 (zIl h.env h.lt h.wr s hs hlen).mono λ_ _ ⟨h1,h2,h3,h4⟩=>⟨h1,h.step h3 h2,h3,h4⟩
theorem zDq{G:NP}{w w':World}(m:zA G w w'){b o:Nat}{v:Value}(h:w.cell? ⟨b,o,none⟩=some v)(hb:¬ G b):w'.cell? ⟨b,o,none⟩=some v:=(m.cell (zQ h) hb).trans h
theorem zJ5(l:List Int)(h:0<l.length):l.headD 0=l[0]:=by
 cases l with
 | nil=>simp at h
 | cons a r=>rfl
theorem zCJ(hL:zZ F ad w)(n:zK)(ve vk vi:Value)(hve:Sl F w 4 zAA ve n.entries)(hvk:Sl F w 1 zBP vk n.keys)(hvi:Sl F w 1 yX vi n.kids)(hlen:zY n=true->(zT n).length<=100000) :
  Calls Tryz.prog 273 #[.agg #[.bool n.leaf,ve,vk,vi]] w (zKs F ad w n):=by
 have m0:zF w (w.alloc (.cells #[.bool n.leaf,ve,vk,vi] 277)):=(zss w).alloc _;have HB0:=oh (zJ.new w #[.bool n.leaf,ve,vk,vi] 277);have HVE:=oh hve;have HVK:=oh hvk;have HVI:=oh hvi;have HL:=oh hL;have HCK:=oh (zE0 (hL.mods m0.ext) n ve vk vi (hve.ext m0) (hvk.ext m0) (hvi.ext m0));have HM0:=oh m0;have HLEN:=oh hlen;obtain⟨ae,ce,rfl,he1,he2,he3,hee⟩:=hve;obtain⟨ak,ck,rfl,hk1,hk2,hk3,hkk⟩:=hvk;obtain⟨ai,ci,rfl,hi1,hi2,hi3,hii⟩:=hvi;have HEE:=oh hee;have HKK:=oh hkk;have HII:=oh hii;clear hL m0 hlen hee hkk hii;unfold maxLen at he2 hk2 hi2;generalize hlf:n.leaf=lf
 rw[hlf] at HB0 HCK HM0;have HLF:=oh hlf;clear hlf
 go_enter Tryz.func273, Tryz.ntmps273
 go_wp2_with fail;refine (HCK.out).mono ?_;rintro e w1 ⟨ev,rfl,hE,hm1⟩;have HB1:=oh (HB0.out.ext hm1);have HM1:=oh (HM0.out.trans hm1);have HL1:=oh (HL.out.mods HM1.out.ext);clear hm1;cases hr:zY n with
 | false =>
  have HR:=oh hr;unfold zCs at hE;rw[hr,if_neg (by simp)] at hE;obtain⟨f,rfl,hE⟩:=hE;have HE:=oh hE;clear hE hr;go_wp2_with fail;refine (wrap_any HL1.out _ _ _ _ HE.out).mono ?_;rintro e w2 ⟨f2,rfl,hE2,hm2⟩;have HE2:=oh hE2;have HM2:=oh (HM1.out.trans hm2);clear hE2 hm2;go_wp2_with fail;go_ret2
  exact⟨HM2.out,.inr ⟨HR.out,f2,rfl,HE2.out⟩⟩
 | true =>
  have HR:=oh hr;unfold zCs at hE;rw[hr,if_pos rfl] at hE;cases hE
  clear hr;have hz1:=HM1.out.size;have hzb:=HB1.out.lt;have HP:Hid (zAH ad F w (w1.alloc (.cells #[.slice none 0 0,.nilIface] 474)) (.slice ae n.entries.length ce) (.slice ak n.keys.length ck) (.slice ai n.kids.length ci) lf w1.heap.size []):=oh
   ⟨HM1.out.alloc _,WrR.new w1 _ (by omega),HL.out,HB1.out.alloc _⟩
  have p0:=HP.out.box.d 0 (.bool lf) rfl;cases lf
  .obtain⟨g1,g2,g3⟩:=zFO HLF.out HR.out;have p3:=HP.out.box.d 3 (.slice ai n.kids.length ci) rfl;have HSM:Hid ((zT n).length<=100000):=oh (HLEN.out HR.out);have HG3:=oh g3;obtain⟨b0,off0,rfl,hb0,hF0,hc0⟩:=Sl.at HII.out HP.out.ext (λ_ _ f=>f.elim) 0 (by omega);have hk0:=zFP HLF.out HR.out (uA (show 0<n.kids.length by omega));obtain⟨z,hz⟩:∃z:Nat,n.kids[0]=(z:Int):=⟨n.kids[0].toNat,by omega⟩;have HZ:Hid (z<256 ^ 4/\(n.kids.headD 0).toNat=z):=oh ⟨by omega,by
    have:=zJ5 n.kids (show 0<n.kids.length by omega);rw[this,hz];rfl⟩
   have i0:(0:Int)<(n.kids.length:Int):=by omega
   have HZ0:=oh hz;clear hc0 hk0 hz g3;go_wp2_with fail;refine (HP.out.num n.kids.length 2 (.inr (.inl rfl)) (by have:=HG3.out;omega) (by simp)).mono ?_;rintro e w2 ⟨rfl,hP2,_,_⟩;have p3:=hP2.box.d 3 (.slice (some ⟨b0,off0,none⟩) n.kids.length ci) rfl;obtain⟨b0',off0',hbb,_,_,hc0⟩:=Sl.at HII.out hP2.ext (λ_ _ f=>f.elim) 0 (by have:=HG3.out;omega);injection hbb with hbb;injection hbb with hb1 hb2;subst hb1 hb2;have d0:w2.cell? ⟨b0,off0,none⟩=some (.int .i64 (z:Int)):=by
    have:=hc0 0 _ rfl;rw[HZ0.out] at this;simpa using this
   have HP2:=oh hP2;clear hP2 hc0 HP;go_wp2_with fail;refine (HP2.out.num z 4 (.inr (.inr rfl)) HZ.out.1 (by simp[zC])).mono ?_;rintro e w3 ⟨rfl,hP3,_,_⟩;have p2:=hP3.box.d 2 (.slice ak n.keys.length ck) rfl;rw[wF,<- HZ.out.2,<- zE1 n] at hP3;have HP3:=oh hP3;have hz2:=hP3.ext.size;clear hP3 HP2 d0;go_wp2_with fail;go_loopg [70] n.keys.length (λm i wr=>∃k:Nat,k+m=n.keys.length/\i=.int .i64 k/\Hid (zAH ad F w wr (.slice ae n.entries.length ce) (.slice ak n.keys.length ck) (.slice (some ⟨b0,off0,none⟩) n.kids.length ci) false w1.heap.size (jA n k)))
   case atStart=>exact⟨0,by omega,rfl,HP3⟩
   case round =>
    obtain⟨k,hkm,rfl,HPk⟩:=hrel;by_cases hlt:k<n.keys.length
    .obtain⟨b,off,rfl,hb,hF,hc⟩:=Sl.at HKK.out HPk.out.ext (λ_ _ f=>f.elim) k hlt;have hlk:k+1<n.kids.length:=by rw[HG3.out];omega
     have hen:n.keys[k]? = some n.keys[k]:=uA hlt;have hkd:n.kids[k+1]? = some n.kids[k+1]:=uA hlk;have hpre:=zE2 n hen hkd;have hks:=zHZ HLF.out HR.out hen;have hkr:=zFP HLF.out HR.out hkd;have hpl:(jA n (k+1)).length<=100000:=uQ (zFx HLF.out (k+1)) HSM.out;rw[hpre,uC] at hpl;have c0:=hc 0 _ rfl;simp only[uS,uY] at c0;obtain⟨y,hy⟩:∃y:Nat,n.kids[k+1]=(y:Int):=⟨n.kids[k+1].toNat,by omega⟩;have HY:Hid (n.kids[k+1]? = some (y:Int)/\y<256 ^ 4):=oh ⟨by rw[hkd,hy],by omega⟩;have HBY:Hid (vW (n.keys[k],n.kids[k+1])=yT n.keys[k]++zP 4 y):=oh (by unfold vW;simp only[hy,uL]);have HPL:Hid ((jA n k).length+(yT n.keys[k]++zP 4 y).length<=100000):=oh (by rw[<- HBY.out];exact hpl);have HPRE:=oh hpre;have HLK:=oh hlk;have i1:(k:Int)+1<(n.kids.length:Int):=by omega
     clear hc hen hkd hpre hpl hkr hy;go_wp2_with fail;refine (HPk.out.text n.keys[k] hks (by have:=HPL.out;omega)).mono ?_;rintro e w4 ⟨rfl,hP4,_,_⟩;have p3:=hP4.box.d 3 (.slice (some ⟨b0,off0,none⟩) n.kids.length ci) rfl;obtain⟨b0',off0',hbb,_,_,hc0⟩:=Sl.at HII.out hP4.ext (λ_ _ f=>f.elim) (k+1) HLK.out;injection hbb with hbb;injection hbb with hb1 hb2;subst hb1 hb2;have d0:w4.cell? ⟨b0,off0+(k+1),none⟩=some (.int .i64 (y:Int)):=by
      have:=hc0 0 (.int .i64 (n.kids[k+1]'HLK.out)) rfl;have hy2:n.kids[k+1]'HLK.out=(y:Int):=by
       have:=HY.out.1;rw[uA HLK.out] at this;exact Option.some.inj this
      rw[hy2] at this;simpa using this
     have HP4:=oh hP4;clear hP4 hc0;go_wp2_with fail;refine (HP4.out.num y 4 (.inr (.inr rfl)) HY.out.2 (by have:=HPL.out;simp only[uC] at this ⊢;omega)).mono ?_;rintro e w5 ⟨rfl,hP5,_,_⟩;have HP5:=oh hP5;clear hP5;go_wp2_with fail;go_roundg (gk-1)
     case measure=>omega
     case rel=>exact⟨k+1,by omega,by go_num,oh (by rw[HPRE.out,HBY.out];have:=HP5.out;simpa only[uN] using this)⟩
    .have hke:k=n.keys.length:=by omega
     have HPE:=oh HPk.out;rw[zFw HLF.out HG3.out hke] at HPE;obtain⟨a,c,hBW,hOW⟩:=HPE.out.wr.box;have b0:=hBW.d 0 (.slice a (zT n).length c) rfl;have b1:=hBW.d 1 .nilIface rfl;have HOW:=oh hOW;clear hBW hOW hke;go_wp2_with fail;go_region_held3 (λw'=>w'.cell? ⟨w1.heap.size,0,none⟩=some (.slice a (zT n).length c)/\w'.cell? ⟨w1.heap.size,1,none⟩=some .nilIface)
      (first|(with_reducible exact⟨b0,b1⟩)|go_keep)
      (first
       | (go_at_call 64;refine (wrap_nil _ _).mono ?_;rintro e w2 ⟨rfl,rfl⟩)
       | fail)
     all_goals
      go_wp2_with fail;go_ret2
      exact⟨HPE.out.ext.drew,.inl ⟨HR.out,a,c,rfl,(HOW.out.rebase (by omega)).ext (zss wr).drew⟩⟩
  .have p1:=HP.out.box.d 1 (.slice ae n.entries.length ce) rfl;have HSM:Hid (n.entries.length<=65535/\(zT n).length<=100000):=oh ⟨zIt HLF.out HR.out,HLEN.out HR.out⟩;go_wp2_with fail;refine (HP.out.num n.entries.length 2 (.inr (.inl rfl)) (by have:=HSM.out;omega) (by simp)).mono ?_;rintro e w2 ⟨rfl,hP2,_,_⟩;have p1:=hP2.box.d 1 (.slice ae n.entries.length ce) rfl;rw[wF,<- zFu n] at hP2;have HP2:=oh hP2;have hz2:=hP2.ext.size;clear hP2 HP;go_wp2_with fail;go_loopg [28] n.entries.length (λm i wr=>∃k:Nat,k+m=n.entries.length/\i=.int .i64 k/\Hid (zAH ad F w wr (.slice ae n.entries.length ce) (.slice ak n.keys.length ck) (.slice ai n.kids.length ci) true w1.heap.size (jM n k)))
   case atStart=>exact⟨0,by omega,rfl,HP2⟩
   case round =>
    obtain⟨k,hkm,rfl,HPk⟩:=hrel;by_cases hlt:k<n.entries.length
    .obtain⟨b,off,rfl,hb,hF,hc⟩:=Sl.at HEE.out HPk.out.ext (λ_ _ f=>f.elim) k hlt;have hen:n.entries[k]? = some n.entries[k]:=uA hlt;have hpre:=zFv n hen;have hre:=zCI HLF.out HR.out hen;have hpl:(jM n (k+1)).length<=100000:=uQ (zGl HLF.out (k+1)) HSM.out.2;rw[hpre,uC] at hpl;have c0:=hc 0 _ rfl;simp only[uS] at c0;have c1:=hc 1 _ rfl;have c2:=hc 2 _ rfl;have c3:=hc 3 _ rfl;clear hc hen;generalize n.entries[k]=en at *
     obtain⟨key,value,chain,size⟩:=en;have HPRE:=oh hpre;clear hpre;simp only at c0 c1 c2 c3;unfold vI at hre;simp only[uF] at hre;obtain⟨hk,hre⟩:=hre;have hk2:key.size<256:=by have:=(zAz key).1 hk;omega
     have hnB:wr.heap.size≠w1.heap.size:=by
      obtain⟨_,_,hbb,_⟩:=HPk.out.wr.box;have:=hbb.lt;omega
     have HNB:=oh hnB;have HBE:=oh (zJ.new wr #[.string key,.string value,.int .i64 chain,.int .i64 size] 289);clear hk hnB;by_cases hz:chain=0
     .rw[if_pos hz] at hre;subst hz;simp only[uF,uM] at hre;have HV:=oh hre.2;have HBY:Hid (qY ⟨key,value,0,size⟩=yT key++(zP 1 0++yT value)):=oh rfl;have HPL:Hid ((jM n k).length+(yT key++(zP 1 0++yT value)).length<=100000):=oh hpl;clear hre hpl;go_wp2_with fail;refine ((HPk.out.alloc _).text key hk2 (by have:=HPL.out;omega)).mono ?_;rintro e w3 ⟨rfl,hP3,_,hf3⟩;have hB3:=hf3 _ _ _ HNB.out (by decide) HBE.out;have q1:=hB3.d 1 (.string value) rfl;have q2:=hB3.d 2 (.int .i64 0) rfl;have HB3:=oh hB3;have HP3:=oh hP3;clear hB3 hP3 hf3;go_wp2_with fail;refine (HP3.out.num 0 1 (.inl rfl) (by decide) (by have:=HPL.out;simp only[uC] at this ⊢;omega)).mono ?_;rintro e w4 ⟨rfl,hP4,_,hf4⟩;have hB4:=hf4 _ _ _ HNB.out (by decide) HB3.out;have q1:=hB4.d 1 (.string value) rfl;have HP4:=oh hP4;clear hB4 hP4 hf4;go_wp2_with fail;refine (HP4.out.text value (by have:=HV.out;omega) (by have:=HPL.out;simp only[uC] at this ⊢;omega)).mono ?_;rintro e w5 ⟨rfl,hP5,_,_⟩;have HP5:=oh hP5;clear hP5;go_wp2_with fail;go_roundg (gk-1)
      case measure=>omega
      case rel=>exact⟨k+1,by omega,by go_num,oh (by rw[HPRE.out,HBY.out];have:=HP5.out;simpa only[uN] using this)⟩
     .rw[if_neg hz] at hre;simp only[uF,uM,zA9] at hre;obtain⟨⟨⟨⟨g1,g2⟩,g3⟩,g4⟩,g5⟩:=hre;obtain⟨cn,rfl⟩:∃cn:Nat,chain=(cn:Int):=⟨chain.toNat,by omega⟩;obtain⟨sn,rfl⟩:∃sn:Nat,size=(sn:Int):=⟨size.toNat,by omega⟩;have hzb:((cn:Int) == 0)=false:=uO.2 hz;have HBY:Hid (qY ⟨key,value,(cn:Int),(sn:Int)⟩=yT key++(zP 1 1++(zP 4 cn++zP 4 sn))):=oh (by unfold qY;simp only[if_neg hz,uL]);have HPL:Hid ((jM n k).length+(yT key++(zP 1 1++(zP 4 cn++zP 4 sn))).length<=100000):=oh (by rw[<- HBY.out];exact hpl);have HC:Hid (cn<256 ^ 4/\sn<256 ^ 4):=oh (by constructor <;> omega);clear hpl hz g1 g2 g3 g4 g5;go_wp2_with fail;refine ((HPk.out.alloc _).text key hk2 (by have:=HPL.out;omega)).mono ?_;rintro e w3 ⟨rfl,hP3,_,hf3⟩;have hB3:=hf3 _ _ _ HNB.out (by decide) HBE.out;have q2:=hB3.d 2 (.int .i64 (cn:Int)) rfl;have HB3:=oh hB3;have HP3:=oh hP3;clear hB3 hP3 hf3;go_wp2_with fail;refine (HP3.out.num 1 1 (.inl rfl) (by decide) (by have:=HPL.out;simp only[uC] at this ⊢;omega)).mono ?_;rintro e w4 ⟨rfl,hP4,_,hf4⟩;have hB4:=hf4 _ _ _ HNB.out (by decide) HB3.out;have q2:=hB4.d 2 (.int .i64 (cn:Int)) rfl;have HB4:=oh hB4;have HP4:=oh hP4;clear hB4 hP4 hf4;go_wp2_with fail;refine (HP4.out.num cn 4 (.inr (.inr rfl)) HC.out.1 (by have:=HPL.out;simp only[uC] at this ⊢;omega)).mono ?_;rintro e w5 ⟨rfl,hP5,_,hf5⟩;have hB5:=hf5 _ _ _ HNB.out (by decide) HB4.out;have q3:=hB5.d 3 (.int .i64 (sn:Int)) rfl;have HP5:=oh hP5;clear hB5 hP5 hf5;go_wp2_with fail;refine (HP5.out.num sn 4 (.inr (.inr rfl)) HC.out.2 (by have:=HPL.out;simp only[uC] at this ⊢;omega)).mono ?_;rintro e w6 ⟨rfl,hP6,_,_⟩;have HP6:=oh hP6;clear hP6;go_wp2_with fail;go_roundg (gk-1)
      case measure=>omega
      case rel=>exact⟨k+1,by omega,by go_num,oh (by rw[HPRE.out,HBY.out];have:=HP6.out;simpa only[uN] using this)⟩
    .have hke:k=n.entries.length:=by omega
     have HPE:=oh HPk.out;rw[zGk HLF.out hke] at HPE;obtain⟨a,c,hBW,hOW⟩:=HPE.out.wr.box;have b0:=hBW.d 0 (.slice a (zT n).length c) rfl;have b1:=hBW.d 1 .nilIface rfl;have HOW:=oh hOW;clear hBW hOW hke;go_wp2_with fail;go_region_held3 (λw'=>w'.cell? ⟨w1.heap.size,0,none⟩=some (.slice a (zT n).length c)/\w'.cell? ⟨w1.heap.size,1,none⟩=some .nilIface)
      (first|(with_reducible exact⟨b0,b1⟩)|go_keep)
      (first
       | (go_at_call 64;refine (wrap_nil _ _).mono ?_;rintro e w2 ⟨rfl,rfl⟩)
       | fail)
     all_goals
      go_wp2_with fail;go_ret2
      exact⟨HPE.out.ext.drew,.inl ⟨HR.out,a,c,rfl,(HOW.out.rebase (by omega)).ext (zss wr).drew⟩⟩
end
end
section
open Go.RowKit
theorem Tryz.mkE:(Tryz.prog.info? 289).map (λi=>(i.zero,i.size,i.bytes))=some (some (.agg #[.string ⟨#[]⟩,.string ⟨#[]⟩,.int .i64 0,.int .i64 0]),4,48):=by kernel_rfl
theorem Tryz.mkS:(Tryz.prog.info? 9).map (λi=>(i.zero,i.size,i.bytes))=some (some (.string ⟨#[]⟩),1,16):=by kernel_rfl
theorem Tryz.elE:ElT Tryz.prog 275 289 (.agg #[.string ⟨#[]⟩,.string ⟨#[]⟩,.int .i64 0,.int .i64 0]) 4 48:=⟨Tryz.underlying275,Tryz.mkE,rfl,by decide,by decide⟩
theorem Tryz.elS:ElT Tryz.prog 45 9 (.string ⟨#[]⟩) 1 16:=⟨Tryz.underlying45,Tryz.mkS,rfl,by decide,by decide⟩
theorem zBL:zBE zAA 4:=⟨λ_=>rfl,by intro x u hu;simp[zAA] at hu;rcases hu with rfl|rfl|rfl|rfl <;> rfl⟩
theorem zIA:zBE zBP 1:=⟨λ_=>rfl,by intro x u hu;simp[zBP] at hu;subst hu;rfl⟩
theorem zDT{P:Program}{α:Type}{F G:NP}{w:World}{t e:TypeId}{z:Value}{sz bytes:Nat}{enc:α->List Value}(T:ElT P t e z sz bytes)(E:zBE enc sz)
  {ops:Array Oper} {o:Oper} {a:Act} {K:Act->World->Prop} {Q:Exit->Act->World->Prop} {X:Prop} (hgd:o.guard=none) (sx x:Operand)
  (ho:o.op=.call { callee:=.builtin .append,args:=#[sx,x],argTypes:=#[t,t] })
  (base:Nat) (v s:Value) (l m:List α) (hv:a.eval sx=v) (hx:a.eval x=s) (hown:yA F w base e sz enc v l) (hs:Sl G w sz enc s m) (hb:(l.length+m.length) * bytes<=140737488355328) (hbase:base<=w.heap.size) (hn:¬ F w.heap.size)
  (h:∀a' c' w',yA F w' base e sz enc (.slice a' (l.length+m.length) c') (l++m)->zA (λk=>v.ownBlock=some k) w w' ->
   ((Value.slice a' (l.length+m.length) c').ownBlock=v.ownBlock\/(Value.slice a' (l.length+m.length) c').ownBlock=some w.heap.size)->K (a.put o.dst (.slice a' (l.length+m.length) c')) w') :
  if Region.wanted o (yielded ops a.tmps)=true then Oper.wp P o a w K Q else X:=by
 have hw:Region.wanted o (yielded ops a.tmps)=true:=by simp[Region.wanted,hgd]
 rw[if_pos hw];obtain⟨i,hi,hz,hs1,hb1⟩:=zC7 T.info;obtain⟨a',c',w',hr,h2,h3,h4⟩:=zBR (P:=P) (F:=F) (G:=G) (w:=w) base t o.type e i z sz bytes T.under hi hz hs1 hb1 T.zs T.sz0 enc E.len E.one v s l m hown hs hb T.by0 hbase hn;unfold Oper.wp execOp;simp only[ho,resolve,invoke,builtin,Sem.run_bind,Sem.run_pure,Result.andThen_ok,rN,tP,List.map_nil,hv,hx,hr];exact h a' c' w' h2 (zA.of_grown h3) h4
theorem yA.far{α β:Type}{F G:NP}{w:World}{base base':Nat}{e e':TypeId}{sz sz':Nat}{enc:α->List Value}{enc':β->List Value}{v v':Value}{x:List α}{x':List β}(h:yA F w base e sz enc v x)(h':yA G w base' e' sz' enc' v' x')(hne:e≠e'):∀g,v.ownBlock=some g->v'.ownBlock≠some g:=by
 intro g hg hg';rcases h'.1.2 with ⟨rfl,_⟩|⟨g',cap,cur,rfl,_,h2,_⟩
 .simp[Value.ownBlock] at hg'
 .simp[Value.ownBlock] at hg';subst hg';exact yA.notB h (B:=g') (c:=cur) (t:=e') h2 hne.symm g' hg rfl
def GB(F:NP)(w:World):NP:=λk=>F k\/(w.heap.size<=k/\k<w.heap.size+2)
def NoF:NP:=λ_=>False
structure qB(F:NP)(ad:Nat->Addr)(w wr:World)(lf:Bool)(bv:Value)(b:List UInt8)(r:RdA)(es:List zS)(ks:List ByteArray)(is:List Int)(ve vk vi s1 s2 s3:Value):Prop where
 ext:zF w wr
 env0:zZ F ad w
 sl0:Sl F w 1 zM bv b
 box:zJ wr (w.heap.size+1) #[bv,.int .i64 r.at_,.bool r.bad] 458
 nd:zJ wr (w.heap.size+1+1) #[.bool lf,s1,s2,s3] 277
 oe:yA NoF wr (w.heap.size+3) 289 4 zAA ve es
 ok:yA NoF wr (w.heap.size+3) 9 1 zBP vk ks
 oi:yA NoF wr (w.heap.size+3) 3 1 yX vi is
 res:zJ wr w.heap.size gB 277
section
variable {F:NP}{ad:Nat->Addr}{w wr w2:World}{lf:Bool}{bv:Value}{b:List UInt8}{r r':RdA}{es es':List zS}{ks ks':List ByteArray}{is is':List Int}{ve vk vi s1 s2 s3 ve' vk' vi':Value}
theorem qB.base(h:qB F ad w wr lf bv b r es ks is ve vk vi s1 s2 s3):w.heap.size+3<=wr.heap.size:=by have:=h.nd.lt;omega
theorem qB.env(h:qB F ad w wr lf bv b r es ks is ve vk vi s1 s2 s3):zZ (GB F w) ad wr :=
 h.env0.step h.ext.ext (λk hk hn hg=>hg.elim hn (λe=>by omega)) (λk hg=>hg.elim (λhf=>uD (h.env0.lt k hf) h.ext.size) (λe=>by have:=h.base;omega))
theorem qB.rd(h:qB F ad w wr lf bv b r es ks is ve vk vi s1 s2 s3):RdR (GB F w) wr (w.heap.size+1) bv b r :=
 ⟨h.box,h.sl0.step h.ext.ext (λk hk hn hg=>hg.elim hn (λe=>by omega)),.inr ⟨by omega,by omega⟩⟩
theorem qB.step(h:qB F ad w wr lf bv b r es ks is ve vk vi s1 s2 s3)(m:zF wr w2):qB F ad w w2 lf bv b r es ks is ve vk vi s1 s2 s3 :=
 ⟨h.ext.trans m,h.env0,h.sl0,h.box.ext m,h.nd.ext m,h.oe.ext m,h.ok.ext m,h.oi.ext m,h.res.ext m⟩
theorem qB.drew(h:qB F ad w wr lf bv b r es ks is ve vk vi s1 s2 s3):qB F ad w wr.drew lf bv b r es ks is ve vk vi s1 s2 s3:=h.step (zss wr).drew
theorem qB.read(h:qB F ad w wr lf bv b r es ks is ve vk vi s1 s2 s3)(m:zA (λk=>k=w.heap.size+1) wr w2)(g:RdR (GB F w) w2 (w.heap.size+1) bv b r'):qB F ad w w2 lf bv b r' es ks is ve vk vi s1 s2 s3 :=
 ⟨zA.past h.ext (m.mono (λk (hk:k=w.heap.size+1)=>by omega)),h.env0,h.sl0,g.own,h.nd.mods m (by omega),
  h.oe.mods m (λg hg=>by have:=h.oe.lt g hg;omega),h.ok.mods m (λg hg=>by have:=h.ok.lt g hg;omega),h.oi.mods m (λg hg=>by have:=h.oi.lt g hg;omega),h.res.mods m (by omega)⟩
theorem qB.row(h:qB F ad w wr lf bv b r es ks is ve vk vi s1 s2 s3){G:NP}(hG:∀k,G k->w.heap.size+3<=k)(m:zA G wr w2)
  (oe:yA NoF w2 (w.heap.size+3) 289 4 zAA ve' es') (ok:yA NoF w2 (w.heap.size+3) 9 1 zBP vk' ks') (oi:yA NoF w2 (w.heap.size+3) 3 1 yX vi' is'):qB F ad w w2 lf bv b r es' ks' is' ve' vk' vi' s1 s2 s3:=by
 have hn:∀k,k<w.heap.size+3->¬ G k:=λk hk g=>by have:=hG k g;omega
 exact⟨zA.past h.ext (m.mono (λk hk=>by have:=hG k hk;omega)),h.env0,h.sl0,h.box.mods m (hn _ (by omega)),h.nd.mods m (hn _ (by omega)),oe,ok,oi,h.res.mods m (hn _ (by omega))⟩
theorem qB.appE(h:qB F ad w wr lf bv b r es ks is ve vk vi s1 s2 s3)(m:zA (λk=>ve.ownBlock=some k) wr w2)(oe:yA NoF w2 (w.heap.size+3) 289 4 zAA ve' es'):qB F ad w w2 lf bv b r es' ks is ve' vk vi s1 s2 s3 :=
 h.row (λk hk=>(h.oe.lt k hk).1) m oe (h.ok.mods m (λg hg e=>h.ok.far h.oe (by decide) g hg e)) (h.oi.mods m (λg hg e=>h.oi.far h.oe (by decide) g hg e))
theorem qB.appK(h:qB F ad w wr lf bv b r es ks is ve vk vi s1 s2 s3)(m:zA (λk=>vk.ownBlock=some k) wr w2)(ok:yA NoF w2 (w.heap.size+3) 9 1 zBP vk' ks'):qB F ad w w2 lf bv b r es ks' is ve vk' vi s1 s2 s3 :=
 h.row (λk hk=>(h.ok.lt k hk).1) m (h.oe.mods m (λg hg e=>h.oe.far h.ok (by decide) g hg e)) ok (h.oi.mods m (λg hg e=>h.oi.far h.ok (by decide) g hg e))
theorem qB.appI(h:qB F ad w wr lf bv b r es ks is ve vk vi s1 s2 s3)(m:zA (λk=>vi.ownBlock=some k) wr w2)(oi:yA NoF w2 (w.heap.size+3) 3 1 yX vi' is'):qB F ad w w2 lf bv b r es ks is' ve vk vi' s1 s2 s3 :=
 h.row (λk hk=>(h.oi.lt k hk).1) m (h.oe.mods m (λg hg e=>h.oe.far h.oi (by decide) g hg e)) (h.ok.mods m (λg hg e=>h.ok.far h.oi (by decide) g hg e)) oi
theorem qB.far(h:qB F ad w wr lf bv b r es ks is ve vk vi s1 s2 s3){X:Nat}(hX:w.heap.size+3<=X)(m:zA (λk=>k=X) wr w2)(he:ve.ownBlock≠some X)(hk:vk.ownBlock≠some X)(hi:vi.ownBlock≠some X):qB F ad w w2 lf bv b r es ks is ve vk vi s1 s2 s3 :=
 h.row (G:=λk=>k=X) (λk hk=>by omega) m (h.oe.mods m (λg hg e=>he (by rw[hg,e]))) (h.ok.mods m (λg hg e=>hk (by rw[hg,e]))) (h.oi.mods m (λg hg e=>hi (by rw[hg,e])))
theorem qB.slE(h:qB F ad w wr lf bv b r es ks is ve vk vi s1 s2 s3){G:NP}(hG:∀k,G k->k<w.heap.size+3)(hl:es.length<=140737488355328):Sl G wr 4 zAA ve es :=
 yA.sl (F:=G) ⟨h.oe.1,λg hg f=>by have:=h.oe.lt g hg;have:=hG g f;omega⟩ zBL.len hl
theorem qB.slK(h:qB F ad w wr lf bv b r es ks is ve vk vi s1 s2 s3){G:NP}(hG:∀k,G k->k<w.heap.size+3)(hl:ks.length<=140737488355328):Sl G wr 1 zBP vk ks :=
 yA.sl (F:=G) ⟨h.ok.1,λg hg f=>by have:=h.ok.lt g hg;have:=hG g f;omega⟩ zIA.len hl
theorem qB.slI(h:qB F ad w wr lf bv b r es ks is ve vk vi s1 s2 s3){G:NP}(hG:∀k,G k->k<w.heap.size+3)(hl:is.length<=140737488355328):Sl G wr 1 yX vi is :=
 yA.sl (F:=G) ⟨h.oi.1,λg hg f=>by have:=h.oi.lt g hg;have:=hG g f;omega⟩ zAY.len hl
theorem qB.gb(h:qB F ad w wr lf bv b r es ks is ve vk vi s1 s2 s3):∀k,GB F w k->k<w.heap.size+3:=λk hk=>hk.elim (λhf=>by have:=h.env0.lt k hf;omega) (λe=>by omega)
theorem qB.put(h:qB F ad w wr lf bv b r es ks is ve vk vi s1 s2 s3)(i:Nat)(v t1 t2 t3:Value)(e:(#[.bool lf,s1,s2,s3]:Array Value).setIfInBounds i v=#[.bool lf,t1,t2,t3]):qB F ad w (wr.setCell ⟨w.heap.size+1+1,i,none⟩ v) lf bv b r es ks is ve vk vi t1 t2 t3:=by
 have m:zA (λk=>k=w.heap.size+1+1) wr (wr.setCell ⟨w.heap.size+1+1,i,none⟩ v):=zA.at _ wr _ i v rfl;have hn:=h.nd.set i v;rw[e] at hn;exact⟨zA.past h.ext (m.mono (λk (hk:k=w.heap.size+1+1)=>by omega)),h.env0,h.sl0,h.box.mods m (by omega),hn,
  h.oe.mods m (λg hg=>by have:=h.oe.lt g hg;omega),h.ok.mods m (λg hg=>by have:=h.ok.lt g hg;omega),h.oi.mods m (λg hg=>by have:=h.oi.lt g hg;omega),h.res.mods m (by omega)⟩
theorem qB.text(h:qB F ad w wr lf bv b r es ks is ve vk vi s1 s2 s3)(h0:0<=r.at_)(h1:r.at_<=1000000000000)(s:ByteArray)(hx:qL b r=(s,r')) :
  Calls Tryz.prog 318 #[.pointer (some ⟨w.heap.size+1,0,none⟩)] wr λe w'=>e=.returned (.string s)/\qB F ad w w' lf bv b r' es ks is ve vk vi s1 s2 s3/\zA (λk=>k=w.heap.size+1) wr w':=by
 have:=zHb h.env h.rd h0 h1;rw[hx] at this;exact this.mono λe w' ⟨a1,a2,a3⟩=>⟨a1,h.read a3 a2,a3⟩
theorem qB.num(h:qB F ad w wr lf bv b r es ks is ve vk vi s1 s2 s3)(W:Nat)(hW:W=1\/W=2\/W=4)(h0:0<=r.at_)(h1:r.at_<=1000000000000)(n:Nat)(hx:yQ b r W=(n,r')) :
  Calls Tryz.prog 317 #[.pointer (some ⟨w.heap.size+1,0,none⟩),.int .i64 (W:Int)] wr λe w'=>e=.returned (.int .i64 (n:Int))/\qB F ad w w' lf bv b r' es ks is ve vk vi s1 s2 s3/\zA (λk=>k=w.heap.size+1) wr w' :=
 (zEe h.env h.rd W hW h0 h1 n r' hx).mono λ_ _ ⟨a1,a2,a3⟩=>⟨a1,h.read a3 a2,a3⟩
end
theorem Sl.slc{α:Type}{F:NP}{w:World}{sz:Nat}{enc:α->List Value}{a:Option Addr}{n c:Nat}{l:List α}(h:Sl F w sz enc (.slice a n c) l)(i j:Nat)(hij:i<=j)(hj:j<=n) :
  Sl F w sz enc (.slice (if c=i then a else a.map (·.add (i * sz))) (j-i) (c-i)) ((l.drop i).take (j-i)):=by
 obtain⟨a',cap,he,h1,h2,h3,h4⟩:=h;simp only[Value.slice.injEq] at he;obtain⟨rfl,rfl,rfl⟩:=he;have hlen:((l.drop i).take (j-i)).length=j-i:=by simp;omega
 refine⟨_,c-i,by rw[hlen],by rw[hlen];omega,by omega,by rw[hlen];omega,?_⟩;rcases h4 with rfl|⟨b,off,rfl,hb,hF,hc⟩
 .exact .inl (by simp)
 .by_cases hz:c=i
  .exact .inl (wR (by rw[hlen];omega))
  .refine .inr ⟨b,off+i * sz,?_,hb,hF,λk x hk q u hu=>?_⟩
   .rw[if_neg hz];simp only[Option.map_some,Addr.add];by_cases h0:i * sz=0
    .rw[if_pos h0,h0];rfl
    .rw[if_neg h0]
   .have hk1:k<j-i:=by
     have:=(uB.1 hk).1;rwa [hlen] at this
    rw[List.getElem?_take_of_lt hk1,rA] at hk;have:=hc (i+k) x hk q u hu;rw[<- this];congr 2
    rw[Nat.add_mul];omega
theorem Sl.tail_{α:Type}{F:NP}{w:World}{sz:Nat}{enc:α->List Value}{a:Option Addr}{n c:Nat}{l:List α}(h:Sl F w sz enc (.slice a n c) l)(i:Nat)(hi:i<=n) :
  Sl F w sz enc (.slice (if c=i then a else a.map (·.add (i * sz))) (n-i) (c-i)) (l.drop i):=by
 have:=h.slc i n hi (uI _);obtain⟨a',cap,he, -⟩:=_root_.id h;simp only[Value.slice.injEq] at he;rw[he.2.1] at this ⊢;rwa [uV (by simp)] at this
section
variable {F H:NP}{w w':World}
theorem zIv(lv mv:Value)(L M:List zS)(hl:Sl F w 4 zAA lv L)(hm:Sl H w 4 zAA mv M)(i many:Nat)(h1:i+many<=L.length)(hb:L.length<=1000000)(hb2:M.length<=1000000) :
  Calls Tryz.prog 269 #[lv,.int .i64 (i:Int),.int .i64 (many:Int),mv] w λe w'=>∃v,e=.returned v/\yA (λ_=>False) w' w.heap.size 289 4 zAA v (L.take i++M++L.drop (i+many))/\zF w w':=by
 obtain⟨la,lc,rfl,l1,l2,l3, -⟩:=_root_.id hl;unfold maxLen at l2;have HL:=oh hl;have HM:=oh hm;have hO0:Hid (yA (λ_=>False) (w.alloc (.cells #[] 289)) w.heap.size 289 4 zAA (.slice (some ⟨w.heap.size,0,none⟩) 0 0) ([]:List zS)):=oh (yA.empty (λk f=>f.elim) _ _ _ zBL.len);have hm0:Hid (zF w (w.alloc (.cells #[] 289))):=oh ((zss w).alloc _);obtain⟨ma,mc,rfl,m1,m2,m3, -⟩:=hm;have u1:IntKind.i64.wrap ((i:Int)+(many:Int))=((i+many:Nat):Int):=by rw[IntWalk.i64_in _ (by omega)];omega
 have lt1:(L.take i).length=i:=by rw[wJ];omega
 have lt2:(L.drop (i+many)).length=L.length-(i+many):=tK;have HT1:=oh lt1;have HT2:=oh lt2;clear hl lt1 lt2;have p1:Hid (Sl F w 4 zAA (.slice la i lc) (L.take i)):=oh (HL.out.pre i (by omega));have p3:Hid (Sl F w 4 zAA (.slice (if lc=i+many then la else la.map (·.add ((i+many) * 4))) (L.length-(i+many)) (lc-(i+many))) (L.drop (i+many))):=oh (by have:=HL.out.tail_ (i+many) h1;simpa only[uY] using this);obtain⟨R,hR⟩:∃R,R=L.take i++M++L.drop (i+many):=⟨_,rfl⟩;rw[<- hR];have HR:=oh hR;clear hR
 go_enter Tryz.func269, Tryz.ntmps269
 go_wp2_with (first
  | (at_builtin;refine vY Tryz.elE zBL rfl _ _ rfl w.heap.size _ (.slice la i lc) [] (L.take i) rfl rfl hO0.out (p1.out.ext hm0.out) (by rw[HT1.out];simp only[uK];omega) (by simp) (λf=>f) ?_;rw[wF,uK,HT1.out,uZ];intro a1 c1 w1 hO1 hm1 hat1;have HO1:=oh hO1;have HM1:Hid (zF w w1):=oh (zA.past hm0.out (hm1.mono (λk hk=>(hO0.out.lt k hk).1)));clear hO1 hm1 hat1)
  | (at_builtin;refine vY Tryz.elE zBL rfl _ _ rfl w.heap.size (.slice a1 i c1) (.slice ma M.length mc) (L.take i) M rfl rfl HO1.out (HM.out.ext HM1.out) (by rw[HT1.out];omega) HM1.out.size (λf=>f) ?_;rw[HT1.out];intro a2 c2 w2 hO2 hm2 hat2;have HO2:=oh hO2;have HM2:Hid (zF w w2):=oh (zA.past HM1.out (hm2.mono (λk hk=>(HO1.out.lt k hk).1)));clear hO2 hm2 hat2)
  | (at_builtin;refine vY Tryz.elE zBL rfl _ _ rfl w.heap.size (.slice a2 (i+M.length) c2) _ (L.take i++M) (L.drop (i+many)) rfl rfl HO2.out (p3.out.ext HM2.out) (by rw[uC,HT1.out,HT2.out];omega) HM2.out.size (λf=>f) ?_;rw[uC,HT1.out,HT2.out];intro a3 c3 w3 hO3 hm3 hat3;have HO3:=oh hO3;have HM3:Hid (zF w w3):=oh (zA.past HM2.out (hm3.mono (λk hk=>(HO2.out.lt k hk).1)));clear hO3 hm3 hat3)
  | fail)
 all_goals
  go_ret;exact⟨_,rfl,by rw[HR.out];exact HO3.out,HM3.out⟩
end
end
end Go.Proofs.YtgphfebjjedeaaaGreatDoor
