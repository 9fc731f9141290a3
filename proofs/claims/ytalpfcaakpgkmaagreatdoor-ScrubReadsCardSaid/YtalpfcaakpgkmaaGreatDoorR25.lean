import Derived.Test.YtalpfcaakpgkmaaGreatDoorR24
import Derived.Test.YtalpfcaakpgkmaaGreatDoorR23
import Derived.BigQuiet
namespace Go.Proofs.YtalpfcaakpgkmaaGreatDoor
open Lib renaming hid->oh
set_option maxRecDepth 100000
section
open Go.RowKit
def zCN(n:zI):Option Err:=if zO n=true then none else some ([-1],1)
section
variable {F:NP}{ad:Nat->Addr}{w w':World}
theorem zFS(hL:yH F ad w)(n:zI)(ve vk vi:Value)(Au:Sl F w 4 zAQ ve n.entries)(Av:Sl F w 1 vW vk n.keys)(Aw:Sl F w 1 yI vi n.kids) :
  Calls Tryz.prog 290 #[.agg #[.bool n.leaf,ve,vk,vi]] w λe w'=>∃ev,e=.returned ev/\zAb F ad w' ev (zCN n)/\zF w w':=by
 have m0:zF w (w.alloc (.cells #[.bool n.leaf,ve,vk,vi] 200)):=(zss w).alloc _;have Aj:=oh (zG.new w #[.bool n.leaf,ve,vk,vi] 200);have Az:=oh (Au.ext m0);have B0:=oh (Av.ext m0);have B1:=oh (Aw.ext m0);have HL:=oh (hL.mods m0.ext);have Ak:=oh m0;have Bw:Hid (∀w1,zF w w1->yH F ad w1):=oh (λw1 h=>hL.mods h.ext);obtain⟨ae,ce,rfl,Cc,Bl,Cd,_⟩:=Au;clear Av Aw hL m0;unfold maxLen at Bl;cases A3:n.leaf
 .have HR:Hid (zCN n=if zEB n=true then none else some ([-1],1)):=oh (by unfold zCN;rw[zCe A3]);rw[A3] at Aj Az B0 B1 Ak HL;have B2:=oh (zNC n _ _ _ Az.out B0.out B1.out);rw[A3] at B2;clear A3
  go_enter Tryz.func290, Tryz.ntmps290
  go_wp2_with fail;refine (B2.out).mono ?_;rintro e w1 ⟨rfl,A4⟩;have Al:=Aj.out.ext A4;have b0:=Al.d 0 (.bool false) rfl;have b1:=Al.d 1 (.slice ae n.entries.length ce) rfl;have A0:=oh (Ak.out.trans A4);have Am:=Bw.out _ A0.out;have g1:=Am.c1;have Ax:=oh Am;clear A4 Al Am;cases A5:zEB n
  .rw[A5,if_neg (by simp)] at HR;go_wp2_with fail;refine (vI Ax.out _ _ [] 1 (.sent 1 (by decide) (by decide))).mono ?_;rintro e w2 ⟨f,rfl,hE,A6⟩;have HE:=oh hE;have An:=oh (A0.out.trans A6);clear hE A6;go_wp2_with fail;go_ret;exact⟨_,rfl,by rw[HR.out];exact⟨f,rfl,HE.out⟩,An.out⟩
  .rw[A5,if_pos rfl] at HR;have hz:n.entries.length=0:=by
    rw[zCM] at A5;simp only[uI] at A5;exact ((zEC n).1 A5.1.1.1).1
   rw[hz] at b1;clear A5 hz;go_wp2_with fail;go_ret;exact⟨_,rfl,by rw[HR.out];rfl,A0.out⟩
 .have HR:Hid (zCN n=if (zGC n && decide (n.entries.length<=65535))=true then none else some ([-1],1)):=oh (by unfold zCN;rw[zFo A3]);rw[A3] at Aj Az B0 B1 Ak HL;have B2:=oh (zO9 n _ _ _ Az.out B0.out B1.out);rw[A3] at B2;clear A3
  go_enter Tryz.func290, Tryz.ntmps290
  go_wp2_with fail;refine (B2.out).mono ?_;rintro e w1 ⟨rfl,A4⟩;have Al:=Aj.out.ext A4;have b0:=Al.d 0 (.bool true) rfl;have b1:=Al.d 1 (.slice ae n.entries.length ce) rfl;have A0:=oh (Ak.out.trans A4);have Am:=Bw.out _ A0.out;have g1:=Am.c1;have Ax:=oh Am;clear A4 Al Am;cases A5:zGC n
  .rw[A5,Bool.false_and,if_neg (by simp)] at HR;clear A5;go_wp2_with fail;refine (vI Ax.out _ _ [] 1 (.sent 1 (by decide) (by decide))).mono ?_;rintro e w2 ⟨f,rfl,hE,A6⟩;have HE:=oh hE;have An:=oh (A0.out.trans A6);clear hE A6;go_wp2_with fail;go_ret;exact⟨_,rfl,by rw[HR.out];exact⟨f,rfl,HE.out⟩,An.out⟩
  .rw[A5,Bool.true_and] at HR;clear A5;by_cases hl:(65535:Int)<(n.entries.length:Int)
   .rw[wM (by omega),if_neg (by simp)] at HR;go_wp2_with fail;refine (vI Ax.out _ _ [] 1 (.sent 1 (by decide) (by decide))).mono ?_;rintro e w2 ⟨f,rfl,hE,A6⟩;have HE:=oh hE;have An:=oh (A0.out.trans A6);clear hE A6;go_wp2_with fail;go_ret;exact⟨_,rfl,by rw[HR.out];exact⟨f,rfl,HE.out⟩,An.out⟩
   .rw[wL (by omega),if_pos rfl] at HR;go_wp2_with fail;go_ret;exact⟨_,rfl,by rw[HR.out];rfl,A0.out⟩
end
end
section
open Go.RowKit
attribute [local go_sem ↓] Go.wp_at_zero Go.wp_at_succ
theorem zFT{α:Type}(f:α->List UInt8)(l:List α)(k:Nat):((l.take k).flatMap f).length<=(l.flatMap f).length:=by
 have h:l.flatMap f=(l.take k).flatMap f++(l.drop k).flatMap f:=by rw[<- tP,uZ]
 rw[h,uC];omega
def zBd(n:zI)(k:Nat):List UInt8:=yD 2 n.entries.length++(n.entries.take k).flatMap zAc
def zA9(n:zI)(k:Nat):List UInt8:=yD 2 n.kids.length++(yD 4 (n.kids.headD 0).toNat++((n.keys.zip n.kids.tail).take k).flatMap zAz)
theorem zKe(n:zI):zBd n 0=yD 2 n.entries.length:=by simp[zBd]
theorem zKf(n:zI){k:Nat}{e:zM}(h:n.entries[k]? = some e):zBd n (k+1)=zBd n k++zAc e:=by
 unfold zBd;rw[vO _ _ _ h,tP,<- uN];simp
theorem zLq{n:zI}(hl:n.leaf=true){k:Nat}(hk:k=n.entries.length):zBd n k=yE n:=by
 unfold zBd yE;rw[hk,wZ,if_pos hl]
theorem zLr{n:zI}(hl:n.leaf=true)(k:Nat):(zBd n k).length<=(yE n).length:=by
 unfold yE zBd;rw[if_pos hl];have:=zFT zAc n.entries k;simp only[uC];omega
theorem zJH(n:zI):zA9 n 0=yD 2 n.kids.length++yD 4 (n.kids.headD 0).toNat:=by simp[zA9]
theorem zJI(n:zI){k:Nat}{s:ByteArray}{c:Int}(h:n.keys[k]? = some s)(h2:n.kids[k+1]? = some c):zA9 n (k+1)=zA9 n k++zAz (s,c):=by
 have hz:(n.keys.zip n.kids.tail)[k]? = some (s,c):=by
  rw[List.getElem?_zip_eq_some];exact⟨h,by rw[List.getElem?_tail];exact h2⟩
 unfold zA9;rw[vO _ _ _ hz,tP];simp only[uN,wQ,List.flatMap_nil,wJ]
theorem zKg{n:zI}(hl:n.leaf=false)(_hk2:n.kids.length=n.keys.length+1){k:Nat}(hk:k=n.keys.length):zA9 n k=yE n:=by
 unfold zA9 yE;rw[uY (by simp;omega),if_neg (by rw[hl];simp)]
theorem zKh{n:zI}(hl:n.leaf=false)(k:Nat):(zA9 n k).length<=(yE n).length:=by
 unfold yE zA9;rw[if_neg (by rw[hl];simp)];have:=zFT zAz (n.keys.zip n.kids.tail) k;simp only[uC];omega
def zRf(F:NP)(ad:Nat->Addr)(w:World)(n:zI)(e:Ending)(w':World):Prop :=
 zF w w'/\((zO n=true/\∃a c,e=.returned (.tuple #[.slice a (yE n).length c,.nilIface])/\yC (λ_=>False) w' w.heap.size 5 1 zZ (.slice a (yE n).length c) (yE n)) \/
  (zO n=false/\∃f,e=.returned (.tuple #[.slice none 0 0,zP f])/\vN F ad w' (zP f) [-1, -1] 1))
theorem zEw{n:zI}(hl:n.leaf=true)(hr:zO n=true){k:Nat}{e:zM}(h:n.entries[k]? = some e):qR e=true:=by
 rw[zFo hl] at hr;unfold zGC at hr;simp only[uI,tA] at hr;exact hr.1.1.1 e (uU h)
theorem zPB{n:zI}(hl:n.leaf=true)(hr:zO n=true):n.entries.length<=65535:=by
 rw[zFo hl] at hr;simp only[uI,uO] at hr;exact hr.2
theorem zND{n:zI}(hl:n.leaf=false)(hr:zO n=true){k:Nat}{s:ByteArray}(h:n.keys[k]? = some s):s.size<256:=by
 rw[zCe hl,zCM] at hr;simp only[uI,tA] at hr;have:=(zA5 s).1 (hr.1.2 s (uU h));omega
theorem zJk{n:zI}(hl:n.leaf=false)(hr:zO n=true):2<=n.kids.length/\n.kids.length<=256/\n.kids.length=n.keys.length+1:=by
 rw[zCe hl,zCM] at hr;simp only[uI] at hr;have:=(zEC n).1 hr.1.1.1;omega
theorem zJl{n:zI}(hl:n.leaf=false)(hr:zO n=true){k:Nat}{c:Int}(h:n.kids[k]? = some c):2<=c/\c<256:=by
 rw[zCe hl,zCM] at hr;simp only[uI,tA] at hr;simpa[zCn] using hr.1.1.2.1 c (uU h)
section
variable {F:NP}{ad:Nat->Addr}{w w':World}
theorem WrR.new(w:World)(base:Nat)(h:base<=w.heap.size):WrR base (w.alloc (.cells #[.slice none 0 0,.nilIface] 422)) w.heap.size [] :=
 ⟨⟨none,0,zG.new w _ _,yC.nil _ _ _ _ _ _⟩,h⟩
end
end
section
theorem zFB(b:List UInt8)(r:RdA):r.at_+1<=(jW b r).2.at_/\((jW b r).2.at_<=r.at_+1\/(jW b r).2.at_<=b.length):=by
 unfold jW;simp only;have h:(vM b r 1).2.at_=r.at_+1:=rfl;split
 .rw[<- h];exact⟨Int.le_refl _,.inl (Int.le_refl _)⟩
 .rename_i hc;simp only[not_or,Int.not_lt] at hc;simp only;rw[h] at hc ⊢;exact⟨by omega,.inr (by omega)⟩
theorem zLs{b:List UInt8}{r:RdA}{W:Nat}(h:(vM b r W).2.bad=false):r.bad=false/\r.at_+W<=b.length:=by
 unfold vM at h;simp only[Bool.or_eq_false_iff] at h;refine⟨h.1,?_⟩;have h2:=h.2;unfold vC at h2;split at h2
 .simp at h2
 .split at h2
  .simp at h2
  .rename_i h4;omega
theorem zPC{b:List UInt8}{r:RdA}(h:(jW b r).2.bad=false):r.bad=false/\(jW b r).2.at_<=b.length:=by
 unfold jW at h ⊢;simp only at h ⊢;split
 .rename_i hc;rw[if_pos hc] at h;cases h
 .rename_i hc;simp only[not_or,Int.not_lt,pJ] at hc;exact⟨(zLs hc.1).1,by simp only;omega⟩
theorem zCf(b:List UInt8)(r:RdA)(W:Nat):(vM b r W).2.at_=r.at_+W:=rfl
theorem zIP(b:List UInt8)(r:RdA):r.at_+1<=(jG b r).2.at_/\((jG b r).2.at_<=r.at_+10\/(jG b r).2.at_<=b.length+10):=by
 have h1:=zFB b r;unfold jG;simp only;split
 .have h2:=zFB b (vM b (jW b r).2 1).2;have h3:=zCf b (jW b r).2 1;simp only;rw[h3] at h2;omega
 .have h3:=zCf b (jW b r).2 1;have h4:=zCf b (vM b (jW b r).2 1).2 4;have h5:=zCf b (vM b (vM b (jW b r).2 1).2 4).2 4;simp only;rw[h5,h4,h3];omega
theorem zNE{b:List UInt8}{r:RdA}(h:(jG b r).2.bad=false):(jG b r).2.at_<=b.length:=by
 unfold jG at h ⊢;simp only at h ⊢;split
 .rename_i hc;rw[if_pos hc] at h;exact (zPC h).2
 .rename_i hc;rw[if_neg hc] at h;exact (zLs h).2
theorem zFU(b:List UInt8):∀(k:Nat) (r:RdA) (l:List zM),(qH b k r l).1.length<=l.length+(if r.bad then 0 else (b.length-r.at_).toNat+1)
 | 0,r,l=>by simp only[qH];omega
 | k+1,r,l=>by
  rw[qH];cases hb:r.bad with
  | true=>simp
  | false =>
   simp only[wI,tX];have h1:=zFU b k (jG b r).2 (l++[(jG b r).1]);have h2:=zIP b r;simp only[uC,uG,uL] at h1;cases hc:(jG b r).2.bad with
   | true=>rw[hc] at h1;simp at h1;omega
   | false =>
    have h3:=zNE hc;rw[hc] at h1;simp only[wI,tX] at h1;omega
theorem zJm(b:List UInt8)(r:RdA):(vM b r 2).1<=65535:=by
 unfold vM vC;simp only;split
 .simp
 .split
  .simp
  .have h1:=zE5 ((b.drop r.at_.toNat).take 2);have h2:((b.drop r.at_.toNat).take 2).length<=2:=List.length_take_le _ _;have h3:(256:Nat) ^ ((b.drop r.at_.toNat).take 2).length<=256 ^ 2:=wX (by omega) h2;simp only;omega
theorem zHE(lf:Bool)(b:List UInt8):(zAR lf b).1.leaf=lf:=by
 unfold zAR;cases lf <;> simp
theorem zGD(lf:Bool)(b:List UInt8)(hb:b.length<=1000)(hr:zO (zAR lf b).1=true):(yE (zAR lf b).1).length<=100000:=by
 have hl:=zHE lf b;cases lf with
 | true =>
  have hn:(zAR true b).1.entries.length<=1001:=by
   unfold zAR;simp only[tU];have:=zFU b (vM b ⟨0,false⟩ 2).1 (vM b ⟨0,false⟩ 2).2 [];have h2:(vM b ⟨0,false⟩ 2).2.at_=2:=zCf b ⟨0,false⟩ 2;simp only[uL] at this;split at this <;> omega
  have Ao:∀x∈(zAR true b).1.entries,(zAc x).length<=59:=λx hx=>by
   obtain⟨i,hi,e⟩:=wF hx;exact zM2 (zEw hl hr (k:=i) (by rw[<- e];exact uB hi))
  have:=zIH zAc 59 _ Ao;unfold yE;rw[if_pos hl,uC,zD];omega
 | false =>
  obtain⟨g1,g2,g3⟩:=zJk hl hr;have Ao:∀x∈(zAR false b).1.keys.zip (zAR false b).1.kids.tail,(zAz x).length<=37:=λx hx=>by
   obtain⟨s,c⟩:=x;have h1:=(List.of_mem_zip hx).1;rw[zCe hl,zCM] at hr;simp only[uI,tA] at hr;exact zM3 (hr.1.2 s h1)
  have:=zIH zAz 37 _ Ao;have hz:((zAR false b).1.keys.zip (zAR false b).1.kids.tail).length<=255:=by
   rw[List.length_zip,List.length_tail];omega
  unfold yE;rw[if_neg (by rw[hl];simp),uC,uC,zD,zD];omega
end
section
open Go.RowKit
section
variable {F:NP}{ad:Nat->Addr}{w w':World}{B:Nat}{bv:Value}{b:List UInt8}{r:RdA}
theorem zED(b:List UInt8)(r:RdA)(W:Nat)(hW:W=1\/W=2\/W=4):(vM b r W).1<4294967296/\(vM b r W).2.at_=r.at_+W:=⟨zHB b r.at_ W hW,rfl⟩
theorem zIQ(hL:yH F ad w)(h:RdR F w B bv b r)(W:Nat)(hW:W=1\/W=2\/W=4)(h0:0<=r.at_)(h1:r.at_<=1000000000000)(n:Nat)(r':RdA)(hx:vM b r W=(n,r')) :
  Calls Tryz.prog 241 #[.pointer (some ⟨B,0,none⟩),.int .i64 (W:Int)] w λe w'=>e=.returned (.int .i64 (n:Int))/\RdR F w' B bv b r'/\zA (λk=>k=B) w w':=by
 have:=zO4 hL h W hW h0 h1;rw[hx] at this;exact this
theorem zNF(hL:yH F ad w)(h:RdR F w B bv b r)(h0:0<=r.at_)(h1:r.at_<=1000000000000) :
    Calls Tryz.prog 242 #[.pointer (some ⟨B,0,none⟩)] w λe w'=>e=.returned (.string (jW b r).1)/\RdR F w' B bv b (jW b r).2/\zA (λk=>k=B) w w':=by
  have HH:=oh h
  have HL:=oh hL
  obtain⟨Bx,Bm⟩:=zED b r 1 (.inl rfl)
  obtain⟨n,⟨t,bd⟩,hx⟩:∃n r1,vM b r 1=(n,r1):=⟨_,_,rfl⟩
  rw[hx] at Bx Bm
  simp only at Bx Bm
  obtain⟨t,rfl⟩:∃k:Nat,t=k:=⟨t.toNat,by omega⟩
  have ht:(t:Int)<=1000000000001:=by omega
  have HX:=oh hx
  have Be:=oh (And.intro h0 h1)
  obtain⟨sa,cap,rfl,hz,Bn,Cw,Bo⟩:=_root_.id h.sl
  unfold maxLen at Bn
  have HT:Hid (jW b r=if bd=true\/(b.length:Int)-t<(n:Int) then (⟨#[]⟩,⟨t,true⟩) else (⟨((b.drop t).take n).toArray⟩,⟨t+n,false⟩)):=oh (by
    unfold jW;simp only[hx,uH])
  have Cx:1<=t:=by omega
  clear h hL hx Bm h0 h1
  by_cases hc:bd=true\/(b.length:Int)-t<(n:Int)
  . rw[if_pos hc] at HT
    have HC:=oh hc
    clear hc Bo
    go_enter Tryz.func242, Tryz.ntmps242
    go_wp2_with fail
    refine (zIQ HL.out HH.out 1 (.inl rfl) Be.out.1 Be.out.2 _ _ HX.out).mono ?_
    rintro e w1 ⟨rfl,hR,hm⟩
    have HR:=oh hR
    have HM:=oh hm
    have c0:=hR.own.d 0 (.slice sa b.length cap) rfl
    have c1:=hR.own.d 1 (.int .i64 (t:Int)) rfl
    have c2:=hR.own.d 2 (.bool bd) rfl
    have f2:=hR.own.frozen 2
    clear hR hm
    have A0:Hid (∀q,zA (λk=>k=B) w1 ((w1.drewN q).setCell ⟨B,2,none⟩ (.bool true))):=oh λq=>((zss w1).drewN q).trans (zA.at (λk=>k=B) (w1.drewN q) B 2 _ rfl)
    have HB:Hid (∀q,zG (w1.drewN q) B #[.slice sa b.length cap,.int .i64 (t:Int),.bool bd] 369):=oh λ_=>HR.out.own
    cases bd
    . have Ag:(b.length:Int)-t<(n:Int):=by have:=HC.out;simpa using this
      have hd:decide ((b.length:Int)-t<(n:Int))=true:=wL Ag
      go_wp2_with fail
      go_quiet (fail)
      go_wp2_with fail
      go_ret
      exact⟨by rw[HT.out];rfl,by rw[HT.out];exact HR.out.turn ⟨t,true⟩ (A0.out _) ((HB.out _).set 2 _),HM.out.trans (A0.out _)⟩
    . go_wp2_with fail
      go_quiet (fail)
      go_wp2_with fail
      go_ret
      exact⟨by rw[HT.out];rfl,by rw[HT.out];exact HR.out.turn ⟨t,true⟩ (A0.out _) ((HB.out _).set 2 _),HM.out.trans (A0.out _)⟩
  . rw[if_neg hc] at HT
    have Ce:bd=false:=by cases bd <;> simp_all
    subst Ce
    have Ag:¬ (b.length:Int)-t<(n:Int):=λh=>hc (.inr h)
    clear hc
    have Bp:t+n<=b.length:=by omega
    obtain⟨bb,off,rfl⟩:∃bb off,sa=some ⟨bb,off,none⟩:=by
      rcases Bo with h|⟨bb,off,h,_⟩
      . rw[h] at Bp;simp at Bp;omega
      . exact⟨bb,off,h⟩
    clear Bo
    go_enter Tryz.func242, Tryz.ntmps242
    go_wp2_with fail
    refine (zIQ HL.out HH.out 1 (.inl rfl) Be.out.1 Be.out.2 _ _ HX.out).mono ?_
    rintro e w1 ⟨rfl,hR,hm⟩
    have HR:=oh hR
    have HM:=oh hm
    have c0:=hR.own.d 0 (.slice (some ⟨bb,off,none⟩) b.length cap) rfl
    have c1:=hR.own.d 1 (.int .i64 (t:Int)) rfl
    have c2:=hR.own.d 2 (.bool false) rfl
    have f1:=hR.own.frozen 1
    have hd:decide ((b.length:Int)-t<(n:Int))=false:=wM (by omega)
    have Cy:IntKind.i64.wrap (t:Int)=(t:Int):=IntWalk.i64_in _ (by omega)
    have Cz:(0:Int)<=(t:Int):=by omega
    have Cf:(t:Int)<=(t:Int)+(n:Int):=by omega
    have By:(t:Int)+(n:Int)<=(cap:Int):=by omega
    have Cg:(0:Int)<=(t:Int)+(n:Int):=by omega
    have Bz:((t:Int)+(n:Int)).toNat-t=n:=by omega
    have Bq:Sl F w1 1 zZ (.slice (if cap=t then some ⟨bb,off,none⟩ else some ⟨bb,off+t,none⟩) n (cap-t)) ((b.drop t).take n):=by
      have D0:((b.drop t).take n).length=n:=by simp;omega
      split
      . have Ch:n=0:=by omega
        subst Ch
        exact⟨some ⟨bb,off,none⟩,cap-t,by simp,by simp,by unfold maxLen;omega,by simp,.inl (by simp)⟩
      . have:=Sl.sub hR.sl t (t+n) (by omega) Bp
        rw[wC,show t+n-t=n by omega] at this
        exact this
    have D1:∀q q':Nat,(convert 69 9 (.slice (if cap=t then some ⟨bb,off,none⟩ else some ⟨bb,off+t,none⟩) n (cap-t))).run Tryz.prog (((w1.drewN q).setCell ⟨B,1,none⟩ (.int .i64 ((t:Int)+(n:Int)))).drewN q')=.ok (.string ⟨((b.drop t).take n).toArray⟩) (((w1.drewN q).setCell ⟨B,1,none⟩ (.int .i64 ((t:Int)+(n:Int)))).drewN q'):=λq q' =>
      zG8 (P:=Tryz.prog) Tryz.underlying69 Tryz.underlying5 Tryz.underlying9 (Bq.mods ((((zA.refl F w1).drewN q).trans (zA.at F (w1.drewN q) B 1 _ hR.mem)).drewN q'))
    have D2:=oh Bq
    have A0:Hid (∀q q',zA (λk=>k=B) w1 (((w1.drewN q).setCell ⟨B,1,none⟩ (.int .i64 ((t:Int)+(n:Int)))).drewN q')):=oh λq q'=>(((zss w1).drewN q).trans (zA.at (λk=>k=B) (w1.drewN q) B 1 _ rfl)).drewN q'
    have HB:Hid (∀q q',zG (((w1.drewN q).setCell ⟨B,1,none⟩ (.int .i64 ((t:Int)+(n:Int)))).drewN q') B #[.slice (some ⟨bb,off,none⟩) b.length cap,.int .i64 ((t:Int)+(n:Int)),.bool false] 369):=oh λq _=>zG.set (w:=w1.drewN q) HR.out.own 1 _
    clear hR hm Bq
    go_wp2_with fail
    go_quiet (fail)
    go_wp2_with fail
    go_quiet (fail)
    all_goals go_wp2_with fail
    all_goals
      go_ret
      try (have e : cap = t := by assumption
           subst e)
      exact⟨by rw[HT.out];rfl,by rw[HT.out];exact HR.out.turn _ (A0.out _ _) (HB.out _ _),HM.out.trans (A0.out _ _)⟩
end
end
section
open Go.RowKit
attribute [local go_sem ↓] Go.wp_at_zero Go.wp_at_succ
structure zB5(ad:Nat->Addr)(F:NP)(w w1:World)(ve vk vi:Value)(lf:Bool)(B:Nat)(l:List UInt8):Prop where
 ext:zF w w1
 wr:WrR (w.heap.size+1) w1 B l
 env0:yH F ad w
 box:zG w1 w.heap.size #[.bool lf,ve,vk,vi] 200
section
variable {F:NP}{ad:Nat->Addr}{w w1 w2 w':World}{n:zI}{ve vk vi:Value}{lf:Bool}{B:Nat}{l l':List UInt8}
theorem zB5.step(h:zB5 ad F w w1 ve vk vi lf B l)(m:zA (λk=>w.heap.size+1<=k) w1 w2)(g:WrR (w.heap.size+1) w2 B l'):zB5 ad F w w2 ve vk vi lf B l' :=
 ⟨zA.past h.ext (m.mono (λk (hk:w.heap.size+1<=k)=>by omega)),g,h.env0,h.box.mods m (by omega)⟩
theorem zB5.alloc(h:zB5 ad F w w1 ve vk vi lf B l)(o:Obj):zB5 ad F w (w1.alloc o) ve vk vi lf B l :=
 h.step ((zss w1).alloc o) (by
  obtain⟨a,c,h1,h2⟩:=h.wr.box;exact⟨⟨a,c,h1.alloc o,h2.ext ((zss w1).alloc o)⟩,h.wr.ge⟩)
theorem zB5.env(h:zB5 ad F w w1 ve vk vi lf B l):yH F ad w1:=h.env0.mods h.ext.ext
theorem zB5.lt(h:zB5 ad F w w1 ve vk vi lf B l):∀k,F k->k<w.heap.size+1:=λk hk=>by have:=h.env0.lt k hk;omega
theorem zB5.num(h:zB5 ad F w w1 ve vk vi lf B l)(m W:Nat)(hW:W=1\/W=2\/W=4)(hm:m<256 ^ W)(A2:l.length<=100000) :
  Calls Tryz.prog 291 #[.pointer (some ⟨B,0,none⟩),.int .i64 (m:Int),.int .i64 (W:Int)] w1 λe w'=>e=.returned (.tuple #[])/\zB5 ad F w w' ve vk vi lf B (l++yD W m)/\zA (λk=>w.heap.size+1<=k) w1 w'/\WFr B w1 w' :=
 (zLj h.env h.lt h.wr m W hW hm A2).mono λ_ _ ⟨h1,h2,h3,h4⟩=>⟨h1,h.step h3 h2,h3,h4⟩
theorem zB5.text(h:zB5 ad F w w1 ve vk vi lf B l)(s:ByteArray)(hs:s.size<256)(A2:l.length<=100000) :
  Calls Tryz.prog 292 #[.pointer (some ⟨B,0,none⟩),.string s] w1 λe w'=>e=.returned (.tuple #[])/\zB5 ad F w w' ve vk vi lf B (l++vQ s)/\zA (λk=>w.heap.size+1<=k) w1 w'/\WFr B w1 w' :=
 (zO3 h.env h.lt h.wr s hs A2).mono λ_ _ ⟨h1,h2,h3,h4⟩=>⟨h1,h.step h3 h2,h3,h4⟩
theorem zEW{G:NP}{w w':World}(m:zA G w w'){b o:Nat}{v:Value}(h:w.cell? ⟨b,o,none⟩=some v)(hb:¬ G b):w'.cell? ⟨b,o,none⟩=some v:=(m.cell (yN h) hb).trans h
theorem zQc(l:List Int)(h:0<l.length):l.headD 0=l[0]:=by
 cases l with
 | nil=>simp at h
 | cons a r=>rfl
theorem zEx(hL:yH F ad w)(n:zI)(ve vk vi:Value)(Au:Sl F w 4 zAQ ve n.entries)(Av:Sl F w 1 vW vk n.keys)(Aw:Sl F w 1 yI vi n.kids)(A2:zO n=true->(yE n).length<=100000) :
  Calls Tryz.prog 231 #[.agg #[.bool n.leaf,ve,vk,vi]] w (zRf F ad w n):=by
 have m0:zF w (w.alloc (.cells #[.bool n.leaf,ve,vk,vi] 200)):=(zss w).alloc _;have Aj:=oh (zG.new w #[.bool n.leaf,ve,vk,vi] 200);have Az:=oh Au;have B0:=oh Av;have B1:=oh Aw;have HL:=oh hL;have C0:=oh (zFS (hL.mods m0.ext) n ve vk vi (Au.ext m0) (Av.ext m0) (Aw.ext m0));have Ak:=oh m0;have B3:=oh A2;obtain⟨ae,ce,rfl,Cc,Bl,Cd,C1⟩:=Au;obtain⟨ak,ck,rfl,D3,Bf,D4,C2⟩:=Av;obtain⟨ai,ci,rfl,Cf,By,Cg,C3⟩:=Aw;have Ci:=oh C1;have Cj:=oh C2;have Br:=oh C3;clear hL m0 A2 C1 C2 C3;unfold maxLen at Bl Bf By;generalize A3:n.leaf=lf
 rw[A3] at Aj C0 Ak;have Aa:=oh A3;clear A3
 go_enter Tryz.func231, Tryz.ntmps231
 go_wp2_with fail;refine (C0.out).mono ?_;rintro e w1 ⟨ev,rfl,hE,A4⟩;have C4:=oh (Aj.out.ext A4);have A0:=oh (Ak.out.trans A4);have Ax:=oh (HL.out.mods A0.out.ext);clear A4;cases hr:zO n with
 | false =>
  have HR:=oh hr;unfold zCN at hE;rw[hr,if_neg (by simp)] at hE;obtain⟨f,rfl,hE⟩:=hE;have HE:=oh hE;clear hE hr;go_wp2_with fail;refine (wrap_any Ax.out _ _ _ _ HE.out).mono ?_;rintro e w2 ⟨f2,rfl,C5,A6⟩;have Ck:=oh C5;have An:=oh (A0.out.trans A6);clear C5 A6;go_wp2_with fail;go_ret2
  exact⟨An.out,.inr ⟨HR.out,f2,rfl,Ck.out⟩⟩
 | true =>
  have HR:=oh hr;unfold zCN at hE;rw[hr,if_pos rfl] at hE;cases hE
  clear hr;have D5:=A0.out.size;have Cl:=C4.out.lt;have HP:Hid (zB5 ad F w (w1.alloc (.cells #[.slice none 0 0,.nilIface] 422)) (.slice ae n.entries.length ce) (.slice ak n.keys.length ck) (.slice ai n.kids.length ci) lf w1.heap.size []):=oh
   ⟨A0.out.alloc _,WrR.new w1 _ (by omega),HL.out,C4.out.alloc _⟩
  have p0:=HP.out.box.d 0 (.bool lf) rfl;cases lf
  .obtain⟨g1,g2,g3⟩:=zJk Aa.out HR.out;have p3:=HP.out.box.d 3 (.slice ai n.kids.length ci) rfl;have Bg:Hid ((yE n).length<=100000):=oh (B3.out HR.out);have Bh:=oh g3;obtain⟨b0,off0,rfl,D6,D7,Ap⟩:=Sl.at Br.out HP.out.ext (λ_ _ f=>f.elim) 0 (by omega);have Cm:=zJl Aa.out HR.out (uB (show 0<n.kids.length by omega));obtain⟨z,hz⟩:∃z:Nat,n.kids[0]=(z:Int):=⟨n.kids[0].toNat,by omega⟩;have HZ:Hid (z<256 ^ 4/\(n.kids.headD 0).toNat=z):=oh ⟨by omega,by
    have:=zQc n.kids (show 0<n.kids.length by omega);rw[this,hz];rfl⟩
   have i0:(0:Int)<(n.kids.length:Int):=by omega
   have Cn:=oh hz;clear Ap Cm hz g3;go_wp2_with fail;refine (HP.out.num n.kids.length 2 (.inr (.inl rfl)) (by have:=Bh.out;omega) (by simp)).mono ?_;rintro e w2 ⟨rfl,Ab,_,_⟩;have p3:=Ab.box.d 3 (.slice (some ⟨b0,off0,none⟩) n.kids.length ci) rfl;obtain⟨b0',off0',Ad,_,_,Ap⟩:=Sl.at Br.out Ab.ext (λ_ _ f=>f.elim) 0 (by have:=Bh.out;omega);injection Ad with Ad;injection Ad with B4 Bs;subst B4 Bs;have d0:w2.cell? ⟨b0,off0,none⟩=some (.int .i64 (z:Int)):=by
    have:=Ap 0 _ rfl;rw[Cn.out] at this;simpa using this
   have Bi:=oh Ab;clear Ab Ap HP;go_wp2_with fail;refine (Bi.out.num z 4 (.inr (.inr rfl)) HZ.out.1 (by simp[zD])).mono ?_;rintro e w3 ⟨rfl,A7,_,_⟩;have p2:=A7.box.d 2 (.slice ak n.keys.length ck) rfl;rw[wP,<- HZ.out.2,<- zJH n] at A7;have B5:=oh A7;have Bn:=A7.ext.size;clear A7 Bi d0;go_wp2_with fail;go_loopg [70] n.keys.length (λm i wr=>∃k:Nat,k+m=n.keys.length/\i=.int .i64 k/\Hid (zB5 ad F w wr (.slice ae n.entries.length ce) (.slice ak n.keys.length ck) (.slice (some ⟨b0,off0,none⟩) n.kids.length ci) false w1.heap.size (zA9 n k)))
   case atStart=>exact⟨0,by omega,rfl,B5⟩
   case round =>
    obtain⟨k,Co,rfl,HPk⟩:=hrel;by_cases Ag:k<n.keys.length
    .obtain⟨b,off,rfl,hb,hF,hc⟩:=Sl.at Cj.out HPk.out.ext (λ_ _ f=>f.elim) k Ag;have C6:k+1<n.kids.length:=by rw[Bh.out];omega
     have Aq:n.keys[k]? = some n.keys[k]:=uB Ag;have Bj:n.kids[k+1]? = some n.kids[k+1]:=uB C6;have A1:=zJI n Aq Bj;have Cp:=zND Aa.out HR.out Aq;have Cq:=zJl Aa.out HR.out Bj;have Ae:(zA9 n (k+1)).length<=100000:=uP (zKh Aa.out (k+1)) Bg.out;rw[A1,uC] at Ae;have c0:=hc 0 _ rfl;simp only[uT,wC] at c0;obtain⟨y,hy⟩:∃y:Nat,n.kids[k+1]=(y:Int):=⟨n.kids[k+1].toNat,by omega⟩;have HY:Hid (n.kids[k+1]? = some (y:Int)/\y<256 ^ 4):=oh ⟨by rw[Bj,hy],by omega⟩;have Ar:Hid (zAz (n.keys[k],n.kids[k+1])=vQ n.keys[k]++yD 4 y):=oh (by unfold zAz;simp only[hy,uH]);have A8:Hid ((zA9 n k).length+(vQ n.keys[k]++yD 4 y).length<=100000):=oh (by rw[<- Ar.out];exact Ae);have Af:=oh A1;have Bk:=oh C6;have i1:(k:Int)+1<(n.kids.length:Int):=by omega
     clear hc Aq Bj A1 Ae Cq hy;go_wp2_with fail;refine (HPk.out.text n.keys[k] Cp (by have:=A8.out;omega)).mono ?_;rintro e w4 ⟨rfl,Ac,_,_⟩;have p3:=Ac.box.d 3 (.slice (some ⟨b0,off0,none⟩) n.kids.length ci) rfl;obtain⟨b0',off0',Ad,_,_,Ap⟩:=Sl.at Br.out Ac.ext (λ_ _ f=>f.elim) (k+1) Bk.out;injection Ad with Ad;injection Ad with B4 Bs;subst B4 Bs;have d0:w4.cell? ⟨b0,off0+(k+1),none⟩=some (.int .i64 (y:Int)):=by
      have:=Ap 0 (.int .i64 (n.kids[k+1]' Bk.out)) rfl;have Cr:n.kids[k+1]' Bk.out=(y:Int):=by
       have:=HY.out.1;rw[uB Bk.out] at this;exact Option.some.inj this
      rw[Cr] at this;simpa using this
     have B6:=oh Ac;clear Ac Ap;go_wp2_with fail;refine (B6.out.num y 4 (.inr (.inr rfl)) HY.out.2 (by have:=A8.out;simp only[uC] at this ⊢;omega)).mono ?_;rintro e w5 ⟨rfl,Ah,_,_⟩;have B7:=oh Ah;clear Ah;go_wp2_with fail;go_roundg (gk-1)
     case measure=>omega
     case rel=>exact⟨k+1,by omega,by go_num,oh (by rw[Af.out,Ar.out];have:=B7.out;simpa only[uN] using this)⟩
    .have B8:k=n.keys.length:=by omega
     have As:=oh HPk.out;rw[zKg Aa.out Bh.out B8] at As;obtain⟨a,c,At,B9⟩:=As.out.wr.box;have b0:=At.d 0 (.slice a (yE n).length c) rfl;have b1:=At.d 1 .nilIface rfl;have Bt:=oh B9;clear At B9 B8;go_wp2_with fail;go_region_held3 (λw'=>w'.cell? ⟨w1.heap.size,0,none⟩=some (.slice a (yE n).length c)/\w'.cell? ⟨w1.heap.size,1,none⟩=some .nilIface)
      (first|(with_reducible exact⟨b0,b1⟩)|go_keep)
      (first
       | (go_at_call 43;refine (wrap_nil _ _).mono ?_;rintro e w2 ⟨rfl,rfl⟩)
       | fail)
     all_goals
      go_wp2_with fail;go_ret2
      exact⟨As.out.ext.drew,.inl ⟨HR.out,a,c,rfl,(Bt.out.rebase (by omega)).ext (zss wr).drew⟩⟩
  .have p1:=HP.out.box.d 1 (.slice ae n.entries.length ce) rfl;have Bg:Hid (n.entries.length<=65535/\(yE n).length<=100000):=oh ⟨zPB Aa.out HR.out,B3.out HR.out⟩;go_wp2_with fail;refine (HP.out.num n.entries.length 2 (.inr (.inl rfl)) (by have:=Bg.out;omega) (by simp)).mono ?_;rintro e w2 ⟨rfl,Ab,_,_⟩;have p1:=Ab.box.d 1 (.slice ae n.entries.length ce) rfl;rw[wP,<- zKe n] at Ab;have Bi:=oh Ab;have Bn:=Ab.ext.size;clear Ab HP;go_wp2_with fail;go_loopg [28] n.entries.length (λm i wr=>∃k:Nat,k+m=n.entries.length/\i=.int .i64 k/\Hid (zB5 ad F w wr (.slice ae n.entries.length ce) (.slice ak n.keys.length ck) (.slice ai n.kids.length ci) true w1.heap.size (zBd n k)))
   case atStart=>exact⟨0,by omega,rfl,Bi⟩
   case round =>
    obtain⟨k,Co,rfl,HPk⟩:=hrel;by_cases Ag:k<n.entries.length
    .obtain⟨b,off,rfl,hb,hF,hc⟩:=Sl.at Ci.out HPk.out.ext (λ_ _ f=>f.elim) k Ag;have Aq:n.entries[k]? = some n.entries[k]:=uB Ag;have A1:=zKf n Aq;have A9:=zEw Aa.out HR.out Aq;have Ae:(zBd n (k+1)).length<=100000:=uP (zLr Aa.out (k+1)) Bg.out.2;rw[A1,uC] at Ae;have c0:=hc 0 _ rfl;simp only[uT] at c0;have c1:=hc 1 _ rfl;have c2:=hc 2 _ rfl;have c3:=hc 3 _ rfl;clear hc Aq;generalize n.entries[k]=en at *
     obtain⟨key,value,chain,size⟩:=en;have Af:=oh A1;clear A1;simp only at c0 c1 c2 c3;unfold qR at A9;simp only[uI] at A9;obtain⟨hk,A9⟩:=A9;have Bf:key.size<256:=by have:=(zA5 key).1 hk;omega
     have C7:wr.heap.size≠w1.heap.size:=by
      obtain⟨_,_,Ad,_⟩:=HPk.out.wr.box;have:=Ad.lt;omega
     have Ba:=oh C7;have C8:=oh (zG.new wr #[.string key,.string value,.int .i64 chain,.int .i64 size] 208);clear hk C7;by_cases hz:chain=0
     .rw[if_pos hz] at A9;subst hz;simp only[uI,uO] at A9;have HV:=oh A9.2;have Ar:Hid (zAc ⟨key,value,0,size⟩=vQ key++(yD 1 0++vQ value)):=oh rfl;have A8:Hid ((zBd n k).length+(vQ key++(yD 1 0++vQ value)).length<=100000):=oh Ae;clear A9 Ae;go_wp2_with fail;refine ((HPk.out.alloc _).text key Bf (by have:=A8.out;omega)).mono ?_;rintro e w3 ⟨rfl,A7,_,Bb⟩;have Ai:=Bb _ _ _ Ba.out (by decide) C8.out;have q1:=Ai.d 1 (.string value) rfl;have q2:=Ai.d 2 (.int .i64 0) rfl;have Bu:=oh Ai;have B5:=oh A7;clear Ai A7 Bb;go_wp2_with fail;refine (B5.out.num 0 1 (.inl rfl) (by decide) (by have:=A8.out;simp only[uC] at this ⊢;omega)).mono ?_;rintro e w4 ⟨rfl,Ac,_,Bc⟩;have Ay:=Bc _ _ _ Ba.out (by decide) Bu.out;have q1:=Ay.d 1 (.string value) rfl;have B6:=oh Ac;clear Ay Ac Bc;go_wp2_with fail;refine (B6.out.text value (by have:=HV.out;omega) (by have:=A8.out;simp only[uC] at this ⊢;omega)).mono ?_;rintro e w5 ⟨rfl,Ah,_,_⟩;have B7:=oh Ah;clear Ah;go_wp2_with fail;go_roundg (gk-1)
      case measure=>omega
      case rel=>exact⟨k+1,by omega,by go_num,oh (by rw[Af.out,Ar.out];have:=B7.out;simpa only[uN] using this)⟩
     .rw[if_neg hz] at A9;simp only[uI,uO,zCn] at A9;obtain⟨⟨⟨⟨g1,g2⟩,g3⟩,g4⟩,g5⟩:=A9;obtain⟨cn,rfl⟩:∃cn:Nat,chain=(cn:Int):=⟨chain.toNat,by omega⟩;obtain⟨sn,rfl⟩:∃sn:Nat,size=(sn:Int):=⟨size.toNat,by omega⟩;have Cl:((cn:Int) == 0)=false:=uR.2 hz;have Ar:Hid (zAc ⟨key,value,(cn:Int),(sn:Int)⟩=vQ key++(yD 1 1++(yD 4 cn++yD 4 sn))):=oh (by unfold zAc;simp only[if_neg hz,uH]);have A8:Hid ((zBd n k).length+(vQ key++(yD 1 1++(yD 4 cn++yD 4 sn))).length<=100000):=oh (by rw[<- Ar.out];exact Ae);have HC:Hid (cn<256 ^ 4/\sn<256 ^ 4):=oh (by constructor <;> omega);clear Ae hz g1 g2 g3 g4 g5;go_wp2_with fail;refine ((HPk.out.alloc _).text key Bf (by have:=A8.out;omega)).mono ?_;rintro e w3 ⟨rfl,A7,_,Bb⟩;have Ai:=Bb _ _ _ Ba.out (by decide) C8.out;have q2:=Ai.d 2 (.int .i64 (cn:Int)) rfl;have Bu:=oh Ai;have B5:=oh A7;clear Ai A7 Bb;go_wp2_with fail;refine (B5.out.num 1 1 (.inl rfl) (by decide) (by have:=A8.out;simp only[uC] at this ⊢;omega)).mono ?_;rintro e w4 ⟨rfl,Ac,_,Bc⟩;have Ay:=Bc _ _ _ Ba.out (by decide) Bu.out;have q2:=Ay.d 2 (.int .i64 (cn:Int)) rfl;have Cs:=oh Ay;have B6:=oh Ac;clear Ay Ac Bc;go_wp2_with fail;refine (B6.out.num cn 4 (.inr (.inr rfl)) HC.out.1 (by have:=A8.out;simp only[uC] at this ⊢;omega)).mono ?_;rintro e w5 ⟨rfl,Ah,_,C9⟩;have Ca:=C9 _ _ _ Ba.out (by decide) Cs.out;have q3:=Ca.d 3 (.int .i64 (sn:Int)) rfl;have B7:=oh Ah;clear Ca Ah C9;go_wp2_with fail;refine (B7.out.num sn 4 (.inr (.inr rfl)) HC.out.2 (by have:=A8.out;simp only[uC] at this ⊢;omega)).mono ?_;rintro e w6 ⟨rfl,Cb,_,_⟩;have Ct:=oh Cb;clear Cb;go_wp2_with fail;go_roundg (gk-1)
      case measure=>omega
      case rel=>exact⟨k+1,by omega,by go_num,oh (by rw[Af.out,Ar.out];have:=Ct.out;simpa only[uN] using this)⟩
    .have B8:k=n.entries.length:=by omega
     have As:=oh HPk.out;rw[zLq Aa.out B8] at As;obtain⟨a,c,At,B9⟩:=As.out.wr.box;have b0:=At.d 0 (.slice a (yE n).length c) rfl;have b1:=At.d 1 .nilIface rfl;have Bt:=oh B9;clear At B9 B8;go_wp2_with fail;go_region_held3 (λw'=>w'.cell? ⟨w1.heap.size,0,none⟩=some (.slice a (yE n).length c)/\w'.cell? ⟨w1.heap.size,1,none⟩=some .nilIface)
      (first|(with_reducible exact⟨b0,b1⟩)|go_keep)
      (first
       | (go_at_call 43;refine (wrap_nil _ _).mono ?_;rintro e w2 ⟨rfl,rfl⟩)
       | fail)
     all_goals
      go_wp2_with fail;go_ret2
      exact⟨As.out.ext.drew,.inl ⟨HR.out,a,c,rfl,(Bt.out.rebase (by omega)).ext (zss wr).drew⟩⟩
end
end
section
open Go.RowKit
theorem Tryz.mkE:(Tryz.prog.info? 208).map (λi=>(i.zero,i.size,i.bytes))=some (some (.agg #[.string ⟨#[]⟩,.string ⟨#[]⟩,.int .i64 0,.int .i64 0]),4,48):=by kernel_rfl
theorem Tryz.mkS:(Tryz.prog.info? 9).map (λi=>(i.zero,i.size,i.bytes))=some (some (.string ⟨#[]⟩),1,16):=by kernel_rfl
theorem Tryz.elE:ElT Tryz.prog 198 208 (.agg #[.string ⟨#[]⟩,.string ⟨#[]⟩,.int .i64 0,.int .i64 0]) 4 48:=⟨Tryz.underlying198,Tryz.mkE,rfl,by decide,by decide⟩
theorem Tryz.elS:ElT Tryz.prog 35 9 (.string ⟨#[]⟩) 1 16:=⟨Tryz.underlying35,Tryz.mkS,rfl,by decide,by decide⟩
theorem zBl:zCx zAQ 4:=⟨λ_=>rfl,by intro x u hu;simp[zAQ] at hu;rcases hu with rfl|rfl|rfl|rfl <;> rfl⟩
theorem zBm:zCx vW 1:=⟨λ_=>rfl,by intro x u hu;simp[vW] at hu;subst hu;rfl⟩
theorem zFC{P:Program}{α:Type}{F G:NP}{w:World}{t e:TypeId}{z:Value}{sz bytes:Nat}{enc:α->List Value}(T:ElT P t e z sz bytes)(E:zCx enc sz)
  {ops:Array Oper} {o:Oper} {a:Act} {K:Act->World->Prop} {Q:Exit->Act->World->Prop} {X:Prop} (Cu:o.guard=none) (sx x:Operand)
  (ho:o.op=.call { callee:=.builtin .append,args:=#[sx,x],argTypes:=#[t,t] })
  (base:Nat) (v s:Value) (l m:List α) (hv:a.eval sx=v) (hx:a.eval x=s) (Bv:yC F w base e sz enc v l) (hs:Sl G w sz enc s m) (hb:(l.length+m.length) * bytes<=140737488355328) (Bd:base<=w.heap.size) (hn:¬ F w.heap.size)
  (h:∀a' c' w',yC F w' base e sz enc (.slice a' (l.length+m.length) c') (l++m)->zA (λk=>v.ownBlock=some k) w w' ->
   ((Value.slice a' (l.length+m.length) c').ownBlock=v.ownBlock\/(Value.slice a' (l.length+m.length) c').ownBlock=some w.heap.size)->K (a.put o.dst (.slice a' (l.length+m.length) c')) w') :
  if Region.wanted o (yielded ops a.tmps)=true then Oper.wp P o a w K Q else X:=by
 have hw:Region.wanted o (yielded ops a.tmps)=true:=by simp[Region.wanted,Cu]
 rw[if_pos hw];obtain⟨i,hi,hz,Bz,B4⟩:=zFO T.info;obtain⟨a',c',w',hr,h2,h3,h4⟩:=zDl (P:=P) (F:=F) (G:=G) (w:=w) base t o.type e i z sz bytes T.under hi hz Bz B4 T.zs T.sz0 enc E.len E.one v s l m Bv hs hb T.by0 Bd hn;unfold Oper.wp execOp;simp only[ho,resolve,invoke,builtin,Sem.run_bind,Sem.run_pure,Result.andThen_ok,pI,tS,nN,hv,hx,hr];exact h a' c' w' h2 (zA.of_grown h3) h4
theorem yC.far{α β:Type}{F G:NP}{w:World}{base base':Nat}{e e':TypeId}{sz sz':Nat}{enc:α->List Value}{enc':β->List Value}{v v':Value}{x:List α}{x':List β}(h:yC F w base e sz enc v x)(h':yC G w base' e' sz' enc' v' x')(Cv:e≠e'):∀g,v.ownBlock=some g->v'.ownBlock≠some g:=by
 intro g hg hg';rcases h'.1.2 with ⟨rfl,_⟩|⟨g',cap,cur,rfl,_,h2,_⟩
 .simp[Value.ownBlock] at hg'
 .simp[Value.ownBlock] at hg';subst hg';exact yC.notB h (B:=g') (c:=cur) (t:=e') h2 Cv.symm g' hg rfl
def GB(F:NP)(w:World):NP:=λk=>F k\/(w.heap.size<=k/\k<w.heap.size+2)
def NoF:NP:=λ_=>False
structure jI(F:NP)(ad:Nat->Addr)(w wr:World)(lf:Bool)(bv:Value)(b:List UInt8)(r:RdA)(es:List zM)(ks:List ByteArray)(is:List Int)(ve vk vi s1 s2 s3:Value):Prop where
 ext:zF w wr
 env0:yH F ad w
 sl0:Sl F w 1 zZ bv b
 box:zG wr (w.heap.size+1) #[bv,.int .i64 r.at_,.bool r.bad] 369
 nd:zG wr (w.heap.size+1+1) #[.bool lf,s1,s2,s3] 200
 oe:yC NoF wr (w.heap.size+3) 208 4 zAQ ve es
 ok:yC NoF wr (w.heap.size+3) 9 1 vW vk ks
 oi:yC NoF wr (w.heap.size+3) 3 1 yI vi is
 res:zG wr w.heap.size gB 200
section
variable {F:NP}{ad:Nat->Addr}{w wr w2:World}{lf:Bool}{bv:Value}{b:List UInt8}{r r':RdA}{es es':List zM}{ks ks':List ByteArray}{is is':List Int}{ve vk vi s1 s2 s3 ve' vk' vi':Value}
theorem jI.base(h:jI F ad w wr lf bv b r es ks is ve vk vi s1 s2 s3):w.heap.size+3<=wr.heap.size:=by have:=h.nd.lt;omega
theorem jI.env(h:jI F ad w wr lf bv b r es ks is ve vk vi s1 s2 s3):yH (GB F w) ad wr :=
 h.env0.step h.ext.ext (λk hk hn hg=>hg.elim hn (λe=>by omega)) (λk hg=>hg.elim (λhf=>uF (h.env0.lt k hf) h.ext.size) (λe=>by have:=h.base;omega))
theorem jI.rd(h:jI F ad w wr lf bv b r es ks is ve vk vi s1 s2 s3):RdR (GB F w) wr (w.heap.size+1) bv b r :=
 ⟨h.box,h.sl0.step h.ext.ext (λk hk hn hg=>hg.elim hn (λe=>by omega)),.inr ⟨by omega,by omega⟩⟩
theorem jI.step(h:jI F ad w wr lf bv b r es ks is ve vk vi s1 s2 s3)(m:zF wr w2):jI F ad w w2 lf bv b r es ks is ve vk vi s1 s2 s3 :=
 ⟨h.ext.trans m,h.env0,h.sl0,h.box.ext m,h.nd.ext m,h.oe.ext m,h.ok.ext m,h.oi.ext m,h.res.ext m⟩
theorem jI.drew(h:jI F ad w wr lf bv b r es ks is ve vk vi s1 s2 s3):jI F ad w wr.drew lf bv b r es ks is ve vk vi s1 s2 s3:=h.step (zss wr).drew
theorem jI.read(h:jI F ad w wr lf bv b r es ks is ve vk vi s1 s2 s3)(m:zA (λk=>k=w.heap.size+1) wr w2)(g:RdR (GB F w) w2 (w.heap.size+1) bv b r'):jI F ad w w2 lf bv b r' es ks is ve vk vi s1 s2 s3 :=
 ⟨zA.past h.ext (m.mono (λk (hk:k=w.heap.size+1)=>by omega)),h.env0,h.sl0,g.own,h.nd.mods m (by omega),
  h.oe.mods m (λg hg=>by have:=h.oe.lt g hg;omega),h.ok.mods m (λg hg=>by have:=h.ok.lt g hg;omega),h.oi.mods m (λg hg=>by have:=h.oi.lt g hg;omega),h.res.mods m (by omega)⟩
theorem jI.row(h:jI F ad w wr lf bv b r es ks is ve vk vi s1 s2 s3){G:NP}(hG:∀k,G k->w.heap.size+3<=k)(m:zA G wr w2)
  (oe:yC NoF w2 (w.heap.size+3) 208 4 zAQ ve' es') (ok:yC NoF w2 (w.heap.size+3) 9 1 vW vk' ks') (oi:yC NoF w2 (w.heap.size+3) 3 1 yI vi' is'):jI F ad w w2 lf bv b r es' ks' is' ve' vk' vi' s1 s2 s3:=by
 have hn:∀k,k<w.heap.size+3->¬ G k:=λk hk g=>by have:=hG k g;omega
 exact⟨zA.past h.ext (m.mono (λk hk=>by have:=hG k hk;omega)),h.env0,h.sl0,h.box.mods m (hn _ (by omega)),h.nd.mods m (hn _ (by omega)),oe,ok,oi,h.res.mods m (hn _ (by omega))⟩
theorem jI.appE(h:jI F ad w wr lf bv b r es ks is ve vk vi s1 s2 s3)(m:zA (λk=>ve.ownBlock=some k) wr w2)(oe:yC NoF w2 (w.heap.size+3) 208 4 zAQ ve' es'):jI F ad w w2 lf bv b r es' ks is ve' vk vi s1 s2 s3 :=
 h.row (λk hk=>(h.oe.lt k hk).1) m oe (h.ok.mods m (λg hg e=>h.ok.far h.oe (by decide) g hg e)) (h.oi.mods m (λg hg e=>h.oi.far h.oe (by decide) g hg e))
theorem jI.appK(h:jI F ad w wr lf bv b r es ks is ve vk vi s1 s2 s3)(m:zA (λk=>vk.ownBlock=some k) wr w2)(ok:yC NoF w2 (w.heap.size+3) 9 1 vW vk' ks'):jI F ad w w2 lf bv b r es ks' is ve vk' vi s1 s2 s3 :=
 h.row (λk hk=>(h.ok.lt k hk).1) m (h.oe.mods m (λg hg e=>h.oe.far h.ok (by decide) g hg e)) ok (h.oi.mods m (λg hg e=>h.oi.far h.ok (by decide) g hg e))
theorem jI.appI(h:jI F ad w wr lf bv b r es ks is ve vk vi s1 s2 s3)(m:zA (λk=>vi.ownBlock=some k) wr w2)(oi:yC NoF w2 (w.heap.size+3) 3 1 yI vi' is'):jI F ad w w2 lf bv b r es ks is' ve vk vi' s1 s2 s3 :=
 h.row (λk hk=>(h.oi.lt k hk).1) m (h.oe.mods m (λg hg e=>h.oe.far h.oi (by decide) g hg e)) (h.ok.mods m (λg hg e=>h.ok.far h.oi (by decide) g hg e)) oi
theorem jI.far(h:jI F ad w wr lf bv b r es ks is ve vk vi s1 s2 s3){X:Nat}(hX:w.heap.size+3<=X)(m:zA (λk=>k=X) wr w2)(he:ve.ownBlock≠some X)(hk:vk.ownBlock≠some X)(hi:vi.ownBlock≠some X):jI F ad w w2 lf bv b r es ks is ve vk vi s1 s2 s3 :=
 h.row (G:=λk=>k=X) (λk hk=>by omega) m (h.oe.mods m (λg hg e=>he (by rw[hg,e]))) (h.ok.mods m (λg hg e=>hk (by rw[hg,e]))) (h.oi.mods m (λg hg e=>hi (by rw[hg,e])))
theorem jI.slE(h:jI F ad w wr lf bv b r es ks is ve vk vi s1 s2 s3){G:NP}(hG:∀k,G k->k<w.heap.size+3)(hl:es.length<=140737488355328):Sl G wr 4 zAQ ve es :=
 yC.sl (F:=G) ⟨h.oe.1,λg hg f=>by have:=h.oe.lt g hg;have:=hG g f;omega⟩ zBl.len hl
theorem jI.slK(h:jI F ad w wr lf bv b r es ks is ve vk vi s1 s2 s3){G:NP}(hG:∀k,G k->k<w.heap.size+3)(hl:ks.length<=140737488355328):Sl G wr 1 vW vk ks :=
 yC.sl (F:=G) ⟨h.ok.1,λg hg f=>by have:=h.ok.lt g hg;have:=hG g f;omega⟩ zBm.len hl
theorem jI.slI(h:jI F ad w wr lf bv b r es ks is ve vk vi s1 s2 s3){G:NP}(hG:∀k,G k->k<w.heap.size+3)(hl:is.length<=140737488355328):Sl G wr 1 yI vi is :=
 yC.sl (F:=G) ⟨h.oi.1,λg hg f=>by have:=h.oi.lt g hg;have:=hG g f;omega⟩ vH.len hl
theorem jI.gb(h:jI F ad w wr lf bv b r es ks is ve vk vi s1 s2 s3):∀k,GB F w k->k<w.heap.size+3:=λk hk=>hk.elim (λhf=>by have:=h.env0.lt k hf;omega) (λe=>by omega)
theorem jI.put(h:jI F ad w wr lf bv b r es ks is ve vk vi s1 s2 s3)(i:Nat)(v t1 t2 t3:Value)(e:(#[.bool lf,s1,s2,s3]:Array Value).setIfInBounds i v=#[.bool lf,t1,t2,t3]):jI F ad w (wr.setCell ⟨w.heap.size+1+1,i,none⟩ v) lf bv b r es ks is ve vk vi t1 t2 t3:=by
 have m:zA (λk=>k=w.heap.size+1+1) wr (wr.setCell ⟨w.heap.size+1+1,i,none⟩ v):=zA.at _ wr _ i v rfl;have hn:=h.nd.set i v;rw[e] at hn;exact⟨zA.past h.ext (m.mono (λk (hk:k=w.heap.size+1+1)=>by omega)),h.env0,h.sl0,h.box.mods m (by omega),hn,
  h.oe.mods m (λg hg=>by have:=h.oe.lt g hg;omega),h.ok.mods m (λg hg=>by have:=h.ok.lt g hg;omega),h.oi.mods m (λg hg=>by have:=h.oi.lt g hg;omega),h.res.mods m (by omega)⟩
theorem jI.text(h:jI F ad w wr lf bv b r es ks is ve vk vi s1 s2 s3)(h0:0<=r.at_)(h1:r.at_<=1000000000000)(s:ByteArray)(hx:jW b r=(s,r')) :
  Calls Tryz.prog 242 #[.pointer (some ⟨w.heap.size+1,0,none⟩)] wr λe w'=>e=.returned (.string s)/\jI F ad w w' lf bv b r' es ks is ve vk vi s1 s2 s3/\zA (λk=>k=w.heap.size+1) wr w':=by
 have:=zNF h.env h.rd h0 h1;rw[hx] at this;exact this.mono λe w' ⟨a1,a2,a3⟩=>⟨a1,h.read a3 a2,a3⟩
theorem jI.num(h:jI F ad w wr lf bv b r es ks is ve vk vi s1 s2 s3)(W:Nat)(hW:W=1\/W=2\/W=4)(h0:0<=r.at_)(h1:r.at_<=1000000000000)(n:Nat)(hx:vM b r W=(n,r')) :
  Calls Tryz.prog 241 #[.pointer (some ⟨w.heap.size+1,0,none⟩),.int .i64 (W:Int)] wr λe w'=>e=.returned (.int .i64 (n:Int))/\jI F ad w w' lf bv b r' es ks is ve vk vi s1 s2 s3/\zA (λk=>k=w.heap.size+1) wr w' :=
 (zIQ h.env h.rd W hW h0 h1 n r' hx).mono λ_ _ ⟨a1,a2,a3⟩=>⟨a1,h.read a3 a2,a3⟩
end
end
end Go.Proofs.YtalpfcaakpgkmaaGreatDoor
