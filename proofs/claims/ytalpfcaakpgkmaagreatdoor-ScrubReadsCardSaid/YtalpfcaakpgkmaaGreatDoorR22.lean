import Derived.Test.YtalpfcaakpgkmaaGreatDoorR21
import Derived.Test.YtalpfcaakpgkmaaGreatDoorR01
import Derived.Test.YtalpfcaakpgkmaaGreatDoorR09
namespace Go.Proofs.YtalpfcaakpgkmaaGreatDoor
open Lib renaming hid->oh
set_option maxHeartbeats 4000000
set_option maxRecDepth 100000
section
open Go.RowKit
theorem zG9(v:List UInt8)(nn:Nat):∀(c i:Nat),(List.range' i c).flatMap (zCI v nn)=(v.drop (i * nn)).take (c * nn)
 | 0,i=>by simp
 | c+1,i=>by
  rw[List.range'_succ,wQ,zG9 v nn c (i+1),zCI,show (c+1) * nn=nn+c * nn by rw[wY,Nat.add_comm],List.take_add,List.drop_drop,show (i+1) * nn=i * nn+nn from wY i nn]
theorem zMy(v:List UInt8)(nn m:Nat)(h:v.length<=m * nn):(List.range' 0 m).flatMap (zCI v nn)=v:=by
 rw[zG9];simp[uY h]
theorem zDO(next:Nat)(b:List UInt8)(hn:next<4294967296):vC (yD 4 next++b) 0 4=(next,none):=by
 unfold vC;rw[if_neg (by simp;omega),if_neg (by simp[zD];omega)];have e:((yD 4 next++b).drop (0:Int).toNat).take 4=yD 4 next:=by
  rw[Int.toNat_zero,List.drop_zero];exact List.take_left' (zD 4 next)
 rw[e,zFv,rI (by simpa using hn)]
theorem zOz(next:Nat)(b:List UInt8):(yD 4 next++b).drop 4=b:=List.drop_left' (zD 4 next)
theorem zO0(v:List UInt8)(nn i:Nat):(zCI v nn i).length=min nn (v.length-i * nn):=by simp[zCI]
structure Fit(n nn m:Nat):Prop where
 m1:1<=m
 n228:228<=nn
 lo:(m-1) * nn<n
 hi:n<=m * nn
theorem Fit.left{n nn m i:Nat}(h:Fit n nn m)(hi:i<m):i * nn<n:=by
 have:=rO nn (show i<=m-1 by omega);have:=h.lo;omega
theorem Fit.more{n nn m i:Nat}(h:Fit n nn m)(hi:i+1<m):i * nn+nn<n:=by
 have:=h.left hi;rw[wY] at this;exact this
theorem Fit.last{n nn m i:Nat}(h:Fit n nn m)(hi:i+1=m):n<=i * nn+nn:=by
 have:=h.hi;rw[<- hi,wY] at this;exact this
theorem zMz(G:GA)(f:Nat)(id n:Int)(h:n<=0):qN G f id n=([],none):=by
 cases f with
 | zero=>rfl
 | succ f=>rw[qN,if_pos h]
theorem zLc(G:GA)(f:Nat)(id n:Int)(h:n<=0):zAi G f id n:=by
 cases f with
 | zero=>trivial
 | succ f=>rw[zAi];intro h1;omega
theorem zEs{G:GA}{id:Nat}(hid:id<G.blocks){p:zY}(h:G.view id=some (.inl p)):G.get (id:Int)=.inl p:=by
 unfold GA.get GA.check;rw[if_neg (by omega)];simp only[uH,h]
theorem zN8{G:GA}{id:Nat}(hid:id<G.blocks){l:List Int}{k:Nat}(h:G.view id=some (.inr (l,k))):G.get (id:Int)=.inr (-1 :: l,k):=by
 unfold GA.get GA.check;rw[if_neg (by omega)];simp only[uH,h]
theorem zCJ:∀(a:List Nat) (G:GA),(jY G a).blocks=G.blocks/\(jY G a).size=G.size/\(jY G a).cost=G.cost/\(jY G a).look=G.look/\(jY G a).last=G.last
 | [],_=>⟨rfl,rfl,rfl,rfl,rfl⟩
 | x :: a,G=>zCJ a (G.drop x)
def zB(s:Nat):List UInt8:=List.replicate s 0
def zQV:List UInt8:=zB 256
def G0(n:Nat):GA:=⟨n,256,λid=>if id<n then some (zV zQV id) else none,λid=>if id<n then some zQV else none,λid=>if id<n then some zQV else none,0⟩
def NoB:NP:=λ_=>False
theorem zKa{w:World}{s b2:Nat}{l:List Nat}(h:SpR w s b2 l):∀k,spF s b2 k->k<w.heap.size:=λk hk=>by
 rcases hk with rfl|rfl
 .exact h.own.lt
 .exact h.row.lt
theorem zG.set3{w:World}{R:Nat}{t:TypeId}{a0 a1 a2:Value}(h:zG w R #[a0,a1,a2] t)(v0 v1 v2:Value) :
  zG (((w.setCell ⟨R,0,none⟩ v0).setCell ⟨R,1,none⟩ v1).setCell ⟨R,2,none⟩ v2) R #[v0,v1,v2] t:=by
 simpa using ((h.set 0 v0).set 1 v1).set 2 v2
theorem zA.set3{F:NP}{w w':World}(m:zA F w w'){R:Nat}(hR:w.heap.size<=R\/F R)(v0 v1 v2:Value) :
  zA F w (((w'.setCell ⟨R,0,none⟩ v0).setCell ⟨R,1,none⟩ v1).setCell ⟨R,2,none⟩ v2) :=
 ((m.setCell (p:=⟨R,0,none⟩) hR _).setCell (p:=⟨R,1,none⟩) hR _).setCell (p:=⟨R,2,none⟩) hR _
structure zCK(D:zJ):Prop where
 off:D.off=false
 lit:D.lit=false
 wait:D.waiting=[]
 lenL:D.lasting.length=D.blocks
 len:∀id,id<D.blocks->(D.look id).length=D.size
 b8:8<=D.blocks
 b256:D.blocks<=256
 s256:256<=D.size
 s1024:D.size<=1024
structure zCs(D:zJ):Prop where
 off:D.off=false
 lit:D.lit=false
 wait:∀p∈D.waiting,p.1<D.blocks
 lenL:D.lasting.length=D.blocks
 len:∀id,id<D.blocks->(D.look id).length=D.size
theorem zCK.wet{D:zJ}(h:zCK D):zCs D:=⟨h.off,h.lit,λp hp=>by rw[h.wait] at hp;simp at hp,h.lenL,h.len⟩
theorem zCs.wrote{D:zJ}(h:zCs D){i:Nat}{b:List UInt8}(hi:i<D.blocks)(hb:b.length=D.size):zCs (D.wrote i b):=by
 refine⟨h.off,h.lit,λp hp=>?_,h.lenL,λid hid=>?_⟩
 .rcases uM.1 hp with hp|hp
  .exact h.wait p hp
  .rw[wO.1 hp];exact hi
 .rw[jV];split
  .exact hb
  .exact h.len id hid
theorem zCs.flushed{D:zJ}(h:zCs D):zCs D.flushed/\D.flushed.waiting=[]/\∀id,D.flushed.look id=D.look id:=by
 have hk:=λid=>zD2 h.lenL h.wait id
 refine⟨⟨h.off,h.lit,λp hp=>(by cases hp),(by show (settle _ _).length=_;rw[zBF];exact h.lenL),λid hid=>?_⟩,rfl,hk⟩;rw[hk];exact h.len id hid
theorem zCK.last{D:zJ}(h:zCK D)(id:Nat):D.lasting.getD id []=D.look id:=by
 unfold zJ.look;rw[h.wait];rfl
structure zHA(D:zJ)(s:yG)(m:qW):Prop where
 dry:zCK D
 blk:s.blocks=D.blocks
 siz:s.size=D.size
 ok:zBe s=true
 gen:s.gen<18446744073709551615
 sup0:D.look 0=yK s 0
 sup1:D.look 1=yK s 1
 mok:zA6 m=true
 mgen:m.gen=s.gen
 mblk:m.blocks=s.blocks
 map0:D.look (place s.gen 0)=yO m (place s.gen 0) D.size
 map1:D.look (place s.gen 1)=yO m (place s.gen 1) D.size
theorem zLd(g:Nat):zAw g (place g 0)=true:=by unfold zAw;simp
theorem zLe(g:Nat):zAw g (place g 1)=true:=by unfold zAw;simp
def zA8(D:zJ):yG:=⟨1,D.blocks,D.size,0,0⟩
def zCd(D:zJ):qW:=⟨1,D.blocks,[0,1,2,3,4,5]⟩
def zEt(D:zJ):zJ :=
 ((((((D.wrote 4 (yO (zCd D) 4 D.size)).wrote 5 (yO (zCd D) 5 D.size)).flushed).wrote 1 (yK (zA8 D) 1)).flushed).wrote 0 (yK (zA8 D) 0)).flushed
theorem zC8{D:zJ}(h:zCK D):zHA (zEt D) (zA8 D) (zCd D)/\∀id,6<=id->(zEt D).look id=D.look id:=by
 have Di:=h.b8;have B4:zBe (zA8 D)=true:=(zAp _).2 ⟨h.b8,h.b256,h.s256,h.s1024,by show 0<=2147483647;omega,.inl rfl,λ_=>rfl⟩;have B5:zA6 (zCd D)=true:=(vV _).2 ⟨h.b8,h.b256,by show 6<=6;omega,rfl,by show ([0,1,2,3,4,5]:List Nat).Pairwise (· < ·);decide,λn hn=>by
  have:n<6:=by
   have hn':n∈([0,1,2,3,4,5]:List Nat):=hn;simp at hn';omega
  show n<D.blocks;omega⟩
 have l4:(yO (zCd D) 4 D.size).length=D.size:=zAL B5 4 h.s256;have l5:(yO (zCd D) 5 D.size).length=D.size:=zAL B5 5 h.s256;have l1:(yK (zA8 D) 1).length=D.size:=zAh B4 1;have l0:(yK (zA8 D) 0).length=D.size:=zAh B4 0;have w1:=h.wet.wrote (i:=4) (by omega) l4;have w2:=w1.wrote (i:=5) (b:=yO (zCd D) 5 D.size) (by show 5<D.blocks;omega) l5;obtain⟨w3,q3,k3⟩:=w2.flushed;have w4:=w3.wrote (i:=1) (b:=yK (zA8 D) 1) (by show 1<D.blocks;omega) l1;obtain⟨w5,q5,k5⟩:=w4.flushed;have w6:=w5.wrote (i:=0) (b:=yK (zA8 D) 0) (by show 0<D.blocks;omega) l0;obtain⟨w7,q7,k7⟩:=w6.flushed;have hk:∀id,(zEt D).look id=if 0=id then yK (zA8 D) 0 else if 1=id then yK (zA8 D) 1 else if 5=id then yO (zCd D) 5 D.size else if 4=id then yO (zCd D) 4 D.size else D.look id:=by
  intro id;show (zJ.flushed _).look id=_;rw[k7,jV,k5,jV,k3,jV,jV]
 have Cg:place (zA8 D).gen 0=4:=rfl;have Ch:place (zA8 D).gen 1=5:=rfl;refine⟨⟨⟨w7.off,w7.lit,q7,w7.lenL,w7.len,h.b8,h.b256,h.s256,h.s1024⟩,rfl,rfl,B4,by show 1<18446744073709551615;omega,?_,?_,B5,rfl,rfl,?_,?_⟩,λid hid=>?_⟩
 .rw[hk,if_pos rfl]
 .rw[hk,if_neg (by omega),if_pos rfl]
 .rw[Cg,hk,if_neg (by omega),if_neg (by omega),if_neg (by omega),if_pos rfl];rfl
 .rw[Ch,hk,if_neg (by omega),if_neg (by omega),if_pos rfl];rfl
 .rw[hk,if_neg (by omega),if_neg (by omega),if_neg (by omega),if_neg (by omega)]
def zAI(D:zJ):GA:=⟨D.blocks,D.size,λid=>if id<D.blocks then some (zV (D.look id) id) else none,λid=>if id<D.blocks then some (D.look id) else none,λid=>if id<D.blocks then some (D.look id) else none,0⟩
def zO1[zQ](G:GA):GA:={ G with view:=λid=>if vL<=id then G.view id else none,look:=λid=>if vL<=id then G.look id else none,last:=λid=>if vL<=id then G.last id else none }
theorem zO2[zQ](h0:vL=0)(G:GA):zO1 G=G:=by
 unfold zO1;have h:∀id,vL<=id:=λid=>by omega
 simp only[h,tU]
theorem zJf[zQ]{D:zJ}(Ci:∀id,id<vL->D.look id=zCY id)(h:zCK D)(q:Nat)(h3:3<=q)(Cj:q<=64):yJ ⟨D,List.replicate q qM,0⟩/\qZ ⟨D,List.replicate q qM,0⟩ (zO1 (zAI D)):=by
 have si:∀{α:Type} {p:Prop} [Decidable p] {x y:α},(if p then some x else none)=some y->x=y:=λ{α p _ x y} h=>by
  by_cases hp:p
  .rw[if_pos hp] at h;exact Option.some.inj h
  .rw[if_neg hp] at h;cases h
 have s2:∀{α:Type} {p:Prop} [Decidable p] {o:Option α} {y:α},(if p then o else none)=some y->o=some y:=λ{α p _ o y} h=>by
  by_cases hp:p
  .rw[if_pos hp] at h;exact h
  .rw[if_neg hp] at h;cases h
 refine⟨zOc D q h3 Cj h.s256 h.s1024 h.b8 h.b256 h.lenL h.len h.off h.lit,zOe D q (zO1 (zAI D)) rfl rfl (λid r hr=>si (s2 hr)) (λid b hb=>hb.elim (λhb=>si (s2 hb)) (λhb=>(Ci id hb.1).trans hb.2.symm)) (λid b hb=>⟨?_,λp hp=>by rw[h.wait] at hp;simp at hp⟩) (by rw[h.wait];exact uD 0) (λid h'=>⟨if_neg (by omega),if_neg (by omega),if_neg (by omega)⟩)⟩;rw[h.last];exact si (s2 hb)
def zAj(n:Nat)(used:List Nat):List Nat:=(List.range n).map λi=>if i∈used then 1 else 0
theorem zBo(n:Nat)(u:List Nat):(zAj n u).length=n:=by simp[zAj]
theorem zA2{n:Nat}(u:List Nat){i:Nat}(h:i<n):(zAj n u)[i]? = some (if i∈u then 1 else 0):=by
 simp[zAj,h]
theorem zM0{n i:Nat}{u:List Nat}(h2:2<=i)(hn:i<n)(hi:i ∉ u):zEj (zAj n u) (i:Int)=(zAj n (u++[i]),none):=by
 have hg:=zA2 (n:=n) u hn;rw[if_neg hi] at hg;have hc:qF (zAj n u) (i:Int)=none:=by
  unfold qF;rw[zBo,if_neg (by omega)]
 unfold zEj;rw[hc];simp only;rw[uH,if_pos hg];congr 1
 refine pD (λj=>?_);rw[pT];by_cases e:i=j
 .subst e;rw[if_pos rfl,if_pos (by rw[zBo];exact hn),zA2 _ hn,if_pos (by simp)]
 .rw[if_neg e];by_cases hj:j<n
  .rw[zA2 _ hj,zA2 _ hj];congr 1
   have:j∈u++[i] ↔ j∈u:=by
    rw[uM,wO];exact⟨λh=>h.elim id (λh=>absurd h.symm e),.inl⟩
   by_cases hm:j∈u
   .rw[if_pos hm,if_pos (this.2 hm)]
   .rw[if_neg hm,if_neg (λh=>hm (this.1 h))]
  .rw[wT (by rw[zBo];omega),wT (by rw[zBo];omega)]
theorem zIG{F:NP}{ad:Nat->Addr}{w:World}(hL:yH F ad w)(m:qW)(hm:zA6 m=true)(hg:m.gen<18446744073709551616)(uv:Value)(hu:Sl F w 1 yI uv (yF m))(i z:Nat)(hi:zAw m.gen i=true)(h1:256<=z)(h2:z<=1024) :
  Calls Tryz.prog 119 #[zDU m uv,.int .i64 (i:Int),.int .i64 (z:Int)] w λe w'=>∃a c,e=.returned (.tuple #[.slice a z c,.nilIface])/\yC F w' w.heap.size 5 1 zZ (.slice a z c) (yO m i z)/\zF w w':=by
 obtain⟨o1,o2,o3,o4,o5,o6⟩:=(vV m).1 hm;have A4:m.used.length<=m.blocks:=zDM m.used 0 m.blocks o5 (λn hn=>⟨tH _,o6 n hn⟩) (tH _);have Ck:i<6:=by
  unfold zAw at hi;simp only[pA,uO] at hi;unfold place at hi;omega
 have HU:Hid (∀w',zF w w'->Sl F w' 1 yI uv (yF m)):=oh (λw' k=>hu.ext k);have HL:Hid (∀w',zF w w'->yH F ad w'):=oh (λw' k=>hL.mods k.ext);have HF:Hid (∀w',zF w w'->Bd F w'):=oh (λw' k x hx=>(HL.out w' k).lt x hx);have B6:Hid (∀w',zF w w' -> Calls Tryz.prog 200 #[zDU m uv] w' λe w''=>e=.returned .nilIface/\zF w' w''):=oh (λw' k=>zLI m hm uv (HU.out w' k));have A6:Hid (∀w',zF w w' -> Calls Tryz.prog 202 #[zDU m uv] w' λe w''=>∃v,e=.returned v/\Sl F w'' 1 zZ v (zCw m.blocks m.used)/\(zCw m.blocks m.used).length=(m.blocks+7) / 8/\zF w' w''):=oh (λw' k=>zQK (HF.out w' k) m hm uv (HU.out w' k));have Bs:Hid (∀w',Calls Tryz.prog 201 #[.int .u64 (m.gen:Int),.int .i64 (i:Int)] w' λe w''=>e=.returned (.bool true)/\zF w' w''):=oh (λw'=>(zN2 m.gen hg i (by omega) w').mono (λe w'' h=>⟨by rw[h.1,hi],h.2⟩));have Cl:=oh (zEh hm Ck h1 h2);have Bt:Hid (yD 4 m.blocks++yD 4 m.used.length++zCw m.blocks m.used=qX m):=oh rfl;have Cm:Hid (jX (zBy m i) z=yO m i z):=oh rfl;have Cn:Hid ((zBy m i).body=qX m):=oh rfl;have Bu:Hid (∀v,Value.agg #[.int .i64 5,.int .i64 (i:Int),.int .u64 (m.gen:Int),v]=qC (zBy m i) v):=oh (λ_=>rfl);have B7:Hid ((zBy m i).gen<18446744073709551616):=oh hg;have Co:=oh (zBQ m);have A8:(yF m).length=m.used.length:=by unfold yF;rw[wS]
 obtain⟨ua,uc,rfl,i1,i2,i3, -⟩:=hu;unfold maxLen at i2;have A7:Hid (zDU m (.slice ua (yF m).length uc)=.agg #[.int .u64 (m.gen:Int),.int .i64 (m.blocks:Int),.slice ua (yF m).length uc]):=oh rfl;rw[A7.out];rw[A8] at HU B6 A6 A7 i1 i3 ⊢;obtain⟨g,Ac⟩:∃g,g=m.gen:=⟨_,rfl⟩;obtain⟨b,hb⟩:∃b,b=m.blocks:=⟨_,rfl⟩;obtain⟨n,hn⟩:∃n,n=m.used.length:=⟨_,rfl⟩;rw[<- Ac,<- hb,<- hn] at A7 ⊢;rw[<- Ac] at Bs Bu hg;rw[<- hb,<- hn] at A4 Bt;rw[<- hb] at o1 o2;rw[<- hb] at A6 Co;rw[<- hn] at A6 B6 HU i1 i3 o3;clear hL hm hi o4 o5 o6 A8 Ac hb hn;obtain⟨W0,A5⟩:∃W0,W0=w.alloc (.cells #[.int .u64 (g:Int),.int .i64 (b:Int),.slice ua n uc] 133):=⟨_,rfl⟩;have Ad:zF w W0:=by rw[A5];exact (zss w).alloc _
 have Bv:zG W0 w.heap.size #[.int .u64 (g:Int),.int .i64 (b:Int),.slice ua n uc] 133:=by rw[A5];exact zG.new w _ _
 have Ai:=oh Ad;have At:=oh Bv;clear Ad Bv
 go_enter Tryz.func119, Tryz.ntmps119
 go_wp2_with fail;rw[<- A5,<- A7.out];refine (B6.out _ Ai.out).mono ?_;rintro e w1 ⟨rfl,m1⟩;have A2:=oh (Ai.out.trans m1);have Aj:=oh (At.out.ext m1);clear m1 A5;have x0:=Aj.out.k 0 rfl;go_wp2_with fail;refine (Bs.out _).mono ?_;rintro e w2 ⟨rfl,m2⟩;have Ae:=oh (A2.out.trans m2);have Ak:=oh (Aj.out.ext m2);clear m2 x0;have x1:=Ak.out.k 1 rfl;have e1:decide ((z:Int)<256)=false:=by simp;omega
 have e2:decide (1024<(z:Int))=false:=by simp;omega
 go_wp2_with fail;have PA:=zBc (HL.out _ Ae.out) (.slice none 0 0) [] (Sl.nil _ _ _ _) b 4 (by decide) (by show b<4294967296;omega) (by decide);simp only[uL,wG,wP] at PA;refine PA.mono ?_;rintro e w3 ⟨a3,c3,rfl,Bw,m3⟩;have Cp:=oh (Bw.sl (λ_=>rfl) (by rw[zD];decide));have Af:=oh (Ae.out.trans m3);have Al:=oh (Ak.out.ext m3);clear Bw m3 x1 PA;have x2:=Al.out.k 2 rfl;go_wp2_with fail;have PA:=zBc (HL.out _ Af.out) _ (yD 4 b) Cp.out n 4 (by decide) (by show n<4294967296;omega) (by rw[zD];decide);rw[zD] at PA;refine PA.mono ?_;rintro e w4 ⟨a4,c4,rfl,Bx,m4⟩;have Au:=oh Bx;have Am:=oh (Af.out.trans m4);have Dj:=oh (Al.out.ext m4);have An:=oh m4;clear Bx m4 x2 PA;obtain⟨X,hX⟩:∃X,X=w.heap.size:=⟨_,rfl⟩;have Av:Hid (∀W,zF w3 W->W.cell? ⟨X,0,none⟩=some (.int .u64 (g:Int))/\W.cell? ⟨X,1,none⟩=some (.int .i64 (b:Int))/\W.cell? ⟨X,2,none⟩=some (.slice ua n uc)):=oh (λW k=>by rw[hX];exact⟨(Al.out.ext k).cell rfl,(Al.out.ext k).cell rfl,(Al.out.ext k).cell rfl⟩);go_wp2_with fail;rw[<- hX];clear hX;refine wp_region_held_drew (S:=(λw'=>w'.cell? ⟨X,0,none⟩=some (.int .u64 (g:Int))/\w'.cell? ⟨X,1,none⟩=some (.int .i64 (b:Int))/\w'.cell? ⟨X,2,none⟩=some (.slice ua n uc))) (by kernel_rfl) (Av.out _ An.out.drew) (λA0=>?_);obtain⟨Wd,B8⟩:∃W,W=w4.drew:=⟨_,rfl⟩;rw[<- B8] at A0 ⊢;have xE:zF w4 Wd:=by rw[B8];exact zr.drew
 have xWd:zF w3 Wd:=An.out.trans xE;clear B8;refine tkH 0 ⟨some 56,_,_,_,_,_⟩ ?_;try go_frame
 refine tkH 1 ⟨some 57,_,_,_,_,_⟩ ?_;try go_frame
 refine tkH 2 ⟨some 58,_,_,_,_,_⟩ ?_;try go_frame
 refine tkH 3 ⟨some 59,_,_,_,_,_⟩ ?_;try go_frame
 refine tkH 4 ⟨some 60,_,_,_,_,_⟩ ?_;try go_frame
 refine tkH 8 ⟨some 64,_,_,_,_,_⟩ ?_;try go_frame
 refine wpAnyH_ready (rs:=[5]) (by kernel_rfl) (by simp) ?_;refine AllReadyH.cons (o:=⟨some 61,_,_,_,_,_⟩) rfl (λK hK=>?_) AllReadyH.nil;go_simp;go_at_call 202
 rw[<- A7.out]
 (with_reducible refine (A6.out _ (Af.out.trans xWd)).mono ?_)
 rintro e W5 ⟨v5,rfl,s5,l5,m5⟩;have xW5:=xWd.trans m5;refine hK.out _ _ (by first|exact Av.out _ xW5|go_keep) (λA0=>?_);clear hK;try go_frame
 refine wpAnyH_ready (rs:=[6]) (by kernel_rfl) (by simp) ?_;refine AllReadyH.cons (o:=⟨some 62,_,_,_,_,_⟩) rfl (λK hK=>?_) AllReadyH.nil;have B9:=Au.out.ext (xE.trans m5);refine zH5 (F:=F) (G:=F) Tryz.elB jN (by rfl) (.tmp 59) (.tmp 61) (by rfl) w3.heap.size (.slice a4 (4+4) c4) v5 (yD 4 b++yD 4 n) (zCw b m.used) (by rfl) (by rfl) B9 s5 (by rw[l5,uC,zD,zD];omega) xW5.size (λf=>pB _ ((HF.out _ (Af.out.trans xW5)) _ f)) ?_;intro a6 c6 W6 By Bz Ba;have xW6:zF w3 W6:=zA.grown xW5 Bz (λk hk=>.inl (B9.lt k hk).1);have s6:=By.sl (λ_=>rfl) (by rw[uC,uC,l5,zD,zD];omega);rw[Bt.out,<- Cn.out] at s6;have S6:=oh s6;have zN:(yD 4 b++yD 4 n).length+(zCw b m.used).length=8+(b+7) / 8:=by rw[l5,uC,zD,zD]
 rw[zN] at S6 ⊢;refine hK.out _ _ (by first|exact Av.out _ xW6|go_keep) (λA0=>?_);clear hK;try go_frame
 refine tkH 7 ⟨some 63,_,_,_,_,_⟩ ?_;try go_frame
 refine wpAnyH_ready (rs:=[9]) (by kernel_rfl) (by simp) ?_;refine AllReadyH.cons (o:=⟨some 65,_,_,_,_,_⟩) rfl (λK hK=>?_) AllReadyH.nil;go_simp;go_at_call 199
 rw[Bu.out]
 (with_reducible refine (zHe (HL.out _ (Af.out.trans xW6)) (zBy m i) _ S6.out z B7.out Cl.out).mono ?_)
 rintro e W9 ⟨a9,c9,rfl,C0,m9⟩;have xW9:=xW6.trans m9;refine hK.out _ _ (by first|exact Av.out _ xW9|go_keep) (λA0=>?_);clear hK;try go_frame
 refine tkH 10 ⟨some 55,_,_,_,_,_⟩ ?_;try go_frame
 refine tkH 11 ⟨some 66,_,_,_,_,_⟩ ?_;try go_frame
 refine tkH 12 ⟨some 67,_,_,_,_,_⟩ ?_;try go_frame
 refine tkH 13 ⟨some 11,_,_,_,_,_⟩ ?_;try go_frame
 refine tkH 14 ⟨some 10,_,_,_,_,_⟩ ?_;try go_frame
 refine wpAnyH_done (by kernel_rfl) ?_ _;have Cq:=oh (C0.rebase (Af.out.trans xW6).size);have Cr:=oh (Af.out.trans xW9);clear C0 m9 xW9 xW6 xW5 xWd xE m5 s5 l5 B9 By Bz Ba s6 zN;go_wp2_with fail;refine (wrap_nil _ _).mono ?_;rintro e w5 ⟨rfl,rfl⟩;go_wp2_with fail;go_ret2
 exact⟨a9,c9,rfl,by rw[<- Cm.out];exact Cq.out,Cr.out⟩
end
section
open Go.RowKit
attribute [local go_sem ↓] Go.wp_at_zero Go.wp_at_succ
def zGA(b:List UInt8)(i:Nat):Bool:=decide (8+i / 8<b.length) && (b.getD (8+i / 8) 0).toNat.testBit (i % 8)
def zGB(b:List UInt8)(k:Nat):List Int:=((List.range k).filter (λi=>zGA b i)).map (λ(i:Nat)=>(i:Int))
theorem zM1(b:List UInt8)(k:Nat):zGB b (k+1)=zGB b k++if zGA b k=true then [(k:Int)] else []:=by
 unfold zGB;rw[List.range_succ,rZ,rH];congr 1
 by_cases h:zGA b k=true
 .rw[if_pos h,List.filter_cons_of_pos (p:=λi=>zGA b i) h];rfl
 .rw[if_neg h,List.filter_cons_of_neg (p:=λi=>zGA b i) h];rfl
theorem zJg(b:List UInt8)(k:Nat):(zGB b k).length<=k:=by
 unfold zGB;rw[wS];exact uP (rN _ _) (by simp)
theorem zRa(y r:Nat):y.testBit r=decide (y / 2 ^ r % 2=1):=by
 rw[Nat.testBit_eq_decide_div_mod_eq]
theorem zTH(y r:Nat)(hy:y<256):bits .and .u8 ((y:Int) / 2 ^ r) 1=((y / 2 ^ r % 2:Nat):Int):=by
 have h:=u8_and_nat (y / 2 ^ r) 1 (Nat.lt_of_le_of_lt (Nat.div_le_self _ _) hy) (by decide);rw[nat_mask1] at h;rw[<- h,Int.natCast_ediv,Int.natCast_pow];rfl
theorem Tryz.elI5:ElT Tryz.prog 34 3 (.int .i64 0) 1 8:=⟨Tryz.underlying34,by kernel_rfl,rfl,by decide,by decide⟩
theorem Tryz.mapSize:(Tryz.prog.info? 133).map (·.size)=some 3:=by kernel_rfl
theorem zLf{F:NP}{ad:Nat->Addr}{w:World}(hL:yH F ad w)(p:zY)(bv:Value)(hb:Sl F w 1 zZ bv p.body)(h1:4<=p.body.length)(h2:qK p.body 0 4<=256)(h3:p.body.length<=100000)(_hg:p.gen<18446744073709551616) :
  Calls Tryz.prog 239 #[qC p bv] w λe w'=>∃uv,e=.returned (zDU (zG1 p) uv)/\yC (λ_=>False) w' w.heap.size 3 1 yI uv (yF (zG1 p))/\(yF (zG1 p)).length<=256/\zF w w':=by
 have HB:Hid (∀w',zF w w'->Sl F w' 1 zZ bv p.body):=oh (λw' m=>hb.ext m);have HL:Hid (∀w',zF w w'->yH F ad w'):=oh (λw' m=>hL.mods m.ext);clear hL;have HT:Hid (vC p.body ((0:Nat):Int) 4=(qK p.body 0 4,none)):=oh (zD5 _ _ _ (by omega));have Bb:=oh (zJQ p h1 h2);have Bc:Hid (yF (zG1 p)=zGB p.body (qK p.body 0 4)):=oh (by rw[Bb.out];rfl);have A7:Hid (∀uv,zDU (zG1 p) uv=.agg #[.int .u64 (p.gen:Int),.int .i64 (qK p.body 0 4:Int),uv]):=oh (λuv=>by rw[Bb.out];rfl);obtain⟨pa,pc,rfl,i1,i2,i3, -⟩:=hb;unfold maxLen at i2;have HP:Hid (∀bv,qC p bv=.agg #[.int .i64 p.kind,.int .i64 p.id,.int .u64 (p.gen:Int),bv]):=oh (λbv=>rfl);rw[HP.out];obtain⟨bl,Aw⟩:∃n,n=p.body.length:=⟨_,rfl⟩;obtain⟨K,hK⟩:∃I,I=p.kind:=⟨_,rfl⟩;obtain⟨I,hI⟩:∃I,I=p.id:=⟨_,rfl⟩;obtain⟨g,Ac⟩:∃g,g=p.gen:=⟨_,rfl⟩;obtain⟨n,hn⟩:∃n,n=qK p.body 0 4:=⟨_,rfl⟩;have Ao:=oh Aw;rw[<- Aw,<- hK,<- hI,<- Ac];rw[<- Aw] at HB h1 h3 i1 i3;rw[<- Ac] at A7;rw[<- hn] at HT Bc A7 h2;clear Aw hK hI Ac hn HP Bb;obtain⟨W0,A5⟩:∃W0,W0=(w.alloc (.cells #[.int .i64 K,.int .i64 I,.int .u64 (g:Int),.slice pa bl pc] 221)).alloc (.cells #[.int .u64 0,.int .i64 0,.slice none 0 0] 133):=⟨_,rfl⟩;have Ad:zF w W0:=by rw[A5];exact ((zss w).alloc _).alloc _
 have C1:zG W0 w.heap.size #[.int .i64 K,.int .i64 I,.int .u64 (g:Int),.slice pa bl pc] 221:=by rw[A5];exact (zG.new w _ _).alloc _
 have C2:zG W0 (w.heap.size+1) #[.int .u64 0,.int .i64 0,.slice none 0 0] 133:=by rw[A5];exact zS (by simp)
 have A9:W0.heap.size=w.heap.size+2:=by rw[A5];simp
 have TA:=zD6 (HL.out _ Ad) _ p.body (HB.out _ Ad) 0 4 n (by decide) HT.out;rw[show ((0:Nat):Int)=0 from rfl,show ((4:Nat):Int)=4 from rfl] at TA;have TA:=oh TA;have Ai:=oh Ad;have At:=oh C1;have C3:=oh C2;clear Ad C1 C2
 go_enter Tryz.func239, Tryz.ntmps239
 go_wp2_with fail;rw[<- A5];refine TA.out.mono ?_;rintro e w1 ⟨rfl,m1⟩;have Be:=At.out.ext m1;have C4:=C3.out.ext m1;have C5:=Ai.out.trans m1;have Ax:w.heap.size+2<=w1.heap.size:=by have:=m1.size;omega
 have x2:=Be.k 2 rfl;have Aj:=oh Be;have C6:=oh C4;have A2:=oh C5;have Dk:¬ (256:Int)<(n:Int):=by omega
 clear Be C4 C5 m1 A5 TA;go_wp2_with fail;obtain⟨W2,Ap⟩:∃W,W=w1.alloc (.cells #[.int .u64 (g:Int),.int .i64 (n:Int),.slice none 0 0] 133):=⟨_,rfl⟩;have m2:zF w1 W2:=by rw[Ap];exact (zss w1).alloc _
 have Bf:zG W2 w1.heap.size #[.int .u64 (g:Int),.int .i64 (n:Int),.slice none 0 0] 133:=by rw[Ap];exact zG.new w1 _ _
 have Bg:W2.heap.size=w1.heap.size+1:=by rw[Ap];simp
 rw[<- Ap];obtain⟨Y,hY⟩:∃Y,Y=w1.heap.size:=⟨_,rfl⟩;rw[<- hY] at Bf Ax Bg ⊢;have Ak:=oh (Aj.out.ext m2);have C7:=oh (C6.out.ext m2);have Ae:=oh (A2.out.trans m2);have C8:=oh Bf;have Cs:w.heap.size<Y:=by omega
 have Dl:w.heap.size+1<Y:=by omega
 have Ct:=oh Cs;have Dm:=oh Bg;have Dn:=oh Ax;clear Ap m2 Bf hY x2 Aj C6 A2 At C3 Ai A9 Bg;go_loopg [28] n (λr v28 wr=>∃(k:Nat) (uv:Value),k+r=n/\v28=.int .i64 k/\Hid (zF w wr/\zG wr w.heap.size #[.int .i64 K,.int .i64 I,.int .u64 (g:Int),.slice pa bl pc] 221 /\ zG wr (w.heap.size+1) #[.int .u64 0,.int .i64 0,.slice none 0 0] 133 /\ zG wr Y #[.int .u64 (g:Int),.int .i64 (n:Int),uv] 133 /\ yC (λ_=>False) wr (Y+1) 3 1 yI uv (zGB p.body k)))
 case atStart=>exact⟨0,_,by omega,rfl,oh ⟨Ae.out,Ak.out,C7.out,C8.out,yC.nil _ _ _ _ _ _⟩⟩
 case round =>
  clear Ak C7 Ae C8;obtain⟨k,uv,hk,rfl,HW⟩:=hrel;obtain⟨hM,hX,hR,hY,hO⟩:=HW.out;have y2:=hY.k 2 rfl;have x3:=hX.k 3 rfl;have yf:=hY.frozen;have hz:=hY.lt;obtain⟨ua,uc,Bh, -, -⟩:=_root_.id hO.form;obtain⟨ul,A8⟩:∃ul,ul=(zGB p.body k).length:=⟨_,rfl⟩;have C9:=oh A8;have Cu:ul<=k:=by rw[A8];exact zJg _ _
  rw[<- A8] at Bh;have HU:=oh (zM1 p.body k);by_cases Do:k<n
  .obtain⟨q,hq⟩:∃q,q=k / 8:=⟨_,rfl⟩;obtain⟨r,hr⟩:∃r,r=k % 8:=⟨_,rfl⟩;have t1:(k:Int) / 8=(q:Int):=by omega
   have t2:(k:Int).tdiv 8=(q:Int):=by rw[rL (by omega)];exact t1
   have t3:(k:Int) % 8=(r:Int):=by omega
   have t4:(k:Int).tmod 8=(r:Int):=by rw[tD (by omega)];exact t3
   have Dp:r<8:=by omega
   have A6:Hid (zGA p.body k=(decide (8+q<bl) && (p.body.getD (8+q) 0).toNat.testBit r)):=oh (by unfold zGA;rw[<- hq,<- hr,<- Ao.out]);by_cases Ay:8+q<bl
   .have Bi:8+(q:Int)<(bl:Int):=by omega
    have i8:(0:Int)<=8+(q:Int):=by omega
    obtain⟨y,hy⟩:∃y,p.body[8+q]? = some y:=⟨_,uB (by rw[<- Ao.out];exact Ay)⟩;have Ca:p.body.getD (8+q) 0=y:=by simp[List.getD,hy]
    obtain⟨qb,qoff,Cv,hc⟩:=(HB.out _ hM).elemF (k:=8+q) (by rw[<- Ao.out];exact Ay);have d0:=hc.2 0 (.int .u8 (y.toNat:Int)) (by
     obtain⟨e1,e2⟩:=uA.1 hy;rw[e2];rfl)
    simp only[uT,wC] at d0;have Cw:=y.toNat_lt;have Cx:=zTH y.toNat r Cw;obtain⟨bz,Bj⟩:∃z,z=y.toNat / 2 ^ r % 2:=⟨_,rfl⟩;have Bk:bz=0\/bz=1:=by omega
    rw[<- Bj] at Cx;have Az:Hid (zGA p.body k=decide (bz=1)):=oh (by rw[A6.out,Ca,zRa,<- Bj];simp[Ay]);subst Cv;clear hc Ca hy hq hr Bj A6;rcases Bk with rfl|rfl
    .go_wp2_with fail;go_roundg (gk-1)
     case measure=>omega
     case rel=>exact⟨k+1,uv,by omega,by go_num,oh (by rw[HU.out,if_neg (by rw[Az.out];simp),wJ];exact HW.out)⟩
    .subst Bh;have Cy:=oh (hO.ext ((zss wr).alloc (.cells #[.int .i64 (k:Int)] 3)));have Cz:=oh hO.lt;have A9:Y+1<=wr.heap.size:=by omega
     have D0:=oh A9;clear hO A8;go_wp2_with (first
      | (at_builtin;refine yX Tryz.elI5 vH rfl _ _ rfl (Y+1) (.slice ua ul uc) (.slice (some ⟨wr.heap.size,0,none⟩) 1 1) (zGB p.body k) [(k:Int)] rfl rfl Cy.out (Sl.one (F:=λ_=>False) (x:=(k:Int)) (t := 3) (fz:=(0,0)) (zS rfl) (λf=>f)) (by rw[<- C9.out];simp only[uG,uL];omega) (uP D0.out (by simp)) (λf=>f) ?_;intro a' c' w4 A1 Aa Bl;rw[<- C9.out] at A1 ⊢;simp only[uG,uL,wG] at A1 ⊢;have Au:=oh A1;have Am:=oh (zA.mono Aa (λj hj=>(Cz.out j hj).1));clear A1 Aa Bl;have B0:=(((HW.out.2.2.2.1).alloc (.cells #[.int .i64 (k:Int)] 3)).mods Am.out (by omega));have y4:=B0.d 2 (.slice ua ul uc) rfl;have yf4:=B0.frozen;have D1:=oh B0;clear B0)
      | fail)
     go_roundg (gk-1)
     case measure=>omega
     case rel =>
      have D2:zA (λj=>j=Y) w4 (w4.setCell ⟨Y,2,none⟩ (.slice a' (ul+1) c')):=zA.setCell (F:=λj=>j=Y) (zss w4) (p:=⟨Y,2,none⟩) (.inr rfl) _;refine⟨k+1,.slice a' (ul+1) c',by omega,by go_num,oh ⟨?_,?_,?_,?_,?_⟩⟩
      .exact ((HW.out.1.alloc _).trans' Am.out (λi hi h=>by have h':Y+1<=i:=h;have:=Ct.out;omega)).setCell (.inl (show w.heap.size<=Y by omega)) _
      .exact ((HW.out.2.1.alloc _).mods Am.out (by omega)).set_other (by simp;omega) _
      .exact ((HW.out.2.2.1.alloc _).mods Am.out (by omega)).set_other (by simp;omega) _
      .simpa using D1.out.set 2 (.slice a' (ul+1) c')
      .rw[HU.out,if_pos (by rw[Az.out];simp)];exact Au.out.mods D2 (λj hj h=>by have:=(Au.out.lt j hj).1;omega)
   .have Bi:¬ 8+(q:Int)<(bl:Int):=by omega
    have Az:Hid (zGA p.body k=false):=oh (by rw[A6.out];simp[Ay]);clear hq hr A6;go_wp2_with fail;go_roundg (gk-1)
    case measure=>omega
    case rel=>exact⟨k+1,uv,by omega,by go_num,oh (by rw[HU.out,if_neg (by rw[Az.out];simp),wJ];exact HW.out)⟩
  .obtain rfl:k=n:=by omega
   subst Bh;have y0:=hY.k 0 rfl;have y1:=hY.k 1 rfl;have r0:=hR.k 0 rfl;have r1:=hR.k 1 rfl;have r2:=hR.k 2 rfl;have rf:=hR.frozen;clear hO hM hX x3 A8;go_wp2_with fail;have D3:Hid (zG (((wr.setCell ⟨w.heap.size+1,0,none⟩ (.int .u64 (g:Int))).setCell ⟨w.heap.size+1,1,none⟩ (.int .i64 (k:Int))).setCell ⟨w.heap.size+1,2,none⟩ (.slice ua ul uc)) (w.heap.size+1) #[.int .u64 (g:Int),.int .i64 (k:Int),.slice ua ul uc] 133):=oh (by simpa using ((hR.set 0 (.int .u64 (g:Int))).set 1 (.int .i64 (k:Int))).set 2 (.slice ua ul uc));have D4:zA (λj=>j=w.heap.size+1) wr (((wr.setCell ⟨w.heap.size+1,0,none⟩ (.int .u64 (g:Int))).setCell ⟨w.heap.size+1,1,none⟩ (.int .i64 (k:Int))).setCell ⟨w.heap.size+1,2,none⟩ (.slice ua ul uc)):=zA.setCell (F:=λj=>j=w.heap.size+1) (zA.setCell (F:=λj=>j=w.heap.size+1) (zA.setCell (F:=λj=>j=w.heap.size+1) (zss wr) (p:=⟨w.heap.size+1,0,none⟩) (.inr rfl) _) (p:=⟨w.heap.size+1,1,none⟩) (.inr rfl) _) (p:=⟨w.heap.size+1,2,none⟩) (.inr rfl) _;have Cb:=oh D4;refine bodyPost_ret (results_cell_row rfl _ _ (w.heap.size+1) 133 #[.int .u64 (g:Int),.int .i64 (k:Int),.slice ua ul uc] (0,0) _ rfl D3.out Tryz.underlying133 rfl Tryz.mapSize) rfl ?_;have hO:=HW.out.2.2.2.2;refine⟨.slice ua ul uc,by rw[A7.out],?_,by rw[Bc.out];have:=zJg p.body k;omega,HW.out.1.trans' Cb.out (λi hi h=>by omega)⟩;rw[Bc.out];exact (hO.mods Cb.out (λj hj h=>by have:=(hO.lt j hj).1;omega)).rebase (by omega)
end
section
open Go.RowKit
section
variable {F P:NP}{ad:Nat->Addr}{w w':World}{d bl:Nat}{gs ws:List Nat}{wv kv:Value}{D:zJ}
theorem zKb(hL:yH F ad w)(h:DkR w d bl gs ws wv kv D)(i:Nat)(hi:i<D.blocks) :
  Calls Tryz.prog 22 #[.pointer (some ⟨d,0,none⟩),.int .i64 (i:Int)] w λe w'=>∃g,e=.returned (.tuple #[zAT D.size g,.nilIface])/\w.heap.size<=g/\zG w' g (qA (D.lasting.getD i [])) 5 /\ (D.lasting.getD i []).length=D.size/\zF w w':=by
 have Aq:D.check i=none:=by unfold zJ.check;rw[if_neg (by omega)]
 have HL:=oh hL;have HD:=oh h;have D5:=h.b256;clear h hL
 go_enter Tryz.func22, Tryz.ntmps22
 go_wp2_with fail;refine (zBr HL.out HD.out _ i).mono ?_;rintro e w1 ⟨ev,rfl,hE,hm⟩;rw[Aq] at hE;cases hE
 have Bm:=oh (HD.out.at hm);have A2:=oh hm;have HBd:Hid (Bd (λ_=>False) w1):=oh (λ_ f=>f.elim);have A9:D.size<=1024:=Bm.out.s1024;have D6:256<=D.size:=Bm.out.s256;obtain⟨g,b,cap,k1,k2,k3,k4,k5,k6,k7,k8⟩:=Bm.out.lastC i hi;have HLk:Hid (D.lasting.getD i []=b):=oh (by simp[k2]);have HLn:=oh k7;have HK:=oh k8;clear k1 k2 k7 k8 Aq hm;go_wp2_with fail;refine (zDa HBd.out (zAT D.size g) b (zCq HK.out HLn.out (λf=>f) (by omega)) (by have:=HLn.out;omega) (by have:=HLn.out;omega)).mono ?_;rintro e w2 ⟨g2,rfl,Ar,D7,Ab,D8⟩;rw[HLn.out];have Bn:=oh Ab;have B7:=oh Ar;clear Ab Ar D7;go_wp2_with fail;go_ret2
 exact⟨g2,rfl,uP A2.out.size B7.out,by rw[HLk.out];exact Bn.out,by rw[HLk.out];exact HLn.out,A2.out.trans D8⟩
theorem zJE(hL:yH F ad w)(h:DkR w d bl gs ws wv kv D)(i:Int)(hi:i<0\/(D.blocks:Int)<=i) :
  Calls Tryz.prog 22 #[.pointer (some ⟨d,0,none⟩),.int .i64 i] w λe w'=>∃b,e=.returned (.tuple #[.slice none 0 0,zP b])/\zF w w':=by
 have Aq:D.check i=some ([if i < -1 then -1 else i],2):=by unfold zJ.check;rw[if_pos hi]
 have HL:=oh hL;have HD:=oh h;clear h hL hi
 go_enter Tryz.func22, Tryz.ntmps22
 go_wp2_with fail;refine (zBr HL.out HD.out _ i).mono ?_;rintro e w1 ⟨ev,rfl,hE,hm⟩;rw[Aq] at hE;obtain⟨b,rfl, -⟩:=hE;have HM:=oh hm;clear hm Aq;unfold zP;go_wp2_with fail;go_ret2
 exact⟨b,rfl,HM.out⟩
theorem DkS.lasting_bad(hL:yH F ad w)(h:DkS w P d D)(i:Int)(hi:i<0\/(D.blocks:Int)<=i) :
  Calls Tryz.prog 22 #[.pointer (some ⟨d,0,none⟩),.int .i64 i] w λe w'=>∃b,e=.returned (.tuple #[.slice none 0 0,zP b])/\zF w w':=by
 obtain⟨bl,gs,ws,wv,kv,h1,h2⟩:=h;exact zJE hL h1 i hi
theorem DkS.lasting(hL:yH F ad w)(h:DkS w P d D)(i:Nat)(hi:i<D.blocks) :
  Calls Tryz.prog 22 #[.pointer (some ⟨d,0,none⟩),.int .i64 (i:Int)] w λe w'=>∃v,e=.returned (.tuple #[v,.nilIface])/\Sl F w' 1 zZ v (D.lasting.getD i [])/\(D.lasting.getD i []).length=D.size/\zF w w':=by
 have D9:=h.lim;obtain⟨bl,gs,ws,wv,kv,h1,h2⟩:=h;refine (zKb hL h1 i hi).mono ?_;rintro e w' ⟨g,rfl,hg,hB,hl,hm⟩;exact⟨_,rfl,zCq hB hl (λf=>by have:=hL.lt g f;omega) (by omega),hl,hm⟩
end
theorem zGb:∀{l:List ByteArray},(l.Pairwise λa b=>ltS a b=true)->zAG l=true
 | [],_=>rfl
 | [_],_=>rfl
 | a :: b :: l,h=>by
  have h1:=wW.1 h;simp only[zAG,uI];exact⟨h1.1 b uK,zGb h1.2⟩
theorem zCL(s:ByteArray):(vQ s).length=1+s.size:=by
 unfold vQ;rw[uC,zD,rB];rfl
theorem zM2{e:zM}(h:qR e=true):(zAc e).length<=59:=by
 unfold qR at h;simp only[uI] at h;have hk:=(zA5 e.key).1 h.1;have h2:=h.2;unfold zAc;rw[uC,zCL];by_cases hc:e.chain=0
 .rw[if_pos hc] at h2 ⊢;simp only[uI,uO] at h2;rw[uC,zD,zCL];omega
 .rw[if_neg hc];simp only[uC,zD];omega
theorem zIH{α:Type}(g:α->List UInt8)(M:Nat):∀(l:List α),(∀x∈l,(g x).length<=M)->(l.flatMap g).length<=M * l.length
 | [],_=>by simp
 | x :: l,h=>by
  have h1:=zIH g M l (λy hy=>h y (uJ _ hy));have h2:=h x uK;rw[wQ,uC,uG,Nat.mul_succ];omega
theorem zM3{p:ByteArray × Int}(h:jO p.1=true):(zAz p).length<=37:=by
 have hk:=(zA5 p.1).1 h;unfold zAz;rw[uC,zCL,zD];omega
section
variable {P P' F F':NP}{ad:Nat->Addr}{w w':World}{c s:Nat}
theorem zII(op:ByteArray)(gen:Nat) : Calls Tryz.prog 162 #[.string op,pgV c s gen] w λe w'=>e=.returned .nilIface/\zF w w':=by
 unfold pgV;have m0:zF w (w.alloc (gP c s gen)):=(zss w).alloc _;have M0:=oh m0;clear m0
 go_enter Tryz.func162, Tryz.ntmps162
 go_wp2_with fail;go_ret;exact⟨rfl,M0.out⟩
def zCT(key:ByteArray):Option Err:=if jO key=true then none else some ([-1],2)
theorem zLg(hL:yH F ad w)(op:ByteArray)(gen:Nat)(key:ByteArray) : Calls Tryz.prog 103 #[.string op,pgV c s gen,.string key] w λe w'=>∃ev,e=.returned ev/\zAb F ad w' ev (zCT key)/\zF w w':=by
 have HL:=oh hL;have A9:=hL.size;have HZ:=oh A9;clear hL A9;unfold pgV;have HR:=λw'=>zII (c:=c) (s:=s) (w:=w') op gen
 unfold pgV at HR;cases hk:jO key with
 | true =>
  have HK:Hid (zCT key=none):=oh (by unfold zCT;rw[if_pos hk])
  go_enter Tryz.func103, Tryz.ntmps103
  go_wp2_with fail;refine (HR _).mono ?_;rintro e w1 ⟨rfl,A3⟩;have A2:=oh A3;clear A3;go_wp2_with fail;refine (zBk key _).mono ?_;rintro e w2 ⟨rfl,rfl⟩;rw[hk];go_wp2_with fail;go_ret;exact⟨_,rfl,by rw[HK.out];rfl,by first|exact A2.out|exact ((zss w).alloc _).trans A2.out⟩
 | false =>
  have HK:Hid (zCT key=some ([-1],2)):=oh (by unfold zCT;rw[hk];rfl)
  go_enter Tryz.func103, Tryz.ntmps103
  go_wp2_with fail;refine (HR _).mono ?_;rintro e w1 ⟨rfl,A3⟩;have Bo:zF w w1:=by first|exact A3|exact ((zss w).alloc _).trans A3
  have B1:=HL.out.mods Bo.ext;have g2:=B1.c2;have Dq:=B1.size;have A2:=oh Bo;have Da:=oh B1;clear A3 Bo B1;go_wp2_with fail;refine (zBk key _).mono ?_;rintro e w2 ⟨rfl,rfl⟩;rw[hk];go_wp2_with fail;refine (vI Da.out _ _ [] 2 (.sent 2 (by decide) (by decide))).mono ?_;rintro e w3 ⟨f,rfl,hE,hm⟩;have HE:=oh hE;have HM:=oh hm;clear hE hm;go_wp2_with fail;go_ret;exact⟨_,rfl,by rw[HK.out];exact⟨f,rfl,HE.out⟩,A2.out.trans HM.out⟩
end
abbrev e0:ByteArray:=⟨#[]⟩
theorem zGc(key value:ByteArray)(over:Bool):∀l:List zL,(yV key value over l).length<=l.length+1
 | []=>by simp[yV]
 | x :: l=>by
  have:=zGc key value over l;unfold yV;split
  .simp only[uG];omega
  .split
   .split <;> simp
   .simp
theorem zLh{l:List zL}(hs:zAx l){x:zL}(hx:x∈l):qI x.1 l=some x.2:=by
 induction l with
 | nil=>simp at hx
 | cons y l ih =>
  have h2:=wW.1 hs;rw[zDH];rcases uQ.1 hx with rfl|hx
  .rw[if_pos rfl]
  .have:=h2.1 x hx;rw[if_neg (λe=>by rw[e,jJ] at this;cases this)];exact ih h2.2 hx
theorem zLi{P:Program}{w:World}{t u e:TypeId}(T:ElT P t e (.int .u8 0) 1 1)(hu:P.underlying u=some .string)
  {ops:Array Oper} {rest:List Oper} {o:Oper} {a:Act} {Q:Exit->Act->World->Prop} (Db:o.guard=none) (sx x:Operand)
  (ho:o.op=.call { callee:=.builtin .append,args:=#[sx,x],argTypes:=#[t,u] })
  (base:Nat) (v:Value) (l:List UInt8) (s:ByteArray) (hv:a.eval sx=v) (hx:a.eval x=.string s) (Bp:yC (λ_=>False) w base e 1 zZ v l) (hb:l.length+s.size<=140737488355328) (As:base<=w.heap.size)
  (h:∀a' c' w',yC (λ_=>False) w' base e 1 zZ (.slice a' (l.length+s.size) c') (l++s.data.toList)->w.grownBy w' v.ownBlock->wpList P ops Q rest (a.put o.dst (.slice a' (l.length+s.size) c')) w') :
  wpList P ops Q (o :: rest) a w:=by
 refine wpList_plain Db λK hK=>?_
 obtain⟨i,hi,hz,Ax,Dc⟩:=zFO T.info;obtain⟨v',w',hr,h2,h3,_⟩:=Go.Lib.run_append_own_string (P:=P) (w:=w) base t u o.type e i T.under hu hi hz Ax Dc v l.length _ Bp.1 s (by simp only[maxLen];omega) hb As;have hO:yC (λ_=>False) w' base e 1 zZ v' (l++s.data.toList):=⟨by
  rw[uC,jB,tP,<- zF9];exact h2,λ_ _ f=>f⟩
 obtain⟨a',c',Cc,_⟩:=hO.form;rw[uC,jB] at Cc;subst Cc;unfold Oper.wp execOp;simp only[ho,resolve,invoke,builtin,Sem.run_bind,Sem.run_pure,Result.andThen_ok,pI,tS,nN,hv,hx,hr];exact hK _ _ (h a' c' w' hO h3)
structure WrR(base:Nat)(w:World)(B:Nat)(l:List UInt8):Prop where
 box:∃a c,zG w B #[.slice a l.length c,.nilIface] 422 /\ yC (λ_=>False) w base 5 1 zZ (.slice a l.length c) l
 ge:base<=B
def WFr(B:Nat)(w w':World):Prop:=∀(b:Nat) (c:Array Value) (t:TypeId),b≠B->t ≠ 5 -> zG w b c t->zG w' b c t
section
variable {F:NP}{ad:Nat->Addr}{w w':World}{base B:Nat}{l:List UInt8}
theorem yC.notB{e t:TypeId}{α:Type}{F:NP}{enc:α->List Value}{sz:Nat}{v:Value}{x:List α}{B:Nat}{c:Array Value}(h:yC F w base e sz enc v x)(hB:zG w B c t)(ht:t≠e):∀g,v.ownBlock=some g->g≠B:=by
 intro g hg he;subst he;rcases h.1.2 with ⟨rfl,_⟩|⟨g',cap,cur,rfl,Dr,hg',_⟩
 .simp[Value.ownBlock] at hg
 .simp[Value.ownBlock] at hg;subst hg;unfold zG at hB;rw[hg'] at hB;injection hB with hB;injection hB with h1 h2;exact ht h2.symm
theorem zLj(hL:yH F ad w)(hF:∀k,F k->k<base)(h:WrR base w B l)(n W:Nat)(hW:W=1\/W=2\/W=4)(hn:n<256 ^ W)(A4:l.length<=100000) :
  Calls Tryz.prog 291 #[.pointer (some ⟨B,0,none⟩),.int .i64 (n:Int),.int .i64 (W:Int)] w λe w'=>e=.returned (.tuple #[])/\WrR base w' B (l++yD W n)/\zA (λk=>base<=k) w w'/\WFr B w w':=by
 obtain⟨⟨a,c,hB,hO⟩,Ah⟩:=h;have Ds:n<4294967296:=by
  rcases hW with rfl|rfl|rfl <;> simp at hn <;> omega
 have b0:=hB.d 0 (.slice a l.length c) rfl;have b1:=hB.d 1 .nilIface rfl;have Dd:Hid (Sl F w 1 zZ (.slice a l.length c) l):=oh (yC.sl (F:=F) ⟨hO.1,λg hg f=>by have:=hO.lt g hg;have:=hF g f;omega⟩ jN.len (by omega));have HB:=oh hB;have HL:=oh hL;have HN:=oh hn;have HW:=oh hW;have Ao:=oh hB.lt;clear hB hO hL hF hn hW
 go_enter Tryz.func291, Tryz.ntmps291
 go_wp2_with fail;refine (zBc HL.out _ l Dd.out n W (by have:=HW.out;omega) HN.out (uP A4 (by omega))).mono ?_;rintro e w1 ⟨a1,c1,rfl,Cd,A3⟩;have Ag:=HB.out.ext A3;have f0:=Ag.frozen 0;have f1:=Ag.frozen 1;have z0:=Ag.k 0 rfl;have z1:=Ag.k 1 rfl;have De:=oh Ag;have A9:=A3.size;have HM:Hid (zA (λk=>base<=k) w ((w1.setCell ⟨B,0,none⟩ (.slice a1 (l.length+W) c1)).setCell ⟨B,1,none⟩ .nilIface)):=oh ((A3.ext.setCell (p:=⟨B,0,none⟩) (.inr Ah) _).setCell (p:=⟨B,1,none⟩) (.inr Ah) _);have Df:Hid (yC (λ_=>False) ((w1.setCell ⟨B,0,none⟩ (.slice a1 (l.length+W) c1)).setCell ⟨B,1,none⟩ .nilIface) base 5 1 zZ (.slice a1 (l.length+W) c1) (l++yD W n)):=oh (by
  have h1:yC (λ_=>False) w1 base 5 1 zZ (.slice a1 (l.length+W) c1) (l++yD W n):=yC.rebase ⟨Cd.1,λ_ _ f=>f⟩ (by have:=Ao.out;omega);exact h1.mods (((zA.refl (λk=>k=B) w1).setCell (F:=λk=>k=B) (p:=⟨B,0,none⟩) (.inr rfl) _).setCell (F:=λk=>k=B) (p:=⟨B,1,none⟩) (.inr rfl) _) (λg hg=>yC.notB h1 Ag (by decide) g hg))
 have B2:Hid (WFr B w ((w1.setCell ⟨B,0,none⟩ (.slice a1 (l.length+W) c1)).setCell ⟨B,1,none⟩ .nilIface)):=oh (λb c t h1 _ h3=>((h3.ext A3).set_other (p:=⟨B,0,none⟩) h1 _).set_other (p:=⟨B,1,none⟩) h1 _);clear A3 Ag Cd;go_wp2_with fail;go_end0
 exact⟨rfl,⟨⟨a1,c1,by rw[uC,zD];exact (De.out.set 0 _).set 1 _,by rw[uC,zD];exact Df.out⟩,Ah⟩,HM.out,B2.out⟩
theorem zO3(hL:yH F ad w)(hF:∀k,F k->k<base)(h:WrR base w B l)(s:ByteArray)(hs:s.size<256)(A4:l.length<=100000) :
  Calls Tryz.prog 292 #[.pointer (some ⟨B,0,none⟩),.string s] w λe w'=>e=.returned (.tuple #[])/\WrR base w' B (l++vQ s)/\zA (λk=>base<=k) w w'/\WFr B w w':=by
 have HL:=oh hL;have HF:=oh hF;have HH:=oh h;have Dt:=oh h.box;clear hL hF h
 go_enter Tryz.func292, Tryz.ntmps292
 go_wp2_with fail;refine (zLj HL.out HF.out HH.out s.size 1 (.inl rfl) (by simpa using hs) A4).mono ?_;rintro e w1 ⟨rfl,hR,hm,Ce⟩;have B2:=oh Ce;clear Ce;obtain⟨⟨a,c,hB,hO⟩,Ah⟩:=hR;have Du:=hB.lt;have Cf:(l++yD 1 s.size).length=l.length+1:=by rw[uC,zD]
 have HB:=oh hB;have HO:=oh hO;have HM:=oh hm;have Dg:=oh Cf;generalize hq:l++yD 1 s.size=q at *
 have HQ:=oh hq;clear hB hO hm Cf hq;have b0:=HB.out.d 0 (.slice a q.length c) rfl;have f0:=HB.out.frozen 0;go_wp2_with (at_builtin;refine zLi Tryz.elB Tryz.underlying9 rfl _ _ rfl base _ q s rfl rfl HO.out (by rw[Dg.out];omega) (by omega) ?_;intro a2 c2 w2 Bq Ar;have B3:=zA.of_grown Ar;have Ab:zG w2 B #[.slice a q.length c,.nilIface] 422:=HB.out.mods B3 (λe=>yC.notB HO.out HB.out (by decide) B e rfl);have z0:=Ab.d 0 (.slice a q.length c) rfl;have zf:=Ab.frozen 0);have Bn:=oh Ab;have Ae:Hid (zA (λk=>base<=k) w (w2.setCell ⟨B,0,none⟩ (.slice a2 (q.length+s.size) c2))):=oh (((HM.out.trans (B3.mono (λk hk=>(HO.out.lt k hk).1)))).setCell (p:=⟨B,0,none⟩) (.inr Ah) _);have Dh:Hid (yC (λ_=>False) (w2.setCell ⟨B,0,none⟩ (.slice a2 (q.length+s.size) c2)) base 5 1 zZ (.slice a2 (q.length+s.size) c2) (q++s.data.toList)):=oh
  (Bq.mods ((zss w2).setCell (F:=λk=>k=B) (p:=⟨B,0,none⟩) (.inr rfl) _) (λg hg=>yC.notB Bq Ab (by decide) g hg))
 have Br:Hid (WFr B w (w2.setCell ⟨B,0,none⟩ (.slice a2 (q.length+s.size) c2))):=oh (λb c t h1 h2 h3=>((B2.out b c t h1 h2 h3).mods B3 (λe=>yC.notB HO.out (B2.out b c t h1 h2 h3) h2 b e rfl)).set_other (p:=⟨B,0,none⟩) h1 _);clear Ab Bq Ar B3;go_end0
 have e1:l++vQ s=q++s.data.toList:=by rw[<- HQ.out];unfold vQ;rw[uN]
 have e2:(q++s.data.toList).length=q.length+s.size:=by rw[uC,jB]
 exact⟨rfl,⟨⟨a2,c2,by rw[e1,e2];exact Bn.out.set 0 _,by rw[e1,e2];exact Dh.out⟩,Ah⟩,Ae.out,Br.out⟩
end
end
end Go.Proofs.YtalpfcaakpgkmaaGreatDoor
