import Derived.Test.YtalpfcaakpgkmaaGreatDoorR19
import Derived.IntWalk
namespace Go.Proofs.YtalpfcaakpgkmaaGreatDoor
open Lib renaming hid->oh
set_option maxHeartbeats 4000000
set_option maxRecDepth 100000
section
open Go.RowKit
def pgV(c s gen:Nat):Value:=.agg (gP c s gen)
def zAl(n:Int):Option Err:=if n<=24\/4096<n then some ([-1],2) else none
def zCr:List Nat->List Nat->Prop
 | _,[]=>True
 | l,id :: r=>(yT l id).2=none/\zCr (yT l id).1 r
def jU:List Nat->List Nat->List Nat
 | l,[]=>l
 | l,id :: r=>jU (yT l id).1 r
def jY:GA->List Nat->GA
 | G,[]=>G
 | G,id :: r=>jY (G.drop id) r
theorem zIA:∀(r:List Nat) (G:GA) (id:Nat),jY G (r++[id])=(jY G r).drop id
 | [],_,_=>rfl
 | x :: r,G,id=>by rw[tF,jY,zIA r,jY]
theorem zFk:∀(r:List Nat) (l:List Nat) (id:Nat),jU l (r++[id])=(yT (jU l r) id).1
 | [],_,_=>rfl
 | x :: r,l,id=>by rw[tF,jU,zFk r,jU]
theorem zJY:∀(r:List Nat) (l:List Nat) (k id:Nat),zCr l r->r[k]? = some id->(yT (jU l (r.take k)) id).2=none
 | [],_,k,_,_,h=>by simp at h
 | x :: r,l,0,id,h,hk=>by simp at hk;subst hk;exact h.1
 | x :: r,l,k+1,id,h,hk=>by
  rw[nG,jU];exact zJY r _ k id h.2 (by simpa using hk)
def zA7:Nat->List Nat->Option (List Nat × List Nat)
 | 0,l=>some ([],l)
 | n+1,l=>match vP l with
  | none=>none
  | some i=>match zA7 n (l.set i 2) with
   | none=>none
   | some (ids,l')=>some (i :: ids,l')
section
variable {P P' F F':NP}{ad:Nat->Addr}{w w':World}{c s:Nat}{G G':GA}{l l':List Nat}
theorem zFl[zQ](h:jK F w P c s G l)(gen:Nat) : Calls Tryz.prog 309 #[pgV c s gen] w λe w'=>e=.returned (.int .i64 (G.size:Int))/\zF w w':=by
 unfold pgV;have m0:zF w (w.alloc (gP c s gen)):=(zss w).alloc _;obtain⟨d,HH,h1,h2⟩:=zQS (h.at m0);have gf1:=Tryz.geoF1;have H1:=oh h1;have H2:=oh h2;have M0:=oh m0;clear h1 h2 h m0
 go_enter Tryz.func309, Tryz.ntmps309
 go_wp2_with fail;refine H1.out.mono ?_;rintro e w1 ⟨rfl,rfl⟩;go_wp2_with fail;refine (H2.out _ zr).mono ?_;rintro e w2 ⟨rfl,hm⟩;have HM:=oh hm;clear hm;go_wp2_with fail;go_ret;exact⟨rfl,M0.out.trans HM.out⟩
theorem zEr(hL:yH F ad w)(op:ByteArray)(gen:Nat)(n:Int) : Calls Tryz.prog 257 #[.string op,pgV c s gen,.int .i64 n] w λe w'=>∃ev,e=.returned ev/\zAb F ad w' ev (zAl n)/\zF w w':=by
 unfold pgV;have m0:zF w (w.alloc (gP c s gen)):=(zss w).alloc _;have Ar:=hL.mods m0.ext;have g2:=hL.c2;have Db:=hL.size;have g2' : 0 < w.heap.size:=by omega
 have HL:=oh Ar;have M0:=oh m0;clear hL Ar m0;by_cases h1:n<=24
 .have HR:Hid (zAl n=some ([-1],2)):=oh (by unfold zAl;rw[if_pos (.inl h1)])
  go_enter Tryz.func257, Tryz.ntmps257
  go_wp2_with fail;refine (vI HL.out _ _ [] 2 (.sent 2 (by decide) (by decide))).mono ?_;rintro e w1 ⟨f,rfl,hE,hm⟩;have HE:=oh hE;have HM:=oh hm;clear hE hm;go_wp2_with fail;go_ret;exact⟨_,rfl,by rw[HR.out];exact⟨f,rfl,HE.out⟩,M0.out.trans HM.out⟩
 .by_cases h2:4096<n
  .have HR:Hid (zAl n=some ([-1],2)):=oh (by unfold zAl;rw[if_pos (.inr h2)])
   go_enter Tryz.func257, Tryz.ntmps257
   go_wp2_with fail;refine (vI HL.out _ _ [] 2 (.sent 2 (by decide) (by decide))).mono ?_;rintro e w1 ⟨f,rfl,hE,hm⟩;have HE:=oh hE;have HM:=oh hm;clear hE hm;go_wp2_with fail;go_ret;exact⟨_,rfl,by rw[HR.out];exact⟨f,rfl,HE.out⟩,M0.out.trans HM.out⟩
  .have HR:Hid (zAl n=none):=oh (by unfold zAl;rw[if_neg (by omega)])
   go_enter Tryz.func257, Tryz.ntmps257
   go_wp2_with fail;go_ret;exact⟨_,rfl,by rw[HR.out];rfl,M0.out⟩
end
def zJD(n:Nat):List Value:=[.int .i64 (n:Int)]
theorem zKX:zCx zJD 1:=⟨λ_=>rfl,by intro x u hu;simp[zJD] at hu;subst hu;rfl⟩
theorem Tryz.elI:ElT Tryz.prog 34 3 (.int .i64 0) 1 8:=⟨Tryz.underlying34,Tryz.mkI,rfl,by decide,by decide⟩
theorem yX{P:Program}{α:Type}{F G:NP}{w:World}{t e:TypeId}{z:Value}{sz bytes:Nat}{enc:α->List Value}(T:ElT P t e z sz bytes)(E:zCx enc sz)
  {ops:Array Oper} {rest:List Oper} {o:Oper} {a:Act} {Q:Exit->Act->World->Prop} (Bk:o.guard=none) (sx x:Operand)
  (ho:o.op=.call { callee:=.builtin .append,args:=#[sx,x],argTypes:=#[t,t] })
  (base:Nat) (v s:Value) (l m:List α) (hv:a.eval sx=v) (hx:a.eval x=s) (A0:yC F w base e sz enc v l) (hs:Sl G w sz enc s m) (hb:(l.length+m.length) * bytes<=140737488355328) (A5:base<=w.heap.size) (hn:¬ F w.heap.size)
  (h:∀a' c' w',yC F w' base e sz enc (.slice a' (l.length+m.length) c') (l++m)->zA (λk=>v.ownBlock=some k) w w' ->
   ((Value.slice a' (l.length+m.length) c').ownBlock=v.ownBlock\/(Value.slice a' (l.length+m.length) c').ownBlock=some w.heap.size)->wpList P ops Q rest (a.put o.dst (.slice a' (l.length+m.length) c')) w') :
  wpList P ops Q (o :: rest) a w:=by
 obtain⟨i,hi,hz,Bl,Bm⟩:=zFO T.info;refine zFN Bk sx x t ho base e i z sz bytes T.under hi hz Bl Bm T.zs T.sz0 enc E.len E.one v s l m hv hx A0 hs hb T.by0 A5 hn ?_;intro a' c' w' h1 h2 h3;exact h a' c' w' h1 (zA.of_grown h2) h3
def zDp{α:Type}(w0:World)(F P:NP)(w:World)(e:TypeId)(sz:Nat)(enc:α->List Value)(v:Value)(l:List α):Prop :=
 yC (λ_=>False) w w0.heap.size e sz enc v l/\∀g,v.ownBlock=some g->F g/\¬ P g
section
variable {α:Type}{P0 P P' F0 F F':NP}{ad:Nat->Addr}{w0 w w':World}{c s:Nat}{G G':GA}{l l':List Nat}{e:TypeId}{sz:Nat}{enc:α->List Value}{v v':Value}{x x':List α}
theorem zDp.nxt(h:zDp w0 F P w e sz enc v x)(n:zX P P' F F' ad w w'):zDp w0 F' P' w' e sz enc v x :=
 ⟨h.1.mods n.stp.mods (λg hg=>(h.2 g hg).2),λg hg=>⟨n.grow g (h.2 g hg).1,n.not (h.1.lt g hg).2 (h.2 g hg).2⟩⟩
theorem zDp.ext(h:zDp w0 F P w e sz enc v x)(m:zF w w'):zDp w0 F P w' e sz enc v x:=⟨h.1.ext m,h.2⟩
theorem zDp.nil(w0:World)(F P:NP)(w:World)(e:TypeId)(sz:Nat)(enc:α->List Value):zDp w0 F P w e sz enc (.slice none 0 0) ([]:List α) :=
 ⟨yC.nil _ _ _ _ _ _,λg hg=>by simp[Value.ownBlock] at hg⟩
def zG6(F:NP)(v:Value):NP:=λk=>F k\/v.ownBlock=some k
theorem zDp.app(n:zX P0 P F0 F ad w0 w)(h:zDp w0 F P w e sz enc v x)(ho:yC (λ_=>False) w' w0.heap.size e sz enc v' x')(m:zA (λk=>v.ownBlock=some k) w w'){K:Nat}(Ab:v'.ownBlock=v.ownBlock\/v'.ownBlock=some K)(hK:w.heap.size<=K) :
  zX P0 P F0 (zG6 F v') ad w0 w'/\zDp w0 (zG6 F v') P w' e sz enc v' x':=by
 have hv:=λg (hg:v.ownBlock=some g)=>h.1.lt g hg
 have hb:∀k,v'.ownBlock=some k->k<w'.heap.size:=λk hk=>(ho.lt k hk).2
 have h0:∀k,v'.ownBlock=some k->w0.heap.size<=k:=λk hk=>(ho.lt k hk).1
 refine⟨⟨⟨n.stp.mods.trans' m (λi hi e=>by have:=(hv i e).1;omega),n.stp.old,λk hk=>uF (n.stp.bd k hk) m.size⟩,λk hk=>.inl (n.sub k hk),λk hk=>.inl (n.grow k hk),λk hk hf=>?_,?_⟩,ho,λg hg=>⟨.inr hg,?_⟩⟩
 .rcases hf with hf|hf
  .exact n.oldF k hk hf
  .have:=h0 k hf;omega
 .exact n.env.step (m.mono (λk hk=>(h.2 k hk).1)) (λk hk hn hf=>by
   rcases hf with hf|hf
   .exact hn hf
   .rcases Ab with e|e
    .exact hn (h.2 k (e ▸ hf)).1
    .rw[e] at hf;injection hf with hf;omega) (λk hf=>hf.elim (λhf=>uF (n.env.lt k hf) m.size) (hb k))
 .rcases Ab with e|e
  .exact (h.2 g (e ▸ hg)).2
  .rw[e] at hg;injection hg with hg;exact λhp=>by have:=n.stp.bd g hp;omega
theorem CaR.plus{d sb:Nat}{bvs:List Value}{Pd:NP}{C:qL}(h:CaR F w d c sb bvs Pd C){Q:NP}(m:zA Q w w')(hQ:∀k,caF c sb Pd k->¬ Q k)(hF:∀k,Q k->F k)(hG:∀k,k<w.heap.size->¬ F k->¬ F' k):CaR F' w' d c sb bvs Pd C :=
 ⟨h.own.mods m (hQ c (.inr (.inl rfl))),h.row.at m (hQ sb (.inr (.inr rfl))),h.lenB,h.n64,λi s bv h1 h2=>(h.body i s bv h1 h2).step (m.mono hF) hG,h.disk.far m (λk hk=>hQ k (.inl hk)),h.cd,h.sd,h.ne⟩
theorem jK.plus[zQ](h:jK F w P c s G l){Q:NP}(m:zA Q w w')(hQ:∀k,P k->¬ Q k)(hF:∀k,Q k->F k)(hG:∀k,k<w.heap.size->¬ F k->¬ F' k):jK F' w' P c s G l:=by
 obtain⟨d,sb,bvs,Pd,b2,C,h1,h2,h3,h4,h5,h6,h7,h8⟩:=h;exact⟨d,sb,bvs,Pd,b2,C,h1.plus m (λk hk=>hQ k ((h6 k).2 (.inl hk))) hF hG,h2,h3,h4,h5.mods m (hQ s ((h6 s).2 (.inr (.inl rfl)))) (hQ b2 ((h6 b2).2 (.inr (.inr rfl)))),h6,h7,h8⟩
theorem jK.app[zQ](hp:jK F w P c s G l)(h:zDp w0 F P w e sz enc v x)(m:zA (λk=>v.ownBlock=some k) w w'){K:Nat}(Ab:v'.ownBlock=v.ownBlock\/v'.ownBlock=some K)(hK:w.heap.size<=K):jK (zG6 F v') w' P c s G l :=
 hp.plus m (λk hk e=>(h.2 k e).2 hk) (λk hk=>(h.2 k hk).1) (λk hk hn hf=>by
  rcases hf with hf|hf
  .exact hn hf
  .rcases Ab with e|e
   .exact hn (h.2 k (e ▸ hf)).1
   .rw[e] at hf;injection hf with hf;omega)
end
section
variable {P P' F F':NP}{ad:Nat->Addr}{w w':World}{c s:Nat}{G G':GA}{l l':List Nat}
theorem zIB[zQ](hL:yH F ad w)(hP:∀k,P k->F k)(h:jK F w P c s G l)(gen:Nat)(iv:Value)(ids:List Nat)(hi:Sl P w 1 zJD iv ids)(A6:zCr l ids) :
  Calls Tryz.prog 288 #[pgV c s gen,iv] w (zCH F P ad w c s (jY G ids) (jU l ids) (λ_ _ e=>e=.returned .nilIface)):=by
 unfold pgV;obtain⟨a,cap,rfl,i1,i2,i3,i4⟩:=_root_.id hi;unfold maxLen at i2;have m0:zF w (w.alloc (gP c s gen)):=(zss w).alloc _;have As:Hid (¬ P w.heap.size):=oh (λf=>by have:=h.bd _ f;omega);have Ai:=oh (zG.new w (gP c s gen) 117);have Ae:=oh (zX.ext hL hP m0);have At:=oh (h.at m0);have Dc:=oh hi;have Au:=oh A6;have HZ:Hid (w.heap.size<(w.alloc (gP c s gen)).heap.size):=oh (by simp);obtain⟨n,hn⟩:∃n,n=ids.length:=⟨_,rfl⟩;rw[<- hn] at i1 i3 ⊢;have HN:=oh hn;have H4:=oh i4;clear hL hP h hi m0 i4 A6 hn
 go_enter Tryz.func288, Tryz.ntmps288
 go_wp2_with fail;go_loopg [10] n (λm v wr=>∃(k:Nat) (P1 F1:NP),k+m=n/\v=.int .i64 k/\Hid (jK F1 wr P1 c s (jY G (ids.take k)) (jU l (ids.take k))/\zX P P1 F F1 ad w wr/\zG wr w.heap.size (gP c s gen) 117 /\ ¬ P1 w.heap.size))
 case atStart=>exact⟨0,P,F,by omega,rfl,oh ⟨At.out,Ae.out,Ai.out,As.out⟩⟩
 case round =>
  obtain⟨k,P1,F1,hk,rfl,HW⟩:=hrel;by_cases Am:k<n
  .obtain⟨Av,An,A9,Aw⟩:=HW.out;obtain⟨id,hid⟩:∃id,ids[k]? = some id:=⟨_,uB (by rw[<- HN.out];exact Am)⟩;obtain⟨b,off,ha,hb,hF,hc⟩:=Sl.at (G:=P) H4.out An.stp.mods (λ_ _ h=>h) k (by rw[<- HN.out];exact Am);subst ha;have c0:=hc 0 (.int .i64 (id:Int)) (by have:=(uA.1 hid).2;rw[this];rfl);simp only[wC,uT] at c0;have r0:=A9.d 0 (.pointer (some ⟨c,0,none⟩)) rfl;have r1:=A9.d 1 (.pointer (some ⟨s,0,none⟩)) rfl;have Dd:=oh hid;have HT:Hid (ids.take (k+1)=ids.take k++[id]):=oh (vO _ _ _ hid);have Cj:Hid ((yT (jU l (ids.take k)) id).2=none):=oh (zJY ids l k id Au.out hid);have h1:(0:Int)<=(k:Int):=by omega
   have h2:(k:Int)<(n:Int):=by omega
   clear hid hc Av An A9 Aw;go_wp2_with fail;refine (zQR HW.out.2.1.env HW.out.2.1.sub HW.out.1 id).mono ?_;rintro e w2 ⟨P2,F2,Ax,Aa,ev,rfl,hE⟩;rw[Cj.out] at hE;cases hE
   have Ao:=oh Ax;have A4:=oh Aa;have A2:=oh (Aa.blk HW.out.2.2.1 HW.out.2.2.2);have Ba:Hid (¬ P2 w.heap.size):=oh (Aa.not HW.out.2.2.1.lt HW.out.2.2.2);have s0:=A2.out.d 0 (.pointer (some ⟨c,0,none⟩)) rfl;clear Ax Aa r0 r1 c0;go_wp2_with fail;refine (zQQ A4.out.env A4.out.sub Ao.out id).mono ?_;rintro e w3 ⟨P3,F3,Ay,Af,bb,rfl⟩;have Aj:Hid (jK F3 w3 P3 c s (jY G (ids.take (k+1))) (jU l (ids.take (k+1)))/\zX P P3 F F3 ad w w3/\zG w3 w.heap.size (gP c s gen) 117 /\ ¬ P3 w.heap.size):=oh (by
    rw[HT.out,zIA,zFk];exact⟨Ay,(HW.out.2.1.trans A4.out).trans Af,Af.blk A2.out Ba.out,Af.not A2.out.lt Ba.out⟩)
   clear Ay Af s0;go_wp2_with fail;go_roundg (gk-1)
   case measure=>omega
   case rel=>exact⟨k+1,P3,F3,by omega,by go_num,Aj⟩
  .go_wp2_with fail;go_ret;have hT:ids.take k=ids:=uY (by have:=HN.out;omega);have hW:=HW.out;rw[hT] at hW;exact⟨P1,F1,hW.1,hW.2.1,rfl⟩
theorem zIC{l:List Nat}{i x id:Nat}(h:id≠i):yT (l.set i x) id=((yT l id).1.set i x,(yT l id).2):=by
 unfold yT;have e:qF (l.set i x) (id:Int)=qF l (id:Int):=by unfold qF;rw[tN]
 rw[e];cases qF l (id:Int) with
 | some e=>rfl
 | none =>
  simp only[uH];rw[uS (λe=>h e.symm)];split
  .simp only;rw[List.set_comm _ _ (λe=>h e.symm)]
  .split
   .simp only;rw[List.set_comm _ _ (λe=>h e.symm)]
   .rfl
theorem zJZ:∀(a l:List Nat) (i x:Nat),i ∉ a->jU (l.set i x) a=(jU l a).set i x
 | [],_,_,_,_=>rfl
 | y :: a,l,i,x,h=>by
  have hy:y≠i:=λe=>h (e ▸ uK)
  rw[jU,zIC hy,zJZ a _ i x (λhm=>h (uJ _ hm)),jU]
theorem zID:∀(a l:List Nat) (i x:Nat),i ∉ a->zCr l a->zCr (l.set i x) a
 | [],_,_,_,_,_=>trivial
 | y :: a,l,i,x,h,ho=>by
  have hy:y≠i:=λe=>h (e ▸ uK)
  rw[zCr,zIC hy];exact⟨ho.1,zID a _ i x (λhm=>h (uJ _ hm)) ho.2⟩
theorem zG7:∀(a l:List Nat) (i:Nat),zCr l a->(yT (jU l a) i).2=none->zCr l (a++[i])
 | [],_,_,_,h=>⟨h,trivial⟩
 | _ :: a,_,i,ho,h=>⟨ho.1,zG7 a _ i ho.2 h⟩
theorem zIE{l:List Nat}{id i:Nat}(h:i≠id):(yT l id).1[i]? = l[i]?:=by
 unfold yT;split
 .rfl
 .split
  .simp only[uH];rw[uS (λe=>h e.symm)]
  .split
   .simp only[uH];rw[uS (λe=>h e.symm)]
   .rfl
theorem zJa:∀(a l:List Nat) (i:Nat),i ∉ a->(jU l a)[i]? = l[i]?
 | [],_,_,_=>rfl
 | y :: a,l,i,h=>by
  have hy:i≠y:=λe=>h (e ▸ uK)
  rw[jU,zJa a _ i (λhm=>h (uJ _ hm)),zIE hy]
theorem zKY{l:List Nat}{i:Nat}(h2:2<=i)(hi:i<l.length):yT (l.set i 2) i=((l.set i 2).set i 0,none):=by
 unfold yT;have e:qF (l.set i 2) (i:Int)=none:=by unfold qF;rw[tN,if_neg (by omega)]
 rw[e];simp only[uH];rw[wH hi,if_pos rfl]
theorem zDp.slP{α:Type}{w0:World}{e:TypeId}{sz:Nat}{enc:α->List Value}{v:Value}{x:List α}(h:zDp w0 F P w e sz enc v x)(Bn:∀y,(enc y).length=sz)(hl:x.length<=140737488355328):Sl P w sz enc v x :=
 yC.sl (F:=P) ⟨h.1.1,λg hg=>(h.2 g hg).2⟩ Bn hl
structure zFQ(l:List Nat)(a:List Nat)(l1:List Nat):Prop where
 ok:zCr l1 a
 back:jU l1 a=l
 fresh:∀id∈a,l1[id]? = some 2
 len:l1.length=l.length
 two:∀id∈a,2<=id
 nd:a.Nodup
 same:∀i,i ∉ a->l1[i]? = l[i]?
theorem zFQ.nil(l:List Nat):zFQ l [] l:=⟨trivial,rfl,λ_ h=>by simp at h,rfl,λ_ h=>by simp at h,rM,λ_ _=>rfl⟩
def zRZ(l:List Nat):Prop:=l[0]? ≠ some 0/\l[1]? ≠ some 0
theorem zFQ.step{l a l1:List Nat}{i:Nat}(h:zFQ l a l1)(A6:zRZ l)(hf:vP l1=some i):zFQ l (a++[i]) (l1.set i 2)/\l[i]? = some 0:=by
 obtain⟨h0,hi⟩:=zAP hf;have Az:i ∉ a:=λhm=>by have:=h.fresh i hm;rw[h0] at this;cases this
 have Bb:l[i]? = some 0:=by rw[<- h.back,zJa a l1 i Az];exact h0
 have h2:2<=i:=by
  rcases tK i 2 with Am|Ck
  .obtain rfl|rfl:i=0\/i=1:=by omega
   .exact absurd Bb A6.1
   .exact absurd Bb A6.2
  .exact Ck
 have C1:i<l.length:=by rw[<- h.len];exact hi
 have e1:jU (l1.set i 2) a=l.set i 2:=by rw[zJZ a l1 i 2 Az,h.back]
 have e2:=zKY (l:=l) h2 C1;refine⟨⟨zG7 a _ i (zID a l1 i 2 Az h.ok) (by rw[e1,e2]),?_,λid hid=>?_,by rw[tN];exact h.len,λid hid=>?_,?_,λj hj=>?_⟩,Bb⟩
 .rw[zFk,e1,e2];simp only;rw[List.set_set];apply pD
  intro j;by_cases e:j=i
  .subst e;rw[wH C1,Bb]
  .rw[uS (λe'=>e e'.symm)]
 .rw[uM] at hid;rcases hid with hid|hid
  .rw[uS (λ(e:i=id)=>Az (by rw[e];exact hid))];exact h.fresh id hid
  .simp at hid;subst hid;rw[wH hi]
 .rw[uM] at hid;rcases hid with hid|hid
  .exact h.two id hid
  .simp at hid;omega
 .rw[uX];exact⟨h.nd,by simp,λx hx y hy e=>by simp at hy;exact Az (by rw[<- hy,<- e];exact hx)⟩
 .rw[uM] at hj;have:j≠i:=λe=>hj (.inr (by simp[e]))
  rw[uS (λe=>this e.symm)];exact h.same j (λhm=>hj (.inl hm))
def zCc[zQ](F P:NP)(ad:Nat->Addr)(w:World)(c s:Nat)(G:GA)(l:List Nat)(n:Nat)(e:Ending)(w':World):Prop :=
  ∃(P' F':NP) (G':GA) (l':List Nat),jK F' w' P' c s G' l'/\zX P P' F F' ad w w' /\
    ((∃ (ids : List Nat) (iv : Value), zA7 n l = some (ids, l') /\ zFQ l ids l' /\ ids.length = n /\ G' = G /\ e = .returned (.tuple #[iv, .nilIface]) /\ Sl P' w' 1 zJD iv ids) \/
     (∃(a:List Nat) (f:Nat),zA7 n l=none/\l'=l/\G'=jY G a/\(∀id∈a,l[id]? = some 0)/\e=.returned (.tuple #[.slice none 0 0,zP f])/\vN F' ad w' (zP f) [-1] 3))
theorem zX.slP{α:Type}{sz:Nat}{enc:α->List Value}{v:Value}{x:List α}(n:zX P P' F F' ad w w')(h:Sl P w sz enc v x):Sl P' w' sz enc v x:=h.step n.stp.mods (λk hk hn h'=>hn (n.stp.old k hk h'))
theorem zLT[zQ](hL:yH F ad w)(hP:∀k,P k->F k)(h:jK F w P c s G l)(gen n:Nat)(hn:n<=1000)(A6:zRZ l) :
  Calls Tryz.prog 313 #[pgV c s gen,.int .i64 (n:Int)] w (zCc F P ad w c s G l n):=by
 unfold pgV;have m0:zF w (w.alloc (gP c s gen)):=(zss w).alloc _;have As:Hid (¬ P w.heap.size):=oh (λf=>by have:=h.bd _ f;omega);have Ai:=oh (zG.new w (gP c s gen) 117);have Ae:=oh (zX.ext hL hP m0);have At:=oh (h.at m0);have Au:=oh A6;clear hL hP h m0 A6
 go_enter Tryz.func313, Tryz.ntmps313
 go_wp2_with fail;go_loopg [6,10] n (λm iv v wr=>∃(k:Nat) (P1 F1:NP) (a l1:List Nat),k+m=n/\v=.int .i64 k/\Hid (jK F1 wr P1 c s G l1/\zX P P1 F F1 ad w wr/\(zG wr w.heap.size (gP c s gen) 117 /\ ¬ P1 w.heap.size/\iv.ownBlock≠some w.heap.size) /\
  zDp w F1 P1 wr 3 1 zJD iv a/\zFQ l a l1/\zA7 n l=(zA7 m l1).map (λp=>(a++p.1,p.2))/\a.length=k/\∀id∈a,l[id]? = some 0))
 case atStart=>exact⟨0,P,F,[],l,by omega,rfl,oh ⟨At.out,Ae.out,⟨Ai.out,As.out,by simp[Value.ownBlock]⟩,zDp.nil _ _ _ _ _ _ _,zFQ.nil l,by cases zA7 n l <;> rfl,rfl,λ_ h=>by simp at h⟩⟩
 case round =>
  obtain⟨k,P1,F1,a,l1,hk,rfl,HW⟩:=hrel;obtain⟨ia,icap,Cl,_⟩:=HW.out.2.2.2.1.1.form;subst Cl;have Bc:a.length=k:=HW.out.2.2.2.2.2.2.1;by_cases Am:k<n
  .have hB:=HW.out.2.2.1.1;have r0:=hB.d 0 (.pointer (some ⟨c,0,none⟩)) rfl;have r1:=hB.d 1 (.pointer (some ⟨s,0,none⟩)) rfl;have r2:=hB.d 2 (.int .u64 (gen:Int)) rfl;have B0:=oh Bc;clear Bc hB;go_wp2_with fail;refine (zMv HW.out.2.1.env HW.out.2.1.sub HW.out.1).mono ?_;rintro e w2 ⟨P2,F2,Ax,Aa,ht⟩;have Ao:=oh Ax;have A4:=oh Aa;have A2:=oh (Aa.blk HW.out.2.2.1.1 HW.out.2.2.1.2.1);have Ba:Hid (¬ P2 w.heap.size):=oh (Aa.not HW.out.2.2.1.1.lt HW.out.2.2.1.2.1);have HLoc2:=oh (HW.out.2.2.2.1.nxt Aa);have s0:=A2.out.d 0 (.pointer (some ⟨c,0,none⟩)) rfl;have s1:=A2.out.d 1 (.pointer (some ⟨s,0,none⟩)) rfl;have s2:=A2.out.d 2 (.int .u64 (gen:Int)) rfl;have HA:Hid (a.length<=1000):=oh (by have:=B0.out;omega);clear Ax Aa r0 r1 r2;rcases ht with ⟨i,hf,hi,rfl⟩|⟨hf,f,rfl,hE⟩
   .have HF:=oh hf;have HTk:=oh (HW.out.2.2.2.2.1.step Au.out hf);have Bo:Hid (zA1 l1=l1.set i 2):=oh (by unfold zA1;rw[hf]);clear hf hi s0 s1 s2;go_wp2_with (at_builtin;refine yX Tryz.elI zKX rfl _ _ rfl w.heap.size (.slice ia a.length icap) (.slice (some ⟨w2.heap.size,0,none⟩) 1 1) a [i] rfl rfl (HLoc2.out.1.ext (zr.alloc _)) (Sl.one (F:=λ_=>False) (x:=i) (t := 3) (fz:=(0,0)) (zS rfl) (λf=>f)) (by have:=HA.out;simp;omega) (uP (HW.out.2.1.trans A4.out).size (by simp)) (λf=>f) ?_;intro a' c' w4 A0 Ac Ab);have hx:=(HW.out.2.1.trans A4.out).trans (zX.ext A4.out.env A4.out.sub ((zss w2).alloc (.cells #[.int .i64 (i:Int)] 3)));have hl:=HLoc2.out.ext ((zss w2).alloc (.cells #[.int .i64 (i:Int)] 3));obtain⟨j1,j2⟩:=zDp.app hx hl A0 Ac Ab (uD _);have j3:=(Ao.out.at ((zss w2).alloc (.cells #[.int .i64 (i:Int)] 3))).app hl Ac Ab (uD _);have Bp:¬ (Value.slice ia a.length icap).ownBlock=some w.heap.size:=HW.out.2.2.1.2.2;have j4:=(A2.out.alloc (.cells #[.int .i64 (i:Int)] 3)).mods Ac Bp;have Aj:Hid (jK (zG6 F2 (.slice a' (a.length + [i].length) c')) w4 P2 c s G (l1.set i 2)/\zX P P2 F (zG6 F2 (.slice a' (a.length + [i].length) c')) ad w w4/\(zG w4 w.heap.size (gP c s gen) 117 /\ ¬ P2 w.heap.size/\(Value.slice a' (a.length + [i].length) c').ownBlock≠some w.heap.size) /\
      zDp w (zG6 F2 (.slice a' (a.length + [i].length) c')) P2 w4 3 1 zJD (.slice a' (a.length + [i].length) c') (a++[i])/\zFQ l (a++[i]) (l1.set i 2)/\zA7 n l=(zA7 (gk-1) (l1.set i 2)).map (λp=>(a++[i]++p.1,p.2))/\(a++[i]).length=k+1/\∀id∈a++[i],l[id]? = some 0):=oh (by
     refine⟨by rw[<- Bo.out];exact j3,j1,⟨j4,Ba.out,λe=>?_⟩,j2,HTk.out.1,?_,by simp[B0.out],λid hid=>?_⟩
     .rcases Ab with e2|e2
      .exact Bp (e2 ▸ e)
      .rw[e2] at e;injection e with e;have:=A2.out.lt;simp at e;omega
     .rw[HW.out.2.2.2.2.2.1];obtain⟨m,rfl⟩:∃m,gk=m+1:=⟨gk-1,by omega⟩;rw[zA7,HF.out];simp only[rK];cases zA7 m (l1.set i 2) with
      | none=>rfl
      | some p=>simp
     .rw[uM] at hid;rcases hid with hid|hid
      .exact HW.out.2.2.2.2.2.2.2 id hid
      .simp at hid;subst hid;exact HTk.out.2)
    clear A0 Ac Ab hx hl j1 j2 j3 j4 Bp;go_wp2_with fail;go_roundg (gk-1)
    case measure=>omega
    case rel=>exact⟨k+1,P2,zG6 F2 (.slice a' (a.length + [i].length) c'),a++[i],l1.set i 2,by omega,by go_num,Aj⟩
   .have HF:=oh hf;have HE:=oh hE;have Bo:Hid (zA1 l1=l1):=oh (by unfold zA1;rw[hf]);clear hf hE;go_wp2_with fail;refine (zIB A4.out.env A4.out.sub (Bo.out ▸ Ao.out) gen (.slice ia a.length icap) a (HLoc2.out.slP zKX.len (by have:=HA.out;omega)) HW.out.2.2.2.2.1.ok).mono ?_;rintro e w3 ⟨P3,F3,Ay,Af,rfl⟩;have Cm:=oh Ay;have Cn:=oh Af;have Co:=oh (Af.errc A4.out.sub HE.out);clear Ay Af;go_wp2_with fail;go_ret2
    refine⟨P3,F3,_,_,Cm.out,(HW.out.2.1.trans A4.out).trans Cn.out,.inr ⟨a,f,?_,HW.out.2.2.2.2.1.back,rfl,HW.out.2.2.2.2.2.2.2,rfl,Co.out⟩⟩;rw[HW.out.2.2.2.2.2.1];obtain⟨m,rfl⟩:∃m,gk=m+1:=⟨gk-1,by omega⟩;rw[zA7,HF.out];rfl
  .obtain rfl:gk=0:=by omega
   have B0:=oh Bc;clear Bc;go_wp2_with fail;go_ret2
   refine⟨P1,F1,_,_,HW.out.1,HW.out.2.1,.inl ⟨a,.slice ia a.length icap,?_,HW.out.2.2.2.2.1,by have:=B0.out;omega,rfl,rfl,?_⟩⟩
   .rw[HW.out.2.2.2.2.2.1,zA7];simp
   .exact HW.out.2.2.2.1.slP zKX.len (by have:=B0.out;omega)
end
end
section
open Go.RowKit
attribute [local go_sem ↓] Go.wp_at_zero Go.wp_at_succ
theorem zF9(s:ByteArray):Go.Lib.strCells s=s.data.toList.flatMap zZ:=by
 unfold Go.Lib.strCells;induction s.data.toList with
 | nil=>rfl
 | cons x l ih=>rw[tS,wQ,ih];rfl
theorem jB(s:ByteArray):s.data.toList.length=s.size:=by rw[rB];rfl
theorem zKZ{P:Program}{w:World}{t u e:TypeId}(T:ElT P t e (.int .u8 0) 1 1)(hu:P.underlying u=some .string)
  {ops:Array Oper} {o:Oper} {a:Act} {K:Act->World->Prop} {Q:Exit->Act->World->Prop} {X:Prop} (Bk:o.guard=none) (sx x:Operand)
  (ho:o.op=.call { callee:=.builtin .append,args:=#[sx,x],argTypes:=#[t,u] })
  (base:Nat) (v:Value) (l:List UInt8) (s:ByteArray) (hv:a.eval sx=v) (hx:a.eval x=.string s) (A0:yC (λ_=>False) w base e 1 zZ v l) (hb:l.length+s.size<=140737488355328) (A5:base<=w.heap.size)
  (h:∀a' c' w',yC (λ_=>False) w' base e 1 zZ (.slice a' (l.length+s.size) c') (l++s.data.toList)->w.grownBy w' v.ownBlock->K (a.put o.dst (.slice a' (l.length+s.size) c')) w') :
  if Region.wanted o (yielded ops a.tmps)=true then Oper.wp P o a w K Q else X:=by
 have hw:Region.wanted o (yielded ops a.tmps)=true:=by simp[Region.wanted,Bk]
 rw[if_pos hw];obtain⟨i,hi,hz,Bl,Bm⟩:=zFO T.info;obtain⟨v',w',hr,h2,h3,_⟩:=Go.Lib.run_append_own_string (P:=P) (w:=w) base t u o.type e i T.under hu hi hz Bl Bm v l.length _ A0.1 s (by simp only[maxLen];omega) hb A5;have hO:yC (λ_=>False) w' base e 1 zZ v' (l++s.data.toList):=⟨by
  rw[uC,jB,tP,<- zF9];exact h2,λ_ _ f=>f⟩
 obtain⟨a',c',C2,_⟩:=hO.form;rw[uC,jB] at C2;subst C2;unfold Oper.wp execOp;simp only[ho,resolve,invoke,builtin,Sem.run_bind,Sem.run_pure,Result.andThen_ok,pI,tS,nN,hv,hx,hr];exact h a' c' w' hO h3
section
variable {P P' F F':NP}{ad:Nat->Addr}{w w':World}{c s:Nat}{G G':GA}{l l':List Nat}
theorem zLU[zQ](hL:yH F ad w)(hP:∀k,P k->F k)(h:jK F w P c s G l)(gen:Nat)(hg:gen<18446744073709551616)(id:Nat)(hid:id<G.blocks)(Bd:vL<=id)(next:Nat)(hn:next<4294967296)(v:ByteArray)(hv:v.size+28<=G.size)(C3:G.cost<1000000) :
  Calls Tryz.prog 315 #[pgV c s gen,.int .i64 (id:Int),.int .i64 (next:Int),.string v] w (zCH F P ad w c s (G.put ⟨4,id,gen,yD 4 next++v.data.toList⟩) l (λ_ _ e=>e=.returned .nilIface)):=by
 unfold pgV;obtain⟨_,b256,_,s1024,_,_⟩:=h.lim;have m0:zF w (w.alloc (gP c s gen)):=(zss w).alloc _;have Ar:=hL.mods m0.ext;have Ai:=oh (zG.new w (gP c s gen) 117);have Cp:=oh Ar;have HG:=oh h;have HL:=oh hL;have HP:=oh hP;have Be:=oh hg;have C4:=oh m0;have B1:Hid (qE ⟨4,(id:Int),gen,yD 4 next++v.data.toList⟩ (G.size:Int)=none):=oh (by
  unfold qE;rw[if_neg (by have:=(h.lim).2.2.1;unfold zAn;simp;omega),if_neg];simp only[uC,zD,jB];have:zDD 4=true:=rfl;rw[this];simp;omega)
 clear hL Ar hP h m0 hg
 go_enter Tryz.func315, Tryz.ntmps315
 go_wp2_with fail;refine (zBc Cp.out (.slice none 0 0) [] (Sl.nil _ _ _ _) next 4 (by omega) (by omega) (by simp)).mono ?_;rintro e w1 ⟨pa,pc,rfl,A0,B2⟩;have Cq:Hid (yC (λ_=>False) w1.drew w.heap.size 5 1 zZ (.slice pa 4 pc) (yD 4 next)):=oh (by
  have h1:=A0.rebase (base':=w.heap.size) (by simp);have h2:yC F w1 w.heap.size 5 1 zZ (.slice pa 4 pc) (yD 4 next):=by simpa using h1
  exact⟨h2.1,λ_ _ f=>f⟩)
 have Bq:Hid (∀g,(Value.slice pa 4 pc).ownBlock=some g->w.heap.size<g/\g<w1.heap.size):=oh (λg hg=>by
  have:=A0.lt g (by simpa using hg);simp at this;omega)
 have Cr:=oh B2;have Ak:=oh (Ai.out.ext B2);have r0:=Ak.out.d 0 (.pointer (some ⟨c,0,none⟩)) rfl;have r2:=Ak.out.d 2 (.int .u64 (gen:Int)) rfl;have Cs:Hid (w.heap.size<=w1.drew.heap.size):=oh (C4.out.trans B2).size;have Ag:(yD 4 next).length=4:=zD 4 next;have Ct:=oh Ag;simp only[uL,wG];clear A0 B2 Ag;go_wp2_with fail;go_region_law
  (first
   | (refine zKZ Tryz.elB Tryz.underlying9 (by rfl) _ _ (by rfl) w.heap.size (.slice pa 4 pc) (yD 4 next) v (by rfl) (by rfl) Cq.out (by have:=Ct.out;omega) Cs.out ?_;intro a' c' w4 A0 Ah;have Bf:=zA.of_grown Ah;have y0:=(Bf.cell (yN r0) (λe=>by have:=Bq.out _ e;omega)).trans r0;have y2:=(Bf.cell (yN r2) (λe=>by have:=Bq.out _ e;omega)).trans r2;have Br:Hid (zF w w4):=oh ((C4.out.trans Cr.out).drew.trans' Bf (λi hi e=>by have:=Bq.out _ e;omega));have Cu:=oh (yC.sl (F:=F) ⟨A0.1,λg hg f=>by have:=A0.lt g hg;have:=HL.out.lt g f;omega⟩ jN.len (by rw[uC,jB,zD];omega)))
   | (go_simp;go_at_call 235;refine (zSB (HL.out.mods Br.out.ext) HP.out (HG.out.at Br.out) ⟨4,id,gen,yD 4 next++v.data.toList⟩ _ Cu.out Be.out ⟨by simp only;omega,by simp only;omega⟩ (by simpa using Bd) B1.out C3).mono ?_;rintro e w5 ⟨P5,F5,C5,C6,rfl⟩))
 all_goals
  have Cv:=oh C5;have Cw:=oh C6;clear C5 C6 A0 Ah Bf y0 y2;go_wp2_with fail;go_ret;exact⟨P5,F5,Cv.out,(zX.ext HL.out HP.out Br.out).trans Cw.out,rfl⟩
end
def zCI(v:List UInt8)(n i:Nat):List UInt8:=(v.drop (i * n)).take n
def zAU(gen:Nat)(v:List UInt8)(n:Nat)(ids:List Nat)(i:Nat):zY:=⟨4,((ids.getD i 0:Nat):Int),gen,yD 4 (ids.getD (i+1) 0)++zCI v n i⟩
def zAH(gen:Nat)(v:List UInt8)(n:Nat)(ids:List Nat):Nat->GA->GA
 | 0,G=>G
 | k+1,G=>(zAH gen v n ids k G).put (zAU gen v n ids k)
theorem vG(gen:Nat)(v:List UInt8)(n:Nat)(ids:List Nat):∀(k:Nat) (G:GA),(zAH gen v n ids k G).blocks=G.blocks/\(zAH gen v n ids k G).size=G.size/\(zAH gen v n ids k G).cost=G.cost+k
 | 0,G=>⟨rfl,rfl,rfl⟩
 | k+1,G=>by
  obtain⟨h1,h2,h3⟩:=vG gen v n ids k G;exact⟨h1,h2,by show (zAH gen v n ids k G).cost+1=_;omega⟩
def zOu[zQ](F P:NP)(ad:Nat->Addr)(w:World)(c s:Nat)(G:GA)(l:List Nat)(gen:Nat)(v:ByteArray)(e:Ending)(w':World):Prop :=
  ∃(P' F':NP) (G':GA) (l':List Nat),jK F' w' P' c s G' l'/\zX P P' F F' ad w w' /\
    ((∃ ids, zA7 (zDG v.size G.size).toNat l = some (ids, l') /\ zFQ l ids l' /\ ids.length = (zDG v.size G.size).toNat /\ G' = zAH gen v.data.toList (G.size - 28) ids ids.length G /\ e = .returned (.tuple #[.int .i64 ((ids.getD 0 0 : Nat) : Int), .nilIface])) \/
     (∃(a:List Nat) (f:Nat),zA7 (zDG v.size G.size).toNat l=none/\l'=l/\G'=jY G a/\(∀id∈a,l[id]? = some 0)/\e=.returned (.tuple #[.int .i64 0,zP f])/\vN F' ad w' (zP f) [-1, -1] 3))
section
variable {P P' F F':NP}{ad:Nat->Addr}{w w':World}{c s:Nat}{G G':GA}{l l':List Nat}
theorem zLV(n size:Nat)(h1:25<=n)(h2:n<=4096)(h3:256<=size)(h4:size<=1024):∃m:Nat,zDG n size=(m:Int)/\1<=m/\m<=18/\(m-1) * (size-28)<n/\n<=m * (size-28):=by
 refine⟨(n-1) / (size-28)+1,?_,Nat.le_add_left 1 _,?_,?_,?_⟩
 .unfold zDG;rw[if_neg (by omega)];have e1:((n:Int)-1)=((n-1:Nat):Int):=by omega
  have e2:((size:Int)-28)=((size-28:Nat):Int):=by omega
  rw[e1,e2];simp
 .have:(n-1) / (size-28)<=(n-1) / 228:=Nat.div_le_div_left (by omega) (by omega);omega
 .rw[rK];have:=Nat.div_mul_le_self (n-1) (size-28);omega
 .have:=Nat.lt_div_mul_add (a:=n-1) (b:=size-28) (by omega);rw[pF,Nat.one_mul];omega
theorem zJb(v:ByteArray)(i j:Nat):(v.extract i j).data.toList=(v.data.toList.drop i).take (j-i):=by
 rw[ByteArray.data_extract,Array.toList_extract,List.extract_eq_take_drop]
theorem zCc.form[zQ]{n:Nat}{e:Ending}(h:zCc F P ad w c s G l n e w'):∃iv ev,e=.returned (.tuple #[iv,ev]):=by
 obtain⟨_,_,_,_,_,_,⟨_,iv,_,_,_,_,h,_⟩|⟨_,f,_,_,_,_,h,_⟩⟩:=h
 .exact⟨_,_,h⟩
 .exact⟨_,_,h⟩
theorem zCc.cellK[zQ]{n:Nat}{e:Ending}(h:zCc F P ad w c s G l n e w'){b o:Nat}{x:Value}(hc:w.cell? ⟨b,o,none⟩=some x)(hb:¬ P b):w'.cell? ⟨b,o,none⟩=some x:=by
 obtain⟨_,_,_,_,_,hn,_⟩:=h;exact hn.cellK hc hb
theorem zLW[zQ](hL:yH F ad w)(hP:∀k,P k->F k)(h:jK F w P c s G l)(gen:Nat)(hg:gen<18446744073709551616)(v:ByteArray)(Cx:25<=v.size)(B3:v.size<=4096)(A6:zRZ l)(C7:l.length=G.blocks)(C3:G.cost+100<=1000000) :
  Calls Tryz.prog 280 #[pgV c s gen,.string v] w (zOu F P ad w c s G l gen v):=by
 obtain⟨_,b256,s256,s1024,_,_⟩:=h.lim;obtain⟨m,hm,B2,Cy,Bd,C8⟩:=zLV v.size G.size Cx B3 s256 s1024;have C9:zAl (v.size:Int)=none:=by unfold zAl;rw[if_neg (by omega)]
 obtain⟨nn,Ca⟩:∃nn,nn=G.size-28:=⟨_,rfl⟩;have Cb:(G.size:Int)-28=(nn:Int):=by omega
 unfold pgV;have m0:zF w (w.alloc (gP c s gen)):=(zss w).alloc _;have As:Hid (¬ P w.heap.size):=oh (λf=>by have:=h.bd _ f;omega);have Ai:=oh (zG.new w (gP c s gen) 117);have Ae:=oh (zX.ext hL hP m0);have At:=oh (h.at m0);have Au:=oh A6;have Cz:=oh C7;have HM:=oh hm;have Al:=oh Ca;have D0:=oh Cb;have Be:=oh hg;have Cc:=oh Bd;have D1:=oh C8;have D2:(v.size:Int)<=4096:=by omega
 clear hL hP h m0 A6 C7 hm Ca Cb hg Bd C8
 go_enter Tryz.func280, Tryz.ntmps280
 go_wp2_with fail;refine (zEr Ae.out.env _ gen (v.size:Int)).mono ?_;rintro e w1 ⟨ev,rfl,hE,hm1'⟩;rw[C9] at hE;cases hE
 have Bs:=oh (Ae.out.trans (zX.ext Ae.out.env Ae.out.sub hm1'));have Cd:=oh (At.out.at hm1');have Ak:=oh (Ai.out.ext hm1');have r0:=Ak.out.d 0 (.pointer (some ⟨c,0,none⟩)) rfl;have r1:=Ak.out.d 1 (.pointer (some ⟨s,0,none⟩)) rfl;have r2:=Ak.out.d 2 (.int .u64 (gen:Int)) rfl;clear hm1' C9;go_wp2_with fail;refine (zFl Cd.out gen).mono ?_;rintro e w2 ⟨rfl,Bg⟩;have Bt:=oh (Bs.out.trans (zX.ext Bs.out.env Bs.out.sub Bg));have Ao:=oh (Cd.out.at Bg);have A2:=oh (Ak.out.ext Bg);have t0:=A2.out.d 0 (.pointer (some ⟨c,0,none⟩)) rfl;have t1:=A2.out.d 1 (.pointer (some ⟨s,0,none⟩)) rfl;have t2:=A2.out.d 2 (.int .u64 (gen:Int)) rfl;clear Bg r0 r1 r2;go_wp2_with fail;refine (zGY (G.size:Int) _ (by omega) (by omega)).mono ?_;rintro e w2' ⟨rfl,rfl⟩;rw[D0.out];have HG2d:=oh (Ao.out.at (zss w2).drew);have HX2d:=oh (Bt.out.trans (zX.ext Bt.out.env Bt.out.sub (zss w2).drew));have B4:Hid (¬ P w.heap.size):=oh As.out;go_wp2_with fail;go_region_held3 (λw'=>w'.cell? ⟨w.heap.size,0,none⟩=some (.pointer (some ⟨c,0,none⟩))/\w'.cell? ⟨w.heap.size,1,none⟩=some (.pointer (some ⟨s,0,none⟩))/\w'.cell? ⟨w.heap.size,2,none⟩=some (.int .u64 (gen:Int)))
  (first|(with_reducible exact⟨x0,x1,x2⟩)|(with_reducible exact⟨z0,z1,z2⟩)|go_keep)
  (first
   | (go_at_call 309;refine (zFl HG2d.out gen).mono ?_;rintro e w3 ⟨rfl,Ad⟩;have x0:=zE Ad t0;have x1:=zE Ad t1;have x2:=zE Ad t2)
   | (go_at_call 314;refine (zP7 (v.size:Int) (G.size:Int) _ (by omega) (by omega)).mono ?_;rintro e w3' ⟨rfl,rfl⟩;rw[HM.out])
   | (go_at_call 313;refine (zLT (HX2d.out.env.mods Ad.ext) HX2d.out.sub (HG2d.out.at Ad) gen m (by omega) Au.out).mono ?_;rintro e w4 B5;obtain⟨iv,ev,rfl⟩:=B5.form;have z0:=B5.cellK x0 B4.out;have z1:=B5.cellK x1 B4.out;have z2:=B5.cellK x2 B4.out))
 obtain⟨P4,F4,G4,l4,Ce,Bh,Bu⟩:=B5;have B6:=oh ((HX2d.out.trans (zX.ext HX2d.out.env HX2d.out.sub Ad)).trans Bh);have Bv:=oh Ce;have D3:=oh (Bh.blk ((A2.out.drew).ext Ad) B4.out);have D4:Hid (¬ P4 w.heap.size):=oh (Bh.not ((A2.out.drew).ext Ad).lt B4.out);clear Ce Bh z0 z1 z2 x0 x1 x2 Ad t0 t1 t2;rcases Bu with ⟨ids,iv',k1,k2,k3,k4,k5,k6⟩|⟨a,f,k1,k2,k3,k4,k5,k6⟩
 .simp only[Ending.returned.injEq,Value.tuple.injEq,Array.mk.injEq,List.cons.injEq,and_true] at k5;obtain⟨e1,e2⟩:=k5;subst e1 e2 k4;obtain⟨ia,icap,rfl,i1,i2,i3,i4⟩:=_root_.id k6;have K1:=oh k1;have K2:=oh k2;have K3:=oh k3;have K6:=oh k6;have I4:=oh i4;rw[k3] at i1 i3 ⊢;unfold maxLen at i2;clear k1 k2 k3 k6 i4;go_wp2_with fail;go_loopg [40] m (λq iv wr=>∃(k:Nat) (P5 F5:NP),k+q=m/\iv=.int .i64 k/\Hid (jK F5 wr P5 c s (zAH gen v.data.toList nn ids k G4) l4/\zX P P5 F F5 ad w wr/\(zG wr w.heap.size (gP c s gen) 117 /\ ¬ P5 w.heap.size)/\Sl P5 wr 1 zJD (.slice ia m icap) ids))
  case atStart=>exact⟨0,P4,F4,by omega,rfl,oh ⟨Bv.out,B6.out,⟨D3.out,D4.out⟩,by have:=K6.out;rw[K3.out] at this;exact this⟩⟩
  case round =>
   obtain⟨k,P5,F5,hk,rfl,HW⟩:=hrel;by_cases Am:k<m
   .obtain⟨Av,An,⟨A9,Aw⟩,Bw⟩:=HW.out;obtain⟨ia',icap',eia,_,_,_,A3⟩:=Bw;simp only[Value.slice.injEq] at eia;obtain⟨eia1,eia3,eia2⟩:=eia;clear eia3;subst eia1 eia2;rcases A3 with A3|⟨b,off,rfl,D5,D6,A3⟩
    .have:=K3.out;rw[A3] at this;simp at this;omega
    .have Ap:k<ids.length:=by rw[K3.out];exact Am
     have c0:=A3 k ids[k] (uB Ap) 0 _ rfl;simp only[wC,uT] at c0;have r0:=A9.d 0 (.pointer (some ⟨c,0,none⟩)) rfl;have r1:=A9.d 1 (.pointer (some ⟨s,0,none⟩)) rfl;have r2:=A9.d 2 (.int .u64 (gen:Int)) rfl;obtain⟨p,hp⟩:∃p,p=k * nn:=⟨_,rfl⟩;obtain⟨q,hq⟩:∃q,q=(k+1) * nn:=⟨_,rfl⟩;have Bi:q=p+nn:=by rw[hp,hq,pF,Nat.one_mul]
     have De:p<v.size:=by
      have h1:k * nn<=(m-1) * nn:=rO _ (by omega);have h2:=Cc.out;rw[<- Al.out] at h2;omega
     have D7:228<=nn/\nn<=996:=by have:=Al.out;omega
     have w1:(k:Int) * (nn:Int)=(p:Int):=by rw[hp];simp
     have h1:(0:Int)<=(k:Int):=by omega
     have h2:(k:Int)<(m:Int):=by omega
     have hid:ids[k]<G4.blocks:=by
      have h1:=K2.out.fresh ids[k] (tB _);have h2:=(uA.1 h1).1;rw[K2.out.len,Cz.out] at h2;exact h2
     have Aq:=oh (show ids.getD k 0=ids[k] by simp[List.getD,Ap]);have Bx:Hid (vL<=ids[k]):=oh (Bv.out.fresh (.inr (K2.out.fresh ids[k] (tB _))));obtain⟨id,A7⟩:∃id,id=ids[k]:=⟨_,rfl⟩;rw[<- A7] at c0 hid Aq Bx;have HP:=oh hp;have HQ:=oh hq;have u1:IntKind.i64.wrap (p:Int)=(p:Int):=IntWalk.i64_in _ (by omega);have u2:IntKind.i64.wrap ((k:Int)+1)=(k:Int)+1:=IntWalk.i64_in _ (by omega);have u3:IntKind.i64.wrap (((k:Int)+1) * (nn:Int))=(q:Int):=by
      have w2:((k:Int)+1) * (nn:Int)=(q:Int):=by rw[hq];simp
      rw[w2];exact IntWalk.i64_in _ (by omega)
     clear hp hq Av An A9 Aw A7;by_cases A8:k+1<m
     .have D8:q<v.size:=by
       have h1:(k+1) * nn<=(m-1) * nn:=rO _ (by omega);have h2:=Cc.out;rw[<- Al.out] at h2;have:=HQ.out;omega
      have D9:(q:Int)<(v.size:Int):=by omega
      have B7:k+1<ids.length:=by rw[K3.out];exact A8
      have c1:=A3 (k+1) ids[k+1] (uB B7) 0 _ rfl;simp only[wC,uT] at c1;have Cf:ids[k+1]<4294967296:=by
       have h1:=K2.out.fresh ids[k+1] (tB _);have h2:=(uA.1 h1).1;rw[K2.out.len] at h2;omega
      have Bj:=oh (show ids.getD (k+1) 0=ids[k+1] by simp[List.getD,B7]);obtain⟨nx,B8⟩:∃nx,nx=ids[k+1]:=⟨_,rfl⟩;rw[<- B8] at c1 Cf Bj;have B1:Hid ((v.extract p q).data.toList=zCI v.data.toList nn k):=oh (by
       rw[HP.out,HQ.out,zJb];unfold zCI;rw[show (k+1) * nn-k * nn=nn by rw[pF,Nat.one_mul];omega])
      have v1:(0:Int)<=(p:Int):=by omega
      have v2:(p:Int)<=(q:Int):=by omega
      have v3:(q:Int)<=(v.size:Int):=by omega
      have v4:min (q:Int) (v.size:Int)=(q:Int):=by omega
      have By:=oh Bi;clear B8 A3 Bi;go_wp2_with fail;go_region_held3 (λw'=>w'.cell? ⟨w.heap.size,0,none⟩=some (.pointer (some ⟨c,0,none⟩))/\w'.cell? ⟨w.heap.size,1,none⟩=some (.pointer (some ⟨s,0,none⟩))/\w'.cell? ⟨w.heap.size,2,none⟩=some (.int .u64 (gen:Int)))
       (first|(with_reducible exact⟨z0,z1,z2⟩)|go_keep)
       ((go_at_call 315;refine (zLU (HW.out.2.1.env.mods zr.drew) HW.out.2.1.sub (HW.out.1.at zr.drew) gen Be.out id (by rw[(vG gen v.data.toList nn ids k G4).1];exact hid) Bx.out nx Cf (v.extract p q) (by rw[(vG gen v.data.toList nn ids k G4).2.1,ByteArray.size_extract];have:=Al.out;have:=By.out;omega) (by rw[(vG gen v.data.toList nn ids k G4).2.2];omega)).mono ?_;rintro e w6 ⟨P6,F6,B9,A1,rfl⟩;have z0:=A1.cellK r0 HW.out.2.2.1.2;have z1:=A1.cellK r1 HW.out.2.2.1.2;have z2:=A1.cellK r2 HW.out.2.2.1.2))
      have Aj:Hid (jK F6 w6 P6 c s (zAH gen v.data.toList nn ids (k+1) G4) l4/\zX P P6 F F6 ad w w6/\(zG w6 w.heap.size (gP c s gen) 117 /\ ¬ P6 w.heap.size)/\Sl P6 w6 1 zJD (.slice (some ⟨b,off,none⟩) m icap) ids):=oh (by
       have e:zAU gen v.data.toList nn ids k=⟨4,(id:Int),gen,yD 4 nx++(v.extract p q).data.toList⟩:=by unfold zAU;rw[Aq.out,Bj.out,B1.out]
       refine⟨by rw[zAH,e];exact B9,(HW.out.2.1.trans (zX.ext HW.out.2.1.env HW.out.2.1.sub (zss wr).drew)).trans A1,⟨A1.blk (w:=wr.drew) HW.out.2.2.1.1 HW.out.2.2.1.2,A1.not (w:=wr.drew) HW.out.2.2.1.1.lt HW.out.2.2.1.2⟩,A1.slP (HW.out.2.2.2.ext (zss wr).drew)⟩)
      clear B9 A1 z0 z1 z2;go_wp2_with fail;go_roundg (gk-1)
      case measure=>omega
      case rel=>exact⟨k+1,P6,F6,by omega,by go_num,Aj⟩
     .have D8:(v.size:Int)<=(q:Int):=by
       have h1:=D1.out;rw[<- Al.out] at h1;have h2:=HQ.out;rw[show k+1=m by omega] at h2;omega
      have Bj:=oh (show ids.getD (k+1) 0=0 by simp[List.getD,wT (show ids.length<=k+1 by rw[K3.out];omega)]);have B1:Hid ((v.extract p v.size).data.toList=zCI v.data.toList nn k):=oh (by
       rw[zJb,HP.out];unfold zCI;have hl:v.data.toList.length=v.size:=jB v;rw[uY (by rw[wN,hl];exact uD _),uY (by rw[wN,hl];have:=HP.out;omega)])
      have v1:(0:Int)<=(p:Int):=by omega
      have v2:(p:Int)<=(v.size:Int):=by omega
      have v4:min (q:Int) (v.size:Int)=(v.size:Int):=by omega
      have Bz:decide (k+1<m)=false:=by simpa using A8
      have C0:(m:Int)<=(k:Int)+1:=by omega
      have By:=oh Bi;clear A3 Bi A8;go_wp2_with fail;go_region_held3 (λw'=>w'.cell? ⟨w.heap.size,0,none⟩=some (.pointer (some ⟨c,0,none⟩))/\w'.cell? ⟨w.heap.size,1,none⟩=some (.pointer (some ⟨s,0,none⟩))/\w'.cell? ⟨w.heap.size,2,none⟩=some (.int .u64 (gen:Int)))
       (first|(with_reducible exact⟨z0,z1,z2⟩)|go_keep)
       ((go_at_call 315;refine (zLU (HW.out.2.1.env.mods zr.drew) HW.out.2.1.sub (HW.out.1.at zr.drew) gen Be.out id (by rw[(vG gen v.data.toList nn ids k G4).1];exact hid) Bx.out 0 (by omega) (v.extract p v.size) (by rw[(vG gen v.data.toList nn ids k G4).2.1,ByteArray.size_extract];have:=Al.out;have:=By.out;omega) (by rw[(vG gen v.data.toList nn ids k G4).2.2];omega)).mono ?_;rintro e w6 ⟨P6,F6,B9,A1,rfl⟩;have z0:=A1.cellK r0 HW.out.2.2.1.2;have z1:=A1.cellK r1 HW.out.2.2.1.2;have z2:=A1.cellK r2 HW.out.2.2.1.2))
      have Aj:Hid (jK F6 w6 P6 c s (zAH gen v.data.toList nn ids (k+1) G4) l4/\zX P P6 F F6 ad w w6/\(zG w6 w.heap.size (gP c s gen) 117 /\ ¬ P6 w.heap.size)/\Sl P6 w6 1 zJD (.slice (some ⟨b,off,none⟩) m icap) ids):=oh (by
       have e:zAU gen v.data.toList nn ids k=⟨4,(id:Int),gen,yD 4 0++(v.extract p v.size).data.toList⟩:=by unfold zAU;rw[Aq.out,Bj.out,B1.out]
       refine⟨by rw[zAH,e];exact B9,(HW.out.2.1.trans (zX.ext HW.out.2.1.env HW.out.2.1.sub (zss wr).drew)).trans A1,⟨A1.blk (w:=wr.drew) HW.out.2.2.1.1 HW.out.2.2.1.2,A1.not (w:=wr.drew) HW.out.2.2.1.1.lt HW.out.2.2.1.2⟩,A1.slP (HW.out.2.2.2.ext (zss wr).drew)⟩)
      clear B9 A1 z0 z1 z2;go_wp2_with fail;go_roundg (gk-1)
      case measure=>omega
      case rel=>exact⟨k+1,P6,F6,by omega,by go_num,Aj⟩
   .obtain rfl:k=m:=by omega
    obtain⟨Av,An,⟨A9,Aw⟩,Bw⟩:=HW.out;obtain⟨ia',icap',eia,_,_,_,A3⟩:=Bw;simp only[Value.slice.injEq] at eia;obtain⟨eia1,eia3,eia2⟩:=eia;clear eia3;subst eia1 eia2;rcases A3 with A3|⟨b,off,rfl,D5,D6,A3⟩
    .have:=K3.out;rw[A3] at this;simp at this;omega
    .have Ap:0<ids.length:=by rw[K3.out];omega
     have c0:=A3 0 ids[0] (uB Ap) 0 _ rfl;simp only[wC,uT] at c0;have Aq:=oh (show ids.getD 0 0=ids[0] by simp[List.getD,Ap]);obtain⟨id,A7⟩:∃id,id=ids[0]:=⟨_,rfl⟩;rw[<- A7] at c0 Aq;have h2:(0:Int)<(k:Int):=by omega
     have h3:0<k:=by omega
     clear A3 A7 Av An A9 Aw Ap;go_wp2_with fail;go_ret2
     refine⟨P5,F5,_,l4,HW.out.1,HW.out.2.1,.inl ⟨ids,?_,K2.out,?_,?_,?_⟩⟩
     .rw[HM.out];exact K1.out
     .rw[HM.out];exact K3.out
     .rw[K3.out,Al.out]
     .rw[Aq.out];rfl
 .simp only[Ending.returned.injEq,Value.tuple.injEq,Array.mk.injEq,List.cons.injEq,and_true] at k5;obtain⟨e1,e2⟩:=k5;subst e1 e2 k2 k3;have K1:=oh k1;have K4:=oh k4;have K6:=oh k6;clear k1 k4 k6;go_wp2_with fail;refine (wrap_any B6.out.env _ _ _ 3 K6.out).mono ?_;rintro e w5 ⟨f5,rfl,Cg,Ch⟩;have Da:=oh Cg;have Ci:=oh Ch;clear Cg Ch;go_wp2_with fail;go_ret2
  refine⟨P4,F4,_,_,Bv.out.at Ci.out,B6.out.trans (zX.ext B6.out.env B6.out.sub Ci.out),.inr ⟨a,f5,?_,rfl,rfl,K4.out,rfl,Da.out⟩⟩;rw[HM.out];exact K1.out
end
end
end Go.Proofs.YtalpfcaakpgkmaaGreatDoor
