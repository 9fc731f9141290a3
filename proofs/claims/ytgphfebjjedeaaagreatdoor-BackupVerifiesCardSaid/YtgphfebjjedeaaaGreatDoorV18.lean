import Derived.Test.YtgphfebjjedeaaaGreatDoorV17
import Derived.Laws.BitsAllLaws
import Derived.IntWalk
namespace Go.Proofs.YtgphfebjjedeaaaGreatDoor
open Lib renaming hid->oh
set_option maxHeartbeats 4000000
set_option maxRecDepth 100000
section
open Go.RowKit
def vJ(F:NP)(w:World)(P:NP)(c s:Nat)(G:GA)(l:List Nat):Prop :=
 ∃(d sb:Nat) (bvs:List Value) (Pd:NP) (b2:Nat) (C:CaA),CaR F w d c sb bvs Pd C/\vR C/\zB9 C G/\G.cost<=1000000/\SpR w s b2 l/\(∀k,P k ↔ (caF c sb Pd k\/spF s b2 k))/\∀k,caF c sb Pd k->¬ spF s b2 k
def zCb(F P:NP)(ad:Nat->Addr)(w:World)(c s:Nat)(G':GA)(l':List Nat)(R:(NP)->World->Ending->Prop)(e:Ending)(w':World):Prop :=
 ∃P' F',vJ F' w' P' c s G' l'/\zU P P' F F' ad w w'/\R F' w' e
def GA.check(G:GA)(id:Int):Option Err:=if id<0\/(G.blocks:Int)<=id then some ([zBq id],2) else none
def GA.get(G:GA)(id:Int):yF ⊕ Err :=
 match G.check id with
 | some e=>.inr e
 | none=>match G.view id.toNat with
  | some (.inl p)=>.inl p
  | some (.inr (l,k))=>.inr (-1 :: l,k)
  | none=>.inr ([],0)
def GA.knows(G:GA)(id:Int):Prop:=G.check id=none->∃r,G.view id.toNat=some r
section
variable {P P' F F':NP}{ad:Nat->Addr}{w w':World}{c s:Nat}{G G':GA}{l l':List Nat}{R:(NP)->World->Ending->Prop}
theorem zU.iff{Q Q':NP}(n:zU P P' F F' ad w w')(h:∀k,Q k ↔ P k)(h':∀k,Q' k ↔ P' k):zU Q Q' F F' ad w w' :=
 ⟨⟨n.stp.mods.mono (λk hk=>(h k).2 hk),λk hk hq=>(h k).2 (n.stp.old k hk ((h' k).1 hq)),λk hq=>n.stp.bd k ((h' k).1 hq)⟩,λk hq=>n.sub k ((h' k).1 hq),n.grow,n.oldF,n.env⟩
theorem vJ.at(h:vJ F w P c s G l)(m:zG w w'):vJ F w' P c s G l:=by
 obtain⟨d,sb,bvs,Pd,b2,C,h1,h2,h3,h4,h5,h6,h7⟩:=h;exact⟨d,sb,bvs,Pd,b2,C,h1.at m,h2,h3,h4,h5.mods m (λf=>f) (λf=>f),h6,h7⟩
theorem vJ.bd(h:vJ F w P c s G l):Bd P w:=λk hk=>by
 obtain⟨d,sb,bvs,Pd,b2,C,h1,h2,h3,h4,h5,h6,h7⟩:=h;rcases (h6 k).1 hk with hk|rfl|rfl
 .exact h1.bdP k hk
 .exact h5.own.lt
 .exact h5.row.lt
theorem vJ.step{d sb sb' b2:Nat}{bvs':List Value}{Pd Pd':NP}{C':CaA}(hL:yE F ad w)(hP:∀k,P k->F k)(h5:SpR w s b2 l)(h6:∀k,P k ↔ (caF c sb Pd k\/spF s b2 k))(h7:∀k,caF c sb Pd k->¬ spF s b2 k)
  (hC:CaR F' w' d c sb' bvs' Pd' C') (hI:vR C') (hG:zB9 C' G') (hco:G'.cost<=1000000) (n:zU (caF c sb Pd) (caF c sb' Pd') F F' ad w w') :
  ∃P',vJ F' w' P' c s G' l/\zU P P' F F' ad w w':=by
 have hns:¬ caF c sb Pd s:=λf=>h7 s f (.inl rfl)
 have hnb:¬ caF c sb Pd b2:=λf=>h7 b2 f (.inr rfl)
 have q:=n.part (Q:=spF s b2) (λk hk=>hP k ((h6 k).2 (.inr hk))) hL;refine⟨λk=>caF c sb' Pd' k\/spF s b2 k,⟨d,sb',bvs',Pd',b2,C',hC,hI,hG,hco,h5.mods n.stp.mods hns hnb,λk=>pB,λk hk hs=>?_⟩,q.iff h6 (λk=>pB)⟩;rcases hs with rfl|rfl
 .exact n.not h5.own.lt hns hk
 .exact n.not h5.row.lt hnb hk
theorem vJ.lim(h:vJ F w P c s G l):8<=G.blocks/\G.blocks<=256/\256<=G.size/\G.size<=1024/\8<=l.length/\l.length<=256:=by
 obtain⟨d,sb,bvs,Pd,b2,C,h1,h2,h3,h4,h5,h6,h7⟩:=h;exact⟨h3.blocks ▸ h2.b8,h3.blocks ▸ h2.b256,h3.size ▸ h2.s256,h3.size ▸ h2.s1024,h5.len,h5.len2⟩
theorem zSf{C:CaA}(h:zB9 C G)(id:Int)(hk:G.knows id):C.get id=G.get id:=by
 unfold CaA.get GA.get;have e:C.check id=G.check id:=by unfold CaA.check GA.check;rw[h.blocks]
 rw[e];cases hc:G.check id with
 | some e=>rfl
 | none =>
  obtain⟨r,hr⟩:=hk hc;simp only[hr];rw[h.view _ r hr];rcases r with p|⟨a,b⟩ <;> rfl
theorem zSP(hL:yE F ad w)(hP:∀k,P k->F k)(h:vJ F w P c s G l)(id:Int)(hk:G.knows id) :
  Calls Tryz.prog 329 #[.pointer (some ⟨c,0,none⟩),.int .i64 id] w (zCb F P ad w c s G l (λF' w' e=>zN8 F' ad w' (G.get id) e)):=by
 obtain⟨d,sb,bvs,Pd,b2,C,h1,h2,h3,h4,h5,h6,h7⟩:=h;refine (zOu hL (λk hk=>hP k ((h6 k).2 (.inl hk))) h1 h2 (uT h3.cost h4) id).mono ?_;rintro e w' ⟨bvs',Pd',F',C',k1,k2,k3,k4⟩;obtain⟨P',q1,q2⟩:=vJ.step hL hP h5 h6 h7 k1 k2.inv (k2.rel h3) h4 k3;exact⟨P',F',q1,q2,by rw[<- zSf h3 id hk];exact k4⟩
theorem zSQ(hL:yE F ad w)(hP:∀k,P k->F k)(h:vJ F w P c s G l)(p:yF)(bv:Value)(hb:Sl F w 1 zO bv p.body)(hg:p.gen<18446744073709551616)(hid:0<=p.id/\p.id<G.blocks)(hpc:qC p G.size=none)(hco:G.cost<1000000) :
  Calls Tryz.prog 277 #[.pointer (some ⟨c,0,none⟩),qF p bv] w (zCb F P ad w c s (G.put p) l (λ_ _ e=>e=.returned .nilIface)):=by
 obtain⟨d,sb,bvs,Pd,b2,C,h1,h2,h3,h4,h5,h6,h7⟩:=h;refine (zOv hL (λk hk=>hP k ((h6 k).2 (.inl hk))) h1 h2 (uT h3.cost h4) p bv hb hg).mono ?_;rintro e w' ⟨bvs',Pd',F',C',ev,rfl,k1,k3,k4,k5⟩;have hE:C.putE p=none:=by
  unfold CaA.putE CaA.check;rw[if_neg (by rw[h3.blocks];omega),h3.size];simp only[hpc];rfl
 rcases k5 with ⟨_,_,_,hI,hR⟩|⟨hne,_⟩
 .obtain⟨P',q1,q2⟩:=vJ.step hL hP h5 h6 h7 k1 hI (hR G h3) (by show G.cost+1<=_;omega) k3;rw[hE] at k4;cases k4
  exact⟨P',F',q1,q2,rfl⟩
 .exact absurd hE hne
theorem zQa(hL:yE F ad w)(hP:∀k,P k->F k)(h:vJ F w P c s G l)(id:Nat) :
  Calls Tryz.prog 344 #[.pointer (some ⟨c,0,none⟩),.int .i64 (id:Int)] w (zCb F P ad w c s (G.drop id) l (λ_ _ e=>∃b,e=.returned (.bool b))):=by
 obtain⟨d,sb,bvs,Pd,b2,C,h1,h2,h3,h4,h5,h6,h7⟩:=h;refine (zM5 hL (λk hk=>hP k ((h6 k).2 (.inl hk))) h1 h2 id).mono ?_;rintro e w' ⟨b,bvs',C',rfl,k1,k3,k4,_,_,k5⟩;obtain⟨P',q1,q2⟩:=vJ.step hL hP h5 h6 h7 k1 k4 (k5 G h3) h4 k3;exact⟨P',F,q1,q2,b,rfl⟩
theorem zTl{F:NP}{d sb:Nat}{bvs:List Value}{Pd:NP}{C:CaA}(h:CaR F w d c sb bvs Pd C):∀p∈C.disk.waiting,p.1<C.disk.blocks:=by
 obtain⟨bl,gs,ws,wv,kv,h1,h2⟩:=h.disk;intro p hp;obtain⟨j,hj,e⟩:=wI hp;have hw:j<ws.length:=by rw[h1.lenW];exact hj
 exact (h1.wrow j _ p (uA hw) (by rw[<- e];exact uA hj)).1
theorem vJ.space(hL:yE F ad w)(hP:∀k,P k->F k){d sb b2:Nat}{bvs:List Value}{Pd:NP}{C:CaA}(h1:CaR F w d c sb bvs Pd C)(h2:vR C)(h3:zB9 C G)(h4:G.cost<=1000000)(h6:∀k,P k ↔ (caF c sb Pd k\/spF s b2 k))(h7:∀k,caF c sb Pd k->¬ spF s b2 k)
  (h5:SpR w' s b2 l') (m:zA (spF s b2) w w'):vJ F w' P c s G l'/\zU P P F F ad w w' :=
 ⟨⟨d,sb,bvs,Pd,b2,C,h1.far m h7 (λk hk=>hP k ((h6 k).2 (.inr hk))),h2,h3,h4,h5,h6,h7⟩,zU.same hL hP (m.mono (λk hk=>(h6 k).2 (.inr hk)))⟩
def zS9(ad:Nat->Addr)(l:List Nat)(F':NP)(w':World)(e:Ending):Prop :=
 (∃i,qN l=some i/\i<l.length/\e=.returned (.tuple #[.int .i64 (i:Int),.nilIface]))\/(qN l=none/\∃f,e=.returned (.tuple #[.int .i64 0,zI f])/\yN F' ad w' (zI f) [-1] 3)
def zBG(l:List Nat):List Nat:=match qN l with|some i=>l.set i 2|none=>l
theorem zM7(hL:yE F ad w)(hP:∀k,P k->F k)(h:vJ F w P c s G l) :
  Calls Tryz.prog 343 #[.pointer (some ⟨s,0,none⟩)] w (zCb F P ad w c s G (zBG l) (zS9 ad l)):=by
 obtain⟨d,sb,bvs,Pd,b2,C,h1,h2,h3,h4,h5,h6,h7⟩:=h;refine (zMt hL s b2 l h5).mono ?_;rintro e w' (⟨i,k1,k2,rfl,k3,k4⟩|⟨k1,f,rfl,k3,k4⟩)
 .obtain⟨q1,q2⟩:=vJ.space hL hP h1 h2 h3 h4 h6 h7 k3 k4;exact⟨P,F,by unfold zBG;rw[k1];exact q1,q2,.inl ⟨i,k1,k2,rfl⟩⟩
 .have q:=zU.ext hL hP k4;exact⟨P,F,by unfold zBG;rw[k1];exact⟨d,sb,bvs,Pd,b2,C,h1.at k4,h2,h3,h4,h5.mods k4 (λf=>f) (λf=>f),h6,h7⟩,q,.inr ⟨k1,f,rfl,k3⟩⟩
theorem zQb(hL:yE F ad w)(hP:∀k,P k->F k)(h:vJ F w P c s G l)(id:Int) :
  Calls Tryz.prog 345 #[.pointer (some ⟨s,0,none⟩),.int .i64 id] w (zCb F P ad w c s G (yZ l id).1 (λF' w' e=>∃ev,e=.returned ev/\zCa F' ad w' ev (yZ l id).2)):=by
 obtain⟨d,sb,bvs,Pd,b2,C,h1,h2,h3,h4,h5,h6,h7⟩:=h;refine (zQK hL s b2 l h5 id).mono ?_;rintro e w' ⟨ev,rfl,k1,k2,k3⟩;obtain⟨q1,q2⟩:=vJ.space hL hP h1 h2 h3 h4 h6 h7 k2 k3;exact⟨P,F,q1,q2,ev,rfl,k1⟩
theorem zQc(h:vJ F w P c s G l):∃d,Hid (vJ F w P c s G l)/\(Calls Tryz.prog 341 #[.pointer (some ⟨c,0,none⟩)] w λe w'=>e=.returned (.pointer (some ⟨d,0,none⟩))/\w=w') /\
  (∀w',zG w w' -> Calls Tryz.prog 90 #[.pointer (some ⟨d,0,none⟩)] w' λe w''=>e=.returned (.agg #[.int .i64 G.blocks,.int .i64 G.size])/\zG w' w''):=by
 have H:=oh h;obtain⟨d,sb,bvs,Pd,b2,C,h1,h2,h3,h4,h5,h6,h7⟩:=h;refine⟨d,H,zM3 h1,λw' m=>?_⟩;rw[<- h3.blocks,<- h3.size];exact (h1.disk.at m).geo
end
def pgV(c s gen:Nat):Value:=.agg (gP c s gen)
def zAx(n:Int):Option Err:=if n<=24\/4096<n then some ([-1],2) else none
def zCc:List Nat->List Nat->Prop
 | _,[]=>True
 | l,id :: r=>(yZ l id).2=none/\zCc (yZ l id).1 r
def jN:List Nat->List Nat->List Nat
 | l,[]=>l
 | l,id :: r=>jN (yZ l id).1 r
def zAA:GA->List Nat->GA
 | G,[]=>G
 | G,id :: r=>zAA (G.drop id) r
theorem zHv:∀(r:List Nat) (G:GA) (id:Nat),zAA G (r++[id])=(zAA G r).drop id
 | [],_,_=>rfl
 | x :: r,G,id=>by rw[wX,zAA,zHv r,zAA]
theorem zFV:∀(r:List Nat) (l:List Nat) (id:Nat),jN l (r++[id])=(yZ (jN l r) id).1
 | [],_,_=>rfl
 | x :: r,l,id=>by rw[wX,jN,zFV r,jN]
theorem zJJ:∀(r:List Nat) (l:List Nat) (k id:Nat),zCc l r->r[k]? = some id->(yZ (jN l (r.take k)) id).2=none
 | [],_,k,_,_,h=>by simp at h
 | x :: r,l,0,id,h,hk=>by simp at hk;subst hk;exact h.1
 | x :: r,l,k+1,id,h,hk=>by
  rw[nV,jN];exact zJJ r _ k id h.2 (by simpa using hk)
def zAy:Nat->List Nat->Option (List Nat × List Nat)
 | 0,l=>some ([],l)
 | n+1,l=>match qN l with
  | none=>none
  | some i=>match zAy n (l.set i 2) with
   | none=>none
   | some (ids,l')=>some (i :: ids,l')
section
variable {P P' F F':NP}{ad:Nat->Addr}{w w':World}{c s:Nat}{G G':GA}{l l':List Nat}
theorem zFW(h:vJ F w P c s G l)(gen:Nat) : Calls Tryz.prog 353 #[pgV c s gen] w λe w'=>e=.returned (.int .i64 (G.size:Int))/\zG w w':=by
 unfold pgV;have m0:zG w (w.alloc (gP c s gen)):=(zss w).alloc _;obtain⟨d,HH,h1,h2⟩:=zQc (h.at m0);have gf1:=Tryz.geoF1;have H1:=oh h1;have H2:=oh h2;have M0:=oh m0;clear h1 h2 h m0
 go_enter Tryz.func353, Tryz.ntmps353
 go_wp2_with fail;refine H1.out.mono ?_;rintro e w1 ⟨rfl,rfl⟩;go_wp2_with fail;refine (H2.out _ zr).mono ?_;rintro e w2 ⟨rfl,hm⟩;have HM:=oh hm;clear hm;go_wp2_with fail;go_ret;exact⟨rfl,M0.out.trans HM.out⟩
theorem zEY(hL:yE F ad w)(op:ByteArray)(gen:Nat)(n:Int) : Calls Tryz.prog 330 #[.string op,pgV c s gen,.int .i64 n] w λe w'=>∃ev,e=.returned ev/\zCa F ad w' ev (zAx n)/\zG w w':=by
 unfold pgV;have m0:zG w (w.alloc (gP c s gen)):=(zss w).alloc _;have hL0:=hL.mods m0.ext;have g2:=hL.c2;have hsz:=hL.size;have g2' : 0 < w.heap.size:=by omega
 have HL:=oh hL0;have M0:=oh m0;clear hL hL0 m0;by_cases h1:n<=24
 .have HR:Hid (zAx n=some ([-1],2)):=oh (by unfold zAx;rw[if_pos (.inl h1)])
  go_enter Tryz.func330, Tryz.ntmps330
  go_wp2_with fail;refine (yR HL.out _ _ [] 2 (.sent 2 (by decide) (by decide))).mono ?_;rintro e w1 ⟨f,rfl,hE,hm⟩;have HE:=oh hE;have HM:=oh hm;clear hE hm;go_wp2_with fail;go_ret;exact⟨_,rfl,by rw[HR.out];exact⟨f,rfl,HE.out⟩,M0.out.trans HM.out⟩
 .by_cases h2:4096<n
  .have HR:Hid (zAx n=some ([-1],2)):=oh (by unfold zAx;rw[if_pos (.inr h2)])
   go_enter Tryz.func330, Tryz.ntmps330
   go_wp2_with fail;refine (yR HL.out _ _ [] 2 (.sent 2 (by decide) (by decide))).mono ?_;rintro e w1 ⟨f,rfl,hE,hm⟩;have HE:=oh hE;have HM:=oh hm;clear hE hm;go_wp2_with fail;go_ret;exact⟨_,rfl,by rw[HR.out];exact⟨f,rfl,HE.out⟩,M0.out.trans HM.out⟩
  .have HR:Hid (zAx n=none):=oh (by unfold zAx;rw[if_neg (by omega)])
   go_enter Tryz.func330, Tryz.ntmps330
   go_wp2_with fail;go_ret;exact⟨_,rfl,by rw[HR.out];rfl,M0.out⟩
end
def zIw(n:Nat):List Value:=[.int .i64 (n:Int)]
theorem zKP:zCg zIw 1:=⟨λ_=>rfl,by intro x u hu;simp[zIw] at hu;subst hu;rfl⟩
theorem Tryz.elI:ElT Tryz.prog 78 3 (.int .i64 0) 1 8:=⟨Tryz.underlying78,Tryz.mkI,rfl,by decide,by decide⟩
theorem yC{P:Program}{α:Type}{F G:NP}{w:World}{t e:TypeId}{z:Value}{sz bytes:Nat}{enc:α->List Value}(T:ElT P t e z sz bytes)(E:zCg enc sz)
  {ops:Array Oper} {rest:List Oper} {o:Oper} {a:Act} {Q:Exit->Act->World->Prop} (hgd:o.guard=none) (sx x:Operand)
  (ho:o.op=.call { callee:=.builtin .append,args:=#[sx,x],argTypes:=#[t,t] })
  (base:Nat) (v s:Value) (l m:List α) (hv:a.eval sx=v) (hx:a.eval x=s) (hown:yA F w base e sz enc v l) (hs:Sl G w sz enc s m) (hb:(l.length+m.length) * bytes<=140737488355328) (hbase:base<=w.heap.size) (hn:¬ F w.heap.size)
  (h:∀a' c' w',yA F w' base e sz enc (.slice a' (l.length+m.length) c') (l++m)->zA (λk=>v.ownBlock=some k) w w' ->
   ((Value.slice a' (l.length+m.length) c').ownBlock=v.ownBlock\/(Value.slice a' (l.length+m.length) c').ownBlock=some w.heap.size)->wpList P ops Q rest (a.put o.dst (.slice a' (l.length+m.length) c')) w') :
  wpList P ops Q (o :: rest) a w:=by
 obtain⟨i,hi,hz,hs1,hb1⟩:=zE8 T.info;refine zE7 hgd sx x t ho base e i z sz bytes T.under hi hz hs1 hb1 T.zs T.sz0 enc E.len E.one v s l m hv hx hown hs hb T.by0 hbase hn ?_;intro a' c' w' h1 h2 h3;exact h a' c' w' h1 (zA.of_grown h2) h3
def zCy{α:Type}(w0:World)(F P:NP)(w:World)(e:TypeId)(sz:Nat)(enc:α->List Value)(v:Value)(l:List α):Prop :=
 yA (λ_=>False) w w0.heap.size e sz enc v l/\∀g,v.ownBlock=some g->F g/\¬ P g
section
variable {α:Type}{P0 P P' F0 F F':NP}{ad:Nat->Addr}{w0 w w':World}{c s:Nat}{G G':GA}{l l':List Nat}{e:TypeId}{sz:Nat}{enc:α->List Value}{v v':Value}{x x':List α}
theorem zCy.nxt(h:zCy w0 F P w e sz enc v x)(n:zU P P' F F' ad w w'):zCy w0 F' P' w' e sz enc v x :=
 ⟨h.1.mods n.stp.mods (λg hg=>(h.2 g hg).2),λg hg=>⟨n.grow g (h.2 g hg).1,n.not (h.1.lt g hg).2 (h.2 g hg).2⟩⟩
theorem zCy.ext(h:zCy w0 F P w e sz enc v x)(m:zG w w'):zCy w0 F P w' e sz enc v x:=⟨h.1.ext m,h.2⟩
theorem zCy.nil(w0:World)(F P:NP)(w:World)(e:TypeId)(sz:Nat)(enc:α->List Value):zCy w0 F P w e sz enc (.slice none 0 0) ([]:List α) :=
 ⟨yA.nil _ _ _ _ _ _,λg hg=>by simp[Value.ownBlock] at hg⟩
def zDY(F:NP)(v:Value):NP:=λk=>F k\/v.ownBlock=some k
theorem zCy.app(n:zU P0 P F0 F ad w0 w)(h:zCy w0 F P w e sz enc v x)(ho:yA (λ_=>False) w' w0.heap.size e sz enc v' x')(m:zA (λk=>v.ownBlock=some k) w w'){K:Nat}(hat:v'.ownBlock=v.ownBlock\/v'.ownBlock=some K)(hK:w.heap.size<=K) :
  zU P0 P F0 (zDY F v') ad w0 w'/\zCy w0 (zDY F v') P w' e sz enc v' x':=by
 have hv:=λg (hg:v.ownBlock=some g)=>h.1.lt g hg
 have hb:∀k,v'.ownBlock=some k->k<w'.heap.size:=λk hk=>(ho.lt k hk).2
 have h0:∀k,v'.ownBlock=some k->w0.heap.size<=k:=λk hk=>(ho.lt k hk).1
 refine⟨⟨⟨n.stp.mods.trans' m (λi hi e=>by have:=(hv i e).1;omega),n.stp.old,λk hk=>uG (n.stp.bd k hk) m.size⟩,λk hk=>.inl (n.sub k hk),λk hk=>.inl (n.grow k hk),λk hk hf=>?_,?_⟩,ho,λg hg=>⟨.inr hg,?_⟩⟩
 .rcases hf with hf|hf
  .exact n.oldF k hk hf
  .have:=h0 k hf;omega
 .exact n.env.step (m.mono (λk hk=>(h.2 k hk).1)) (λk hk hn hf=>by
   rcases hf with hf|hf
   .exact hn hf
   .rcases hat with e|e
    .exact hn (h.2 k (e ▸ hf)).1
    .rw[e] at hf;injection hf with hf;omega) (λk hf=>hf.elim (λhf=>uG (n.env.lt k hf) m.size) (hb k))
 .rcases hat with e|e
  .exact (h.2 g (e ▸ hg)).2
  .rw[e] at hg;injection hg with hg;exact λhp=>by have:=n.stp.bd g hp;omega
theorem CaR.plus{d sb:Nat}{bvs:List Value}{Pd:NP}{C:CaA}(h:CaR F w d c sb bvs Pd C){Q:NP}(m:zA Q w w')(hQ:∀k,caF c sb Pd k->¬ Q k)(hF:∀k,Q k->F k)(hG:∀k,k<w.heap.size->¬ F k->¬ F' k):CaR F' w' d c sb bvs Pd C :=
 ⟨h.own.mods m (hQ c (.inr (.inl rfl))),h.row.at m (hQ sb (.inr (.inr rfl))),h.lenB,h.n64,λi s bv h1 h2=>(h.body i s bv h1 h2).step (m.mono hF) hG,h.disk.far m (λk hk=>hQ k (.inl hk)),h.cd,h.sd,h.ne⟩
theorem vJ.plus(h:vJ F w P c s G l){Q:NP}(m:zA Q w w')(hQ:∀k,P k->¬ Q k)(hF:∀k,Q k->F k)(hG:∀k,k<w.heap.size->¬ F k->¬ F' k):vJ F' w' P c s G l:=by
 obtain⟨d,sb,bvs,Pd,b2,C,h1,h2,h3,h4,h5,h6,h7⟩:=h;exact⟨d,sb,bvs,Pd,b2,C,h1.plus m (λk hk=>hQ k ((h6 k).2 (.inl hk))) hF hG,h2,h3,h4,h5.mods m (hQ s ((h6 s).2 (.inr (.inl rfl)))) (hQ b2 ((h6 b2).2 (.inr (.inr rfl)))),h6,h7⟩
theorem vJ.app(hp:vJ F w P c s G l)(h:zCy w0 F P w e sz enc v x)(m:zA (λk=>v.ownBlock=some k) w w'){K:Nat}(hat:v'.ownBlock=v.ownBlock\/v'.ownBlock=some K)(hK:w.heap.size<=K):vJ (zDY F v') w' P c s G l :=
 hp.plus m (λk hk e=>(h.2 k e).2 hk) (λk hk=>(h.2 k hk).1) (λk hk hn hf=>by
  rcases hf with hf|hf
  .exact hn hf
  .rcases hat with e|e
   .exact hn (h.2 k (e ▸ hf)).1
   .rw[e] at hf;injection hf with hf;omega)
end
section
variable {P P' F F':NP}{ad:Nat->Addr}{w w':World}{c s:Nat}{G G':GA}{l l':List Nat}
theorem zHw(hL:yE F ad w)(hP:∀k,P k->F k)(h:vJ F w P c s G l)(gen:Nat)(iv:Value)(ids:List Nat)(hi:Sl P w 1 zIw iv ids)(hok:zCc l ids) :
  Calls Tryz.prog 335 #[pgV c s gen,iv] w (zCb F P ad w c s (zAA G ids) (jN l ids) (λ_ _ e=>e=.returned .nilIface)):=by
 unfold pgV;obtain⟨a,cap,rfl,i1,i2,i3,i4⟩:=_root_.id hi;unfold maxLen at i2;have m0:zG w (w.alloc (gP c s gen)):=(zss w).alloc _;have HN0:Hid (¬ P w.heap.size):=oh (λf=>by have:=h.bd _ f;omega);have HB0:=oh (zK.new w (gP c s gen) 140);have HX0:=oh (zU.ext hL hP m0);have HG0:=oh (h.at m0);have HI0:=oh hi;have HOK:=oh hok;have HZ:Hid (w.heap.size<(w.alloc (gP c s gen)).heap.size):=oh (by simp);obtain⟨n,hn⟩:∃n,n=ids.length:=⟨_,rfl⟩;rw[<- hn] at i1 i3 ⊢;have HN:=oh hn;have H4:=oh i4;clear hL hP h hi m0 i4 hok hn
 go_enter Tryz.func335, Tryz.ntmps335
 go_wp2_with fail;go_loopg [10] n (λm v wr=>∃(k:Nat) (P1 F1:NP),k+m=n/\v=.int .i64 k/\Hid (vJ F1 wr P1 c s (zAA G (ids.take k)) (jN l (ids.take k))/\zU P P1 F F1 ad w wr/\zK wr w.heap.size (gP c s gen) 140 /\ ¬ P1 w.heap.size))
 case atStart=>exact⟨0,P,F,by omega,rfl,oh ⟨HG0.out,HX0.out,HB0.out,HN0.out⟩⟩
 case round =>
  obtain⟨k,P1,F1,hk,rfl,HW⟩:=hrel;by_cases hlt:k<n
  .obtain⟨hW1,hW2,hW3,hW4⟩:=HW.out;obtain⟨id,hid⟩:∃id,ids[k]? = some id:=⟨_,uA (by rw[<- HN.out];exact hlt)⟩;obtain⟨b,off,ha,hb,hF,hc⟩:=Sl.at (G:=P) H4.out hW2.stp.mods (λ_ _ h=>h) k (by rw[<- HN.out];exact hlt);subst ha;have c0:=hc 0 (.int .i64 (id:Int)) (by have:=(uB.1 hid).2;rw[this];rfl);simp only[uY,uO] at c0;have r0:=hW3.d 0 (.pointer (some ⟨c,0,none⟩)) rfl;have r1:=hW3.d 1 (.pointer (some ⟨s,0,none⟩)) rfl;have HID:=oh hid;have HT:Hid (ids.take (k+1)=ids.take k++[id]):=oh (qD _ _ _ hid);have HGV:Hid ((yZ (jN l (ids.take k)) id).2=none):=oh (zJJ ids l k id HOK.out hid);have h1:(0:Int)<=(k:Int):=by omega
   have h2:(k:Int)<(n:Int):=by omega
   clear hid hc hW1 hW2 hW3 hW4;go_wp2_with fail;refine (zQb HW.out.2.1.env HW.out.2.1.sub HW.out.1 id).mono ?_;rintro e w2 ⟨P2,F2,hG2,hN2,ev,rfl,hE⟩;rw[HGV.out] at hE;cases hE
   have HG2:=oh hG2;have HN2:=oh hN2;have HB2:=oh (hN2.blk HW.out.2.2.1 HW.out.2.2.2);have HP2:Hid (¬ P2 w.heap.size):=oh (hN2.not HW.out.2.2.1.lt HW.out.2.2.2);have s0:=HB2.out.d 0 (.pointer (some ⟨c,0,none⟩)) rfl;clear hG2 hN2 r0 r1 c0;go_wp2_with fail;refine (zQa HN2.out.env HN2.out.sub HG2.out id).mono ?_;rintro e w3 ⟨P3,F3,hG3,hN3,bb,rfl⟩;have HNX:Hid (vJ F3 w3 P3 c s (zAA G (ids.take (k+1))) (jN l (ids.take (k+1)))/\zU P P3 F F3 ad w w3/\zK w3 w.heap.size (gP c s gen) 140 /\ ¬ P3 w.heap.size):=oh (by
    rw[HT.out,zHv,zFV];exact⟨hG3,(HW.out.2.1.trans HN2.out).trans hN3,hN3.blk HB2.out HP2.out,hN3.not HB2.out.lt HP2.out⟩)
   clear hG3 hN3 s0;go_wp2_with fail;go_roundg (gk-1)
   case measure=>omega
   case rel=>exact⟨k+1,P3,F3,by omega,by go_num,HNX⟩
  .go_wp2_with fail;go_ret;have hT:ids.take k=ids:=wB (by have:=HN.out;omega);have hW:=HW.out;rw[hT] at hW;exact⟨P1,F1,hW.1,hW.2.1,rfl⟩
theorem zHx{l:List Nat}{i x id:Nat}(h:id≠i):yZ (l.set i x) id=((yZ l id).1.set i x,(yZ l id).2):=by
 unfold yZ;have e:vL (l.set i x) (id:Int)=vL l (id:Int):=by unfold vL;rw[tG]
 rw[e];cases vL l (id:Int) with
 | some e=>rfl
 | none =>
  simp only[uK];rw[wE (λe=>h e.symm)];split
  .simp only;rw[List.set_comm _ _ (λe=>h e.symm)]
  .split
   .simp only;rw[List.set_comm _ _ (λe=>h e.symm)]
   .rfl
theorem zJK:∀(a l:List Nat) (i x:Nat),i ∉ a->jN (l.set i x) a=(jN l a).set i x
 | [],_,_,_,_=>rfl
 | y :: a,l,i,x,h=>by
  have hy:y≠i:=λe=>h (e ▸ uH)
  rw[jN,zHx hy,zJK a _ i x (λhm=>h (uI _ hm)),jN]
theorem zHy:∀(a l:List Nat) (i x:Nat),i ∉ a->zCc l a->zCc (l.set i x) a
 | [],_,_,_,_,_=>trivial
 | y :: a,l,i,x,h,ho=>by
  have hy:y≠i:=λe=>h (e ▸ uH)
  rw[zCc,zHx hy];exact⟨ho.1,zHy a _ i x (λhm=>h (uI _ hm)) ho.2⟩
theorem zG2:∀(a l:List Nat) (i:Nat),zCc l a->(yZ (jN l a) i).2=none->zCc l (a++[i])
 | [],_,_,_,h=>⟨h,trivial⟩
 | _ :: a,_,i,ho,h=>⟨ho.1,zG2 a _ i ho.2 h⟩
theorem zHz{l:List Nat}{id i:Nat}(h:i≠id):(yZ l id).1[i]? = l[i]?:=by
 unfold yZ;split
 .rfl
 .split
  .simp only[uK];rw[wE (λe=>h e.symm)]
  .split
   .simp only[uK];rw[wE (λe=>h e.symm)]
   .rfl
theorem zJL:∀(a l:List Nat) (i:Nat),i ∉ a->(jN l a)[i]? = l[i]?
 | [],_,_,_=>rfl
 | y :: a,l,i,h=>by
  have hy:i≠y:=λe=>h (e ▸ uH)
  rw[jN,zJL a _ i (λhm=>h (uI _ hm)),zHz hy]
theorem zKQ{l:List Nat}{i:Nat}(h2:2<=i)(hi:i<l.length):yZ (l.set i 2) i=((l.set i 2).set i 0,none):=by
 unfold yZ;have e:vL (l.set i 2) (i:Int)=none:=by unfold vL;rw[tG,if_neg (by omega)]
 rw[e];simp only[uK];rw[wZ hi,if_pos rfl]
theorem zCy.slP{α:Type}{w0:World}{e:TypeId}{sz:Nat}{enc:α->List Value}{v:Value}{x:List α}(h:zCy w0 F P w e sz enc v x)(henc:∀y,(enc y).length=sz)(hl:x.length<=140737488355328):Sl P w sz enc v x :=
 yA.sl (F:=P) ⟨h.1.1,λg hg=>(h.2 g hg).2⟩ henc hl
structure zFA(l:List Nat)(a:List Nat)(l1:List Nat):Prop where
 ok:zCc l1 a
 back:jN l1 a=l
 fresh:∀id∈a,l1[id]? = some 2
 len:l1.length=l.length
 two:∀id∈a,2<=id
 nd:a.Nodup
 same:∀i,i ∉ a->l1[i]? = l[i]?
theorem zFA.nil(l:List Nat):zFA l [] l:=⟨trivial,rfl,λ_ h=>by simp at h,rfl,λ_ h=>by simp at h,rX,λ_ _=>rfl⟩
theorem zAj{l:List Nat}{i:Nat}(h:qN l=some i):l[i]? = some 0/\i<l.length:=by
 unfold qN at h;rw[List.findIdx?_eq_some_iff_getElem] at h;obtain⟨h1,h2,_⟩:=h;exact⟨by rw[uA h1];simpa using h2,h1⟩
def zRp(l:List Nat):Prop:=l[0]? ≠ some 0/\l[1]? ≠ some 0
theorem zFA.step{l a l1:List Nat}{i:Nat}(h:zFA l a l1)(hok:zRp l)(hf:qN l1=some i):zFA l (a++[i]) (l1.set i 2)/\l[i]? = some 0:=by
 obtain⟨h0,hi⟩:=zAj hf;have hia:i ∉ a:=λhm=>by have:=h.fresh i hm;rw[h0] at this;cases this
 have hl0:l[i]? = some 0:=by rw[<- h.back,zJL a l1 i hia];exact h0
 have h2:2<=i:=by
  rcases p9 i 2 with hlt|hge
  .obtain rfl|rfl:i=0\/i=1:=by omega
   .exact absurd hl0 hok.1
   .exact absurd hl0 hok.2
  .exact hge
 have hil:i<l.length:=by rw[<- h.len];exact hi
 have e1:jN (l1.set i 2) a=l.set i 2:=by rw[zJK a l1 i 2 hia,h.back]
 have e2:=zKQ (l:=l) h2 hil;refine⟨⟨zG2 a _ i (zHy a l1 i 2 hia h.ok) (by rw[e1,e2]),?_,λid hid=>?_,by rw[tG];exact h.len,λid hid=>?_,?_,λj hj=>?_⟩,hl0⟩
 .rw[zFV,e1,e2];simp only;rw[List.set_set];apply List.ext_getElem?
  intro j;by_cases e:j=i
  .subst e;rw[wZ hil,hl0]
  .rw[wE (λe'=>e e'.symm)]
 .rw[uN] at hid;rcases hid with hid|hid
  .rw[wE (λ(e:i=id)=>hia (by rw[e];exact hid))];exact h.fresh id hid
  .simp at hid;subst hid;rw[wZ hi]
 .rw[uN] at hid;rcases hid with hid|hid
  .exact h.two id hid
  .simp at hid;omega
 .rw[wG];exact⟨h.nd,by simp,λx hx y hy e=>by simp at hy;exact hia (by rw[<- hy,<- e];exact hx)⟩
 .rw[uN] at hj;have:j≠i:=λe=>hj (.inr (by simp[e]))
  rw[wE (λe=>this e.symm)];exact h.same j (λhm=>hj (.inl hm))
def zCV(F P:NP)(ad:Nat->Addr)(w:World)(c s:Nat)(G:GA)(l:List Nat)(n:Nat)(e:Ending)(w':World):Prop :=
  ∃(P' F':NP) (G':GA) (l':List Nat),vJ F' w' P' c s G' l'/\zU P P' F F' ad w w' /\
    ((∃ (ids : List Nat) (iv : Value), zAy n l = some (ids, l') /\ zFA l ids l' /\ ids.length = n /\ G' = G /\ e = .returned (.tuple #[iv, .nilIface]) /\ Sl P' w' 1 zIw iv ids) \/
     (∃(a:List Nat) (f:Nat),zAy n l=none/\l'=l/\G'=zAA G a/\(∀id∈a,l[id]? = some 0)/\e=.returned (.tuple #[.slice none 0 0,zI f])/\yN F' ad w' (zI f) [-1] 3))
theorem zU.slP{α:Type}{sz:Nat}{enc:α->List Value}{v:Value}{x:List α}(n:zU P P' F F' ad w w')(h:Sl P w sz enc v x):Sl P' w' sz enc v x:=h.step n.stp.mods (λk hk hn h'=>hn (n.stp.old k hk h'))
theorem zLI(hL:yE F ad w)(hP:∀k,P k->F k)(h:vJ F w P c s G l)(gen n:Nat)(hn:n<=1000)(hok:zRp l) :
  Calls Tryz.prog 354 #[pgV c s gen,.int .i64 (n:Int)] w (zCV F P ad w c s G l n):=by
 unfold pgV;have m0:zG w (w.alloc (gP c s gen)):=(zss w).alloc _;have HN0:Hid (¬ P w.heap.size):=oh (λf=>by have:=h.bd _ f;omega);have HB0:=oh (zK.new w (gP c s gen) 140);have HX0:=oh (zU.ext hL hP m0);have HG0:=oh (h.at m0);have HOK:=oh hok;clear hL hP h m0 hok
 go_enter Tryz.func354, Tryz.ntmps354
 go_wp2_with fail;go_loopg [6,10] n (λm iv v wr=>∃(k:Nat) (P1 F1:NP) (a l1:List Nat),k+m=n/\v=.int .i64 k/\Hid (vJ F1 wr P1 c s G l1/\zU P P1 F F1 ad w wr/\(zK wr w.heap.size (gP c s gen) 140 /\ ¬ P1 w.heap.size/\iv.ownBlock≠some w.heap.size) /\
  zCy w F1 P1 wr 3 1 zIw iv a/\zFA l a l1/\zAy n l=(zAy m l1).map (λp=>(a++p.1,p.2))/\a.length=k/\∀id∈a,l[id]? = some 0))
 case atStart=>exact⟨0,P,F,[],l,by omega,rfl,oh ⟨HG0.out,HX0.out,⟨HB0.out,HN0.out,by simp[Value.ownBlock]⟩,zCy.nil _ _ _ _ _ _ _,zFA.nil l,by cases zAy n l <;> rfl,rfl,λ_ h=>by simp at h⟩⟩
 case round =>
  obtain⟨k,P1,F1,a,l1,hk,rfl,HW⟩:=hrel;obtain⟨ia,icap,hiv,_⟩:=HW.out.2.2.2.1.1.form;subst hiv;have hak:a.length=k:=HW.out.2.2.2.2.2.2.1;by_cases hlt:k<n
  .have hB:=HW.out.2.2.1.1;have r0:=hB.d 0 (.pointer (some ⟨c,0,none⟩)) rfl;have r1:=hB.d 1 (.pointer (some ⟨s,0,none⟩)) rfl;have r2:=hB.d 2 (.int .u64 (gen:Int)) rfl;have HAK:=oh hak;clear hak hB;go_wp2_with fail;refine (zM7 HW.out.2.1.env HW.out.2.1.sub HW.out.1).mono ?_;rintro e w2 ⟨P2,F2,hG2,hN2,ht⟩;have HG2:=oh hG2;have HN2:=oh hN2;have HB2:=oh (hN2.blk HW.out.2.2.1.1 HW.out.2.2.1.2.1);have HP2:Hid (¬ P2 w.heap.size):=oh (hN2.not HW.out.2.2.1.1.lt HW.out.2.2.1.2.1);have HLoc2:=oh (HW.out.2.2.2.1.nxt hN2);have s0:=HB2.out.d 0 (.pointer (some ⟨c,0,none⟩)) rfl;have s1:=HB2.out.d 1 (.pointer (some ⟨s,0,none⟩)) rfl;have s2:=HB2.out.d 2 (.int .u64 (gen:Int)) rfl;have HA:Hid (a.length<=1000):=oh (by have:=HAK.out;omega);clear hG2 hN2 r0 r1 r2;rcases ht with ⟨i,hf,hi,rfl⟩|⟨hf,f,rfl,hE⟩
   .have HF:=oh hf;have HTk:=oh (HW.out.2.2.2.2.1.step HOK.out hf);have HST:Hid (zBG l1=l1.set i 2):=oh (by unfold zBG;rw[hf]);clear hf hi s0 s1 s2;go_wp2_with (at_builtin;refine yC Tryz.elI zKP rfl _ _ rfl w.heap.size (.slice ia a.length icap) (.slice (some ⟨w2.heap.size,0,none⟩) 1 1) a [i] rfl rfl (HLoc2.out.1.ext (zr.alloc _)) (Sl.one (F:=λ_=>False) (x:=i) (t := 3) (fz:=(0,0)) (zM rfl) (λf=>f)) (by have:=HA.out;simp;omega) (uT (HW.out.2.1.trans HN2.out).size (by simp)) (λf=>f) ?_;intro a' c' w4 hown hmod hat);have hx:=(HW.out.2.1.trans HN2.out).trans (zU.ext HN2.out.env HN2.out.sub ((zss w2).alloc (.cells #[.int .i64 (i:Int)] 3)));have hl:=HLoc2.out.ext ((zss w2).alloc (.cells #[.int .i64 (i:Int)] 3));obtain⟨j1,j2⟩:=zCy.app hx hl hown hmod hat (uJ _);have j3:=(HG2.out.at ((zss w2).alloc (.cells #[.int .i64 (i:Int)] 3))).app hl hmod hat (uJ _);have hBn:¬ (Value.slice ia a.length icap).ownBlock=some w.heap.size:=HW.out.2.2.1.2.2;have j4:=(HB2.out.alloc (.cells #[.int .i64 (i:Int)] 3)).mods hmod hBn;have HNX:Hid (vJ (zDY F2 (.slice a' (a.length + [i].length) c')) w4 P2 c s G (l1.set i 2)/\zU P P2 F (zDY F2 (.slice a' (a.length + [i].length) c')) ad w w4/\(zK w4 w.heap.size (gP c s gen) 140 /\ ¬ P2 w.heap.size/\(Value.slice a' (a.length + [i].length) c').ownBlock≠some w.heap.size) /\
      zCy w (zDY F2 (.slice a' (a.length + [i].length) c')) P2 w4 3 1 zIw (.slice a' (a.length + [i].length) c') (a++[i])/\zFA l (a++[i]) (l1.set i 2)/\zAy n l=(zAy (gk-1) (l1.set i 2)).map (λp=>(a++[i]++p.1,p.2))/\(a++[i]).length=k+1/\∀id∈a++[i],l[id]? = some 0):=oh (by
     refine⟨by rw[<- HST.out];exact j3,j1,⟨j4,HP2.out,λe=>?_⟩,j2,HTk.out.1,?_,by simp[HAK.out],λid hid=>?_⟩
     .rcases hat with e2|e2
      .exact hBn (e2 ▸ e)
      .rw[e2] at e;injection e with e;have:=HB2.out.lt;simp at e;omega
     .rw[HW.out.2.2.2.2.2.1];obtain⟨m,rfl⟩:∃m,gk=m+1:=⟨gk-1,by omega⟩;rw[zAy,HF.out];simp only[tN];cases zAy m (l1.set i 2) with
      | none=>rfl
      | some p=>simp
     .rw[uN] at hid;rcases hid with hid|hid
      .exact HW.out.2.2.2.2.2.2.2 id hid
      .simp at hid;subst hid;exact HTk.out.2)
    clear hown hmod hat hx hl j1 j2 j3 j4 hBn;go_wp2_with fail;go_roundg (gk-1)
    case measure=>omega
    case rel=>exact⟨k+1,P2,zDY F2 (.slice a' (a.length + [i].length) c'),a++[i],l1.set i 2,by omega,by go_num,HNX⟩
   .have HF:=oh hf;have HE:=oh hE;have HST:Hid (zBG l1=l1):=oh (by unfold zBG;rw[hf]);clear hf hE;go_wp2_with fail;refine (zHw HN2.out.env HN2.out.sub (HST.out ▸ HG2.out) gen (.slice ia a.length icap) a (HLoc2.out.slP zKP.len (by have:=HA.out;omega)) HW.out.2.2.2.2.1.ok).mono ?_;rintro e w3 ⟨P3,F3,hG3,hN3,rfl⟩;have HG3:=oh hG3;have HN3:=oh hN3;have HE3:=oh (hN3.errc HN2.out.sub HE.out);clear hG3 hN3;go_wp2_with fail;go_ret2
    refine⟨P3,F3,_,_,HG3.out,(HW.out.2.1.trans HN2.out).trans HN3.out,.inr ⟨a,f,?_,HW.out.2.2.2.2.1.back,rfl,HW.out.2.2.2.2.2.2.2,rfl,HE3.out⟩⟩;rw[HW.out.2.2.2.2.2.1];obtain⟨m,rfl⟩:∃m,gk=m+1:=⟨gk-1,by omega⟩;rw[zAy,HF.out];rfl
  .obtain rfl:gk=0:=by omega
   have HAK:=oh hak;clear hak;go_wp2_with fail;go_ret2
   refine⟨P1,F1,_,_,HW.out.1,HW.out.2.1,.inl ⟨a,.slice ia a.length icap,?_,HW.out.2.2.2.2.1,by have:=HAK.out;omega,rfl,rfl,?_⟩⟩
   .rw[HW.out.2.2.2.2.2.1,zAy];simp
   .exact HW.out.2.2.2.1.slP zKP.len (by have:=HAK.out;omega)
end
end
section
open Go.RowKit
attribute [local go_sem ↓] Go.wp_at_zero Go.wp_at_succ
theorem zFy(s:ByteArray):Go.Lib.strCells s=s.data.toList.flatMap zO:=by
 unfold Go.Lib.strCells;induction s.data.toList with
 | nil=>rfl
 | cons x l ih=>rw[wO,uZ,ih];rfl
theorem yY(s:ByteArray):s.data.toList.length=s.size:=by rw[tP];rfl
theorem zKR{P:Program}{w:World}{t u e:TypeId}(T:ElT P t e (.int .u8 0) 1 1)(hu:P.underlying u=some .string)
  {ops:Array Oper} {o:Oper} {a:Act} {K:Act->World->Prop} {Q:Exit->Act->World->Prop} {X:Prop} (hgd:o.guard=none) (sx x:Operand)
  (ho:o.op=.call { callee:=.builtin .append,args:=#[sx,x],argTypes:=#[t,u] })
  (base:Nat) (v:Value) (l:List UInt8) (s:ByteArray) (hv:a.eval sx=v) (hx:a.eval x=.string s) (hown:yA (λ_=>False) w base e 1 zO v l) (hb:l.length+s.size<=140737488355328) (hbase:base<=w.heap.size)
  (h:∀a' c' w',yA (λ_=>False) w' base e 1 zO (.slice a' (l.length+s.size) c') (l++s.data.toList)->w.grownBy w' v.ownBlock->K (a.put o.dst (.slice a' (l.length+s.size) c')) w') :
  if Region.wanted o (yielded ops a.tmps)=true then Oper.wp P o a w K Q else X:=by
 have hw:Region.wanted o (yielded ops a.tmps)=true:=by simp[Region.wanted,hgd]
 rw[if_pos hw];obtain⟨i,hi,hz,hs1,hb1⟩:=zE8 T.info;obtain⟨v',w',hr,h2,h3,_⟩:=Go.Lib.run_append_own_string (P:=P) (w:=w) base t u o.type e i T.under hu hi hz hs1 hb1 v l.length _ hown.1 s (by simp only[maxLen];omega) hb hbase;have hO:yA (λ_=>False) w' base e 1 zO v' (l++s.data.toList):=⟨by
  rw[uC,yY,tB,<- zFy];exact h2,λ_ _ f=>f⟩
 obtain⟨a',c',hvv,_⟩:=hO.form;rw[uC,yY] at hvv;subst hvv;unfold Oper.wp execOp;simp only[ho,resolve,invoke,builtin,Sem.run_bind,Sem.run_pure,Result.andThen_ok,pM,wO,rZ,hv,hx,hr];exact h a' c' w' hO h3
section
variable {P P' F F':NP}{ad:Nat->Addr}{w w':World}{c s:Nat}{G G':GA}{l l':List Nat}
theorem zLJ(hL:yE F ad w)(hP:∀k,P k->F k)(h:vJ F w P c s G l)(gen:Nat)(hg:gen<18446744073709551616)(id:Nat)(hid:id<G.blocks)(next:Nat)(hn:next<4294967296)(v:ByteArray)(hv:v.size+28<=G.size)(hco:G.cost<1000000) :
  Calls Tryz.prog 355 #[pgV c s gen,.int .i64 (id:Int),.int .i64 (next:Int),.string v] w (zCb F P ad w c s (G.put ⟨4,id,gen,zV 4 next++v.data.toList⟩) l (λ_ _ e=>e=.returned .nilIface)):=by
 unfold pgV;obtain⟨_,b256,_,s1024,_,_⟩:=h.lim;have m0:zG w (w.alloc (gP c s gen)):=(zss w).alloc _;have hL0:=hL.mods m0.ext;have HB0:=oh (zK.new w (gP c s gen) 140);have HL0:=oh hL0;have HG:=oh h;have HL:=oh hL;have HP:=oh hP;have HGN:=oh hg;have HM0:=oh m0;have HPC:Hid (qC ⟨4,(id:Int),gen,zV 4 next++v.data.toList⟩ (G.size:Int)=none):=oh (by
  unfold qC;rw[if_neg (by have:=(h.lim).2.2.1;unfold zAg;simp;omega),if_neg];simp only[uC,zC,yY];have:zCu 4=true:=rfl;rw[this];simp;omega)
 clear hL hL0 hP h m0 hg
 go_enter Tryz.func355, Tryz.ntmps355
 go_wp2_with fail;refine (zAt HL0.out (.slice none 0 0) [] (Sl.nil _ _ _ _) next 4 (by omega) (by omega) (by simp)).mono ?_;rintro e w1 ⟨pa,pc,rfl,hown,hm1⟩;have HO1:Hid (yA (λ_=>False) w1.drew w.heap.size 5 1 zO (.slice pa 4 pc) (zV 4 next)):=oh (by
  have h1:=hown.rebase (base':=w.heap.size) (by simp);have h2:yA F w1 w.heap.size 5 1 zO (.slice pa 4 pc) (zV 4 next):=by simpa using h1
  exact⟨h2.1,λ_ _ f=>f⟩)
 have HOB:Hid (∀g,(Value.slice pa 4 pc).ownBlock=some g->w.heap.size<g/\g<w1.heap.size):=oh (λg hg=>by
  have:=hown.lt g (by simpa using hg);simp at this;omega)
 have HM1:=oh hm1;have HB1:=oh (HB0.out.ext hm1);have r0:=HB1.out.d 0 (.pointer (some ⟨c,0,none⟩)) rfl;have r2:=HB1.out.d 2 (.int .u64 (gen:Int)) rfl;have HBZ:Hid (w.heap.size<=w1.drew.heap.size):=oh (HM0.out.trans hm1).size;have hlen4:(zV 4 next).length=4:=zC 4 next;have HL4:=oh hlen4;simp only[uF,uV];clear hown hm1 hlen4;go_wp2_with fail;go_region_law
  (first
   | (refine zKR Tryz.elB Tryz.underlying9 (by rfl) _ _ (by rfl) w.heap.size (.slice pa 4 pc) (zV 4 next) v (by rfl) (by rfl) HO1.out (by have:=HL4.out;omega) HBZ.out ?_;intro a' c' w4 hown hgrow;have hg4:=zA.of_grown hgrow;have y0:=(hg4.cell (yH r0) (λe=>by have:=HOB.out _ e;omega)).trans r0;have y2:=(hg4.cell (yH r2) (λe=>by have:=HOB.out _ e;omega)).trans r2;have HE4:Hid (zG w w4):=oh ((HM0.out.trans HM1.out).drew.trans' hg4 (λi hi e=>by have:=HOB.out _ e;omega));have HS4:=oh (yA.sl (F:=F) ⟨hown.1,λg hg f=>by have:=hown.lt g hg;have:=HL.out.lt g f;omega⟩ yU.len (by rw[uC,yY,zC];omega)))
   | (go_simp;go_at_call 277;refine (zSQ (HL.out.mods HE4.out.ext) HP.out (HG.out.at HE4.out) ⟨4,id,gen,zV 4 next++v.data.toList⟩ _ HS4.out HGN.out ⟨by simp only;omega,by simp only;omega⟩ HPC.out hco).mono ?_;rintro e w5 ⟨P5,F5,hG5,hN5,rfl⟩))
 all_goals
  have HG5:=oh hG5;have HN5:=oh hN5;clear hG5 hN5 hown hgrow hg4 y0 y2;go_wp2_with fail;go_ret;exact⟨P5,F5,HG5.out,(zU.ext HL.out HP.out HE4.out).trans HN5.out,rfl⟩
end
def zCK(v:List UInt8)(n i:Nat):List UInt8:=(v.drop (i * n)).take n
def zBy(gen:Nat)(v:List UInt8)(n:Nat)(ids:List Nat)(i:Nat):yF:=⟨4,((ids.getD i 0:Nat):Int),gen,zV 4 (ids.getD (i+1) 0)++zCK v n i⟩
def zAV(gen:Nat)(v:List UInt8)(n:Nat)(ids:List Nat):Nat->GA->GA
 | 0,G=>G
 | k+1,G=>(zAV gen v n ids k G).put (zBy gen v n ids k)
theorem vS(gen:Nat)(v:List UInt8)(n:Nat)(ids:List Nat):∀(k:Nat) (G:GA),(zAV gen v n ids k G).blocks=G.blocks/\(zAV gen v n ids k G).size=G.size/\(zAV gen v n ids k G).cost=G.cost+k
 | 0,G=>⟨rfl,rfl,rfl⟩
 | k+1,G=>by
  obtain⟨h1,h2,h3⟩:=vS gen v n ids k G;exact⟨h1,h2,by show (zAV gen v n ids k G).cost+1=_;omega⟩
def zOy(F P:NP)(ad:Nat->Addr)(w:World)(c s:Nat)(G:GA)(l:List Nat)(gen:Nat)(v:ByteArray)(e:Ending)(w':World):Prop :=
  ∃(P' F':NP) (G':GA) (l':List Nat),vJ F' w' P' c s G' l'/\zU P P' F F' ad w w' /\
    ((∃ ids, zAy (zCv v.size G.size).toNat l = some (ids, l') /\ zFA l ids l' /\ ids.length = (zCv v.size G.size).toNat /\ G' = zAV gen v.data.toList (G.size - 28) ids ids.length G /\ e = .returned (.tuple #[.int .i64 ((ids.getD 0 0 : Nat) : Int), .nilIface])) \/
     (∃(a:List Nat) (f:Nat),zAy (zCv v.size G.size).toNat l=none/\l'=l/\G'=zAA G a/\(∀id∈a,l[id]? = some 0)/\e=.returned (.tuple #[.int .i64 0,zI f])/\yN F' ad w' (zI f) [-1, -1] 3))
section
variable {P P' F F':NP}{ad:Nat->Addr}{w w':World}{c s:Nat}{G G':GA}{l l':List Nat}
theorem zLK(n size:Nat)(h1:25<=n)(h2:n<=4096)(h3:256<=size)(h4:size<=1024):∃m:Nat,zCv n size=(m:Int)/\1<=m/\m<=18/\(m-1) * (size-28)<n/\n<=m * (size-28):=by
 refine⟨(n-1) / (size-28)+1,?_,Nat.le_add_left 1 _,?_,?_,?_⟩
 .unfold zCv;rw[if_neg (by omega)];have e1:((n:Int)-1)=((n-1:Nat):Int):=by omega
  have e2:((size:Int)-28)=((size-28:Nat):Int):=by omega
  rw[e1,e2];simp
 .have:(n-1) / (size-28)<=(n-1) / 228:=Nat.div_le_div_left (by omega) (by omega);omega
 .rw[tN];have:=Nat.div_mul_le_self (n-1) (size-28);omega
 .have:=Nat.lt_div_mul_add (a:=n-1) (b:=size-28) (by omega);rw[rP,Nat.one_mul];omega
theorem zJM(v:ByteArray)(i j:Nat):(v.extract i j).data.toList=(v.data.toList.drop i).take (j-i):=by
 rw[ByteArray.data_extract,Array.toList_extract,List.extract_eq_take_drop]
theorem zCV.form{n:Nat}{e:Ending}(h:zCV F P ad w c s G l n e w'):∃iv ev,e=.returned (.tuple #[iv,ev]):=by
 obtain⟨_,_,_,_,_,_,⟨_,iv,_,_,_,_,h,_⟩|⟨_,f,_,_,_,_,h,_⟩⟩:=h
 .exact⟨_,_,h⟩
 .exact⟨_,_,h⟩
theorem zCV.cellK{n:Nat}{e:Ending}(h:zCV F P ad w c s G l n e w'){b o:Nat}{x:Value}(hc:w.cell? ⟨b,o,none⟩=some x)(hb:¬ P b):w'.cell? ⟨b,o,none⟩=some x:=by
 obtain⟨_,_,_,_,_,hn,_⟩:=h;exact hn.cellK hc hb
theorem zLL(hL:yE F ad w)(hP:∀k,P k->F k)(h:vJ F w P c s G l)(gen:Nat)(hg:gen<18446744073709551616)(v:ByteArray)(h25:25<=v.size)(h4096:v.size<=4096)(hok:zRp l)(hlb:l.length=G.blocks)(hco:G.cost+100<=1000000) :
  Calls Tryz.prog 285 #[pgV c s gen,.string v] w (zOy F P ad w c s G l gen v):=by
 obtain⟨_,b256,s256,s1024,_,_⟩:=h.lim;obtain⟨m,hm,hm1,hm18,hlo,hhi⟩:=zLK v.size G.size h25 h4096 s256 s1024;have hck:zAx (v.size:Int)=none:=by unfold zAx;rw[if_neg (by omega)]
 obtain⟨nn,hnn⟩:∃nn,nn=G.size-28:=⟨_,rfl⟩;have hnI:(G.size:Int)-28=(nn:Int):=by omega
 unfold pgV;have m0:zG w (w.alloc (gP c s gen)):=(zss w).alloc _;have HN0:Hid (¬ P w.heap.size):=oh (λf=>by have:=h.bd _ f;omega);have HB0:=oh (zK.new w (gP c s gen) 140);have HX0:=oh (zU.ext hL hP m0);have HG0:=oh (h.at m0);have HOK:=oh hok;have HLB:=oh hlb;have HM:=oh hm;have HNN:=oh hnn;have HNI:=oh hnI;have HGN:=oh hg;have HLO:=oh hlo;have HHI:=oh hhi;have hsz4:(v.size:Int)<=4096:=by omega
 clear hL hP h m0 hok hlb hm hnn hnI hg hlo hhi
 go_enter Tryz.func285, Tryz.ntmps285
 go_wp2_with fail;refine (zEY HX0.out.env _ gen (v.size:Int)).mono ?_;rintro e w1 ⟨ev,rfl,hE,hm1'⟩;rw[hck] at hE;cases hE
 have HX1:=oh (HX0.out.trans (zU.ext HX0.out.env HX0.out.sub hm1'));have HG1:=oh (HG0.out.at hm1');have HB1:=oh (HB0.out.ext hm1');have r0:=HB1.out.d 0 (.pointer (some ⟨c,0,none⟩)) rfl;have r1:=HB1.out.d 1 (.pointer (some ⟨s,0,none⟩)) rfl;have r2:=HB1.out.d 2 (.int .u64 (gen:Int)) rfl;clear hm1' hck;go_wp2_with fail;refine (zFW HG1.out gen).mono ?_;rintro e w2 ⟨rfl,hm2⟩;have HX2:=oh (HX1.out.trans (zU.ext HX1.out.env HX1.out.sub hm2));have HG2:=oh (HG1.out.at hm2);have HB2:=oh (HB1.out.ext hm2);have t0:=HB2.out.d 0 (.pointer (some ⟨c,0,none⟩)) rfl;have t1:=HB2.out.d 1 (.pointer (some ⟨s,0,none⟩)) rfl;have t2:=HB2.out.d 2 (.int .u64 (gen:Int)) rfl;clear hm2 r0 r1 r2;go_wp2_with fail;refine (zGP (G.size:Int) _ (by omega) (by omega)).mono ?_;rintro e w2' ⟨rfl,rfl⟩;rw[HNI.out];have HG2d:=oh (HG2.out.at (zss w2).drew);have HX2d:=oh (HX2.out.trans (zU.ext HX2.out.env HX2.out.sub (zss w2).drew));have HBN:Hid (¬ P w.heap.size):=oh HN0.out;go_wp2_with fail;go_region_held3 (λw'=>w'.cell? ⟨w.heap.size,0,none⟩=some (.pointer (some ⟨c,0,none⟩))/\w'.cell? ⟨w.heap.size,1,none⟩=some (.pointer (some ⟨s,0,none⟩))/\w'.cell? ⟨w.heap.size,2,none⟩=some (.int .u64 (gen:Int)))
  (first|(with_reducible exact⟨x0,x1,x2⟩)|(with_reducible exact⟨z0,z1,z2⟩)|go_keep)
  (first
   | (go_at_call 353;refine (zFW HG2d.out gen).mono ?_;rintro e w3 ⟨rfl,hm3⟩;have x0:=zD hm3 t0;have x1:=zD hm3 t1;have x2:=zD hm3 t2)
   | (go_at_call 333;refine (zQH (v.size:Int) (G.size:Int) _ (by omega) (by omega)).mono ?_;rintro e w3' ⟨rfl,rfl⟩;rw[HM.out])
   | (go_at_call 354;refine (zLI (HX2d.out.env.mods hm3.ext) HX2d.out.sub (HG2d.out.at hm3) gen m (by omega) HOK.out).mono ?_;rintro e w4 ht4;obtain⟨iv,ev,rfl⟩:=ht4.form;have z0:=ht4.cellK x0 HBN.out;have z1:=ht4.cellK x1 HBN.out;have z2:=ht4.cellK x2 HBN.out))
 obtain⟨P4,F4,G4,l4,hG4,hN4,hres⟩:=ht4;have HX4:=oh ((HX2d.out.trans (zU.ext HX2d.out.env HX2d.out.sub hm3)).trans hN4);have HG4:=oh hG4;have HB4:=oh (hN4.blk ((HB2.out.drew).ext hm3) HBN.out);have HP4:Hid (¬ P4 w.heap.size):=oh (hN4.not ((HB2.out.drew).ext hm3).lt HBN.out);clear hG4 hN4 z0 z1 z2 x0 x1 x2 hm3 t0 t1 t2;rcases hres with ⟨ids,iv',k1,k2,k3,k4,k5,k6⟩|⟨a,f,k1,k2,k3,k4,k5,k6⟩
 .simp only[Ending.returned.injEq,Value.tuple.injEq,Array.mk.injEq,List.cons.injEq,and_true] at k5;obtain⟨e1,e2⟩:=k5;subst e1 e2 k4;obtain⟨ia,icap,rfl,i1,i2,i3,i4⟩:=_root_.id k6;have K1:=oh k1;have K2:=oh k2;have K3:=oh k3;have K6:=oh k6;have I4:=oh i4;rw[k3] at i1 i3 ⊢;unfold maxLen at i2;clear k1 k2 k3 k6 i4;go_wp2_with fail;go_loopg [40] m (λq iv wr=>∃(k:Nat) (P5 F5:NP),k+q=m/\iv=.int .i64 k/\Hid (vJ F5 wr P5 c s (zAV gen v.data.toList nn ids k G4) l4/\zU P P5 F F5 ad w wr/\(zK wr w.heap.size (gP c s gen) 140 /\ ¬ P5 w.heap.size)/\Sl P5 wr 1 zIw (.slice ia m icap) ids))
  case atStart=>exact⟨0,P4,F4,by omega,rfl,oh ⟨HG4.out,HX4.out,⟨HB4.out,HP4.out⟩,by have:=K6.out;rw[K3.out] at this;exact this⟩⟩
  case round =>
   obtain⟨k,P5,F5,hk,rfl,HW⟩:=hrel;by_cases hlt:k<m
   .obtain⟨hW1,hW2,⟨hW3,hW4⟩,hW5⟩:=HW.out;obtain⟨ia',icap',eia,_,_,_,hcs⟩:=hW5;simp only[Value.slice.injEq] at eia;obtain⟨eia1,eia3,eia2⟩:=eia;clear eia3;subst eia1 eia2;rcases hcs with hcs|⟨b,off,rfl,hbl,hbP,hcs⟩
    .have:=K3.out;rw[hcs] at this;simp at this;omega
    .have hkl:k<ids.length:=by rw[K3.out];exact hlt
     have c0:=hcs k ids[k] (uA hkl) 0 _ rfl;simp only[uY,uO] at c0;have r0:=hW3.d 0 (.pointer (some ⟨c,0,none⟩)) rfl;have r1:=hW3.d 1 (.pointer (some ⟨s,0,none⟩)) rfl;have r2:=hW3.d 2 (.int .u64 (gen:Int)) rfl;obtain⟨p,hp⟩:∃p,p=k * nn:=⟨_,rfl⟩;obtain⟨q,hq⟩:∃q,q=(k+1) * nn:=⟨_,rfl⟩;have hpq:q=p+nn:=by rw[hp,hq,rP,Nat.one_mul]
     have hpv:p<v.size:=by
      have h1:k * nn<=(m-1) * nn:=rQ _ (by omega);have h2:=HLO.out;rw[<- HNN.out] at h2;omega
     have hnn2:228<=nn/\nn<=996:=by have:=HNN.out;omega
     have w1:(k:Int) * (nn:Int)=(p:Int):=by rw[hp];simp
     have h1:(0:Int)<=(k:Int):=by omega
     have h2:(k:Int)<(m:Int):=by omega
     have hid:ids[k]<G4.blocks:=by
      have h1:=K2.out.fresh ids[k] (wL _);have h2:=(uB.1 h1).1;rw[K2.out.len,HLB.out] at h2;exact h2
     have HC0:=oh (show ids.getD k 0=ids[k] by simp[List.getD,hkl]);obtain⟨id,hide⟩:∃id,id=ids[k]:=⟨_,rfl⟩;rw[<- hide] at c0 hid HC0;have HP:=oh hp;have HQ:=oh hq;have u1:IntKind.i64.wrap (p:Int)=(p:Int):=IntWalk.i64_in _ (by omega);have u2:IntKind.i64.wrap ((k:Int)+1)=(k:Int)+1:=IntWalk.i64_in _ (by omega);have u3:IntKind.i64.wrap (((k:Int)+1) * (nn:Int))=(q:Int):=by
      have w2:((k:Int)+1) * (nn:Int)=(q:Int):=by rw[hq];simp
      rw[w2];exact IntWalk.i64_in _ (by omega)
     clear hp hq hW1 hW2 hW3 hW4 hide;by_cases hlast:k+1<m
     .have hqv:q<v.size:=by
       have h1:(k+1) * nn<=(m-1) * nn:=rQ _ (by omega);have h2:=HLO.out;rw[<- HNN.out] at h2;have:=HQ.out;omega
      have hqvI:(q:Int)<(v.size:Int):=by omega
      have hkl1:k+1<ids.length:=by rw[K3.out];exact hlast
      have c1:=hcs (k+1) ids[k+1] (uA hkl1) 0 _ rfl;simp only[uY,uO] at c1;have hnx:ids[k+1]<4294967296:=by
       have h1:=K2.out.fresh ids[k+1] (wL _);have h2:=(uB.1 h1).1;rw[K2.out.len] at h2;omega
      have HC1:=oh (show ids.getD (k+1) 0=ids[k+1] by simp[List.getD,hkl1]);obtain⟨nx,hnxe⟩:∃nx,nx=ids[k+1]:=⟨_,rfl⟩;rw[<- hnxe] at c1 hnx HC1;have HPC:Hid ((v.extract p q).data.toList=zCK v.data.toList nn k):=oh (by
       rw[HP.out,HQ.out,zJM];unfold zCK;rw[show (k+1) * nn-k * nn=nn by rw[rP,Nat.one_mul];omega])
      have v1:(0:Int)<=(p:Int):=by omega
      have v2:(p:Int)<=(q:Int):=by omega
      have v3:(q:Int)<=(v.size:Int):=by omega
      have v4:min (q:Int) (v.size:Int)=(q:Int):=by omega
      have HPQ:=oh hpq;clear hnxe hcs hpq;go_wp2_with fail;go_region_held3 (λw'=>w'.cell? ⟨w.heap.size,0,none⟩=some (.pointer (some ⟨c,0,none⟩))/\w'.cell? ⟨w.heap.size,1,none⟩=some (.pointer (some ⟨s,0,none⟩))/\w'.cell? ⟨w.heap.size,2,none⟩=some (.int .u64 (gen:Int)))
       (first|(with_reducible exact⟨z0,z1,z2⟩)|go_keep)
       ((go_at_call 355;refine (zLJ (HW.out.2.1.env.mods zr.drew) HW.out.2.1.sub (HW.out.1.at zr.drew) gen HGN.out id (by rw[(vS gen v.data.toList nn ids k G4).1];exact hid) nx hnx (v.extract p q) (by rw[(vS gen v.data.toList nn ids k G4).2.1,ByteArray.size_extract];have:=HNN.out;have:=HPQ.out;omega) (by rw[(vS gen v.data.toList nn ids k G4).2.2];omega)).mono ?_;rintro e w6 ⟨P6,F6,hG6,hN6,rfl⟩;have z0:=hN6.cellK r0 HW.out.2.2.1.2;have z1:=hN6.cellK r1 HW.out.2.2.1.2;have z2:=hN6.cellK r2 HW.out.2.2.1.2))
      have HNX:Hid (vJ F6 w6 P6 c s (zAV gen v.data.toList nn ids (k+1) G4) l4/\zU P P6 F F6 ad w w6/\(zK w6 w.heap.size (gP c s gen) 140 /\ ¬ P6 w.heap.size)/\Sl P6 w6 1 zIw (.slice (some ⟨b,off,none⟩) m icap) ids):=oh (by
       have e:zBy gen v.data.toList nn ids k=⟨4,(id:Int),gen,zV 4 nx++(v.extract p q).data.toList⟩:=by unfold zBy;rw[HC0.out,HC1.out,HPC.out]
       refine⟨by rw[zAV,e];exact hG6,(HW.out.2.1.trans (zU.ext HW.out.2.1.env HW.out.2.1.sub (zss wr).drew)).trans hN6,⟨hN6.blk (w:=wr.drew) HW.out.2.2.1.1 HW.out.2.2.1.2,hN6.not (w:=wr.drew) HW.out.2.2.1.1.lt HW.out.2.2.1.2⟩,hN6.slP (HW.out.2.2.2.ext (zss wr).drew)⟩)
      clear hG6 hN6 z0 z1 z2;go_wp2_with fail;go_roundg (gk-1)
      case measure=>omega
      case rel=>exact⟨k+1,P6,F6,by omega,by go_num,HNX⟩
     .have hqv:(v.size:Int)<=(q:Int):=by
       have h1:=HHI.out;rw[<- HNN.out] at h1;have h2:=HQ.out;rw[show k+1=m by omega] at h2;omega
      have HC1:=oh (show ids.getD (k+1) 0=0 by simp[List.getD,tI (show ids.length<=k+1 by rw[K3.out];omega)]);have HPC:Hid ((v.extract p v.size).data.toList=zCK v.data.toList nn k):=oh (by
       rw[zJM,HP.out];unfold zCK;have hl:v.data.toList.length=v.size:=yY v;rw[wB (by rw[wM,hl];exact uJ _),wB (by rw[wM,hl];have:=HP.out;omega)])
      have v1:(0:Int)<=(p:Int):=by omega
      have v2:(p:Int)<=(v.size:Int):=by omega
      have v4:min (q:Int) (v.size:Int)=(v.size:Int):=by omega
      have hlast2:decide (k+1<m)=false:=by simpa using hlast
      have hlast3:(m:Int)<=(k:Int)+1:=by omega
      have HPQ:=oh hpq;clear hcs hpq hlast;go_wp2_with fail;go_region_held3 (λw'=>w'.cell? ⟨w.heap.size,0,none⟩=some (.pointer (some ⟨c,0,none⟩))/\w'.cell? ⟨w.heap.size,1,none⟩=some (.pointer (some ⟨s,0,none⟩))/\w'.cell? ⟨w.heap.size,2,none⟩=some (.int .u64 (gen:Int)))
       (first|(with_reducible exact⟨z0,z1,z2⟩)|go_keep)
       ((go_at_call 355;refine (zLJ (HW.out.2.1.env.mods zr.drew) HW.out.2.1.sub (HW.out.1.at zr.drew) gen HGN.out id (by rw[(vS gen v.data.toList nn ids k G4).1];exact hid) 0 (by omega) (v.extract p v.size) (by rw[(vS gen v.data.toList nn ids k G4).2.1,ByteArray.size_extract];have:=HNN.out;have:=HPQ.out;omega) (by rw[(vS gen v.data.toList nn ids k G4).2.2];omega)).mono ?_;rintro e w6 ⟨P6,F6,hG6,hN6,rfl⟩;have z0:=hN6.cellK r0 HW.out.2.2.1.2;have z1:=hN6.cellK r1 HW.out.2.2.1.2;have z2:=hN6.cellK r2 HW.out.2.2.1.2))
      have HNX:Hid (vJ F6 w6 P6 c s (zAV gen v.data.toList nn ids (k+1) G4) l4/\zU P P6 F F6 ad w w6/\(zK w6 w.heap.size (gP c s gen) 140 /\ ¬ P6 w.heap.size)/\Sl P6 w6 1 zIw (.slice (some ⟨b,off,none⟩) m icap) ids):=oh (by
       have e:zBy gen v.data.toList nn ids k=⟨4,(id:Int),gen,zV 4 0++(v.extract p v.size).data.toList⟩:=by unfold zBy;rw[HC0.out,HC1.out,HPC.out]
       refine⟨by rw[zAV,e];exact hG6,(HW.out.2.1.trans (zU.ext HW.out.2.1.env HW.out.2.1.sub (zss wr).drew)).trans hN6,⟨hN6.blk (w:=wr.drew) HW.out.2.2.1.1 HW.out.2.2.1.2,hN6.not (w:=wr.drew) HW.out.2.2.1.1.lt HW.out.2.2.1.2⟩,hN6.slP (HW.out.2.2.2.ext (zss wr).drew)⟩)
      clear hG6 hN6 z0 z1 z2;go_wp2_with fail;go_roundg (gk-1)
      case measure=>omega
      case rel=>exact⟨k+1,P6,F6,by omega,by go_num,HNX⟩
   .obtain rfl:k=m:=by omega
    obtain⟨hW1,hW2,⟨hW3,hW4⟩,hW5⟩:=HW.out;obtain⟨ia',icap',eia,_,_,_,hcs⟩:=hW5;simp only[Value.slice.injEq] at eia;obtain⟨eia1,eia3,eia2⟩:=eia;clear eia3;subst eia1 eia2;rcases hcs with hcs|⟨b,off,rfl,hbl,hbP,hcs⟩
    .have:=K3.out;rw[hcs] at this;simp at this;omega
    .have hkl:0<ids.length:=by rw[K3.out];omega
     have c0:=hcs 0 ids[0] (uA hkl) 0 _ rfl;simp only[uY,uO] at c0;have HC0:=oh (show ids.getD 0 0=ids[0] by simp[List.getD,hkl]);obtain⟨id,hide⟩:∃id,id=ids[0]:=⟨_,rfl⟩;rw[<- hide] at c0 HC0;have h2:(0:Int)<(k:Int):=by omega
     have h3:0<k:=by omega
     clear hcs hide hW1 hW2 hW3 hW4 hkl;go_wp2_with fail;go_ret2
     refine⟨P5,F5,_,l4,HW.out.1,HW.out.2.1,.inl ⟨ids,?_,K2.out,?_,?_,?_⟩⟩
     .rw[HM.out];exact K1.out
     .rw[HM.out];exact K3.out
     .rw[K3.out,HNN.out]
     .rw[HC0.out];rfl
 .simp only[Ending.returned.injEq,Value.tuple.injEq,Array.mk.injEq,List.cons.injEq,and_true] at k5;obtain⟨e1,e2⟩:=k5;subst e1 e2 k2 k3;have K1:=oh k1;have K4:=oh k4;have K6:=oh k6;clear k1 k4 k6;go_wp2_with fail;refine (wrap_any HX4.out.env _ _ _ 3 K6.out).mono ?_;rintro e w5 ⟨f5,rfl,hE5,hm5⟩;have HE5:=oh hE5;have HM5:=oh hm5;clear hE5 hm5;go_wp2_with fail;go_ret2
  refine⟨P4,F4,_,_,HG4.out.at HM5.out,HX4.out.trans (zU.ext HX4.out.env HX4.out.sub HM5.out),.inr ⟨a,f5,?_,rfl,rfl,K4.out,rfl,HE5.out⟩⟩;rw[HM.out];exact K1.out
end
end
end Go.Proofs.YtgphfebjjedeaaaGreatDoor
