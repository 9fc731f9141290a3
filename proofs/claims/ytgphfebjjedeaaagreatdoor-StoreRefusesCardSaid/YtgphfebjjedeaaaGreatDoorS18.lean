import Derived.Test.YtgphfebjjedeaaaGreatDoorS17
import Derived.Laws.BitsAllLaws
import Derived.IntWalk
namespace Go.Proofs.YtgphfebjjedeaaaGreatDoor
open Lib renaming hid->oh
set_option maxHeartbeats 4000000
set_option maxRecDepth 100000
section
open Go.RowKit
attribute [local go_sem ↓] Go.wp_at_zero Go.wp_at_succ
theorem zJr(b s:Nat)(h1:8<=b)(h2:b<=256)(h3:256<=s)(h4:s<=1024)(w:World) :
  Calls Tryz.prog 71 #[.agg #[.int .i64 (b:Int),.int .i64 (s:Int)]] w λe w'=>e=.returned (.bool true)/\zF w w':=by
 have a1:decide ((8:Int)<=(b:Int))=true:=by simp;omega
 have a2:decide ((b:Int)<=256)=true:=by simp;omega
 have a3:decide ((256:Int)<=(s:Int))=true:=by simp;omega
 have a4:decide ((s:Int)<=1024)=true:=by simp;omega
 clear h1 h2 h3 h4
 go_enter Tryz.func71, Tryz.ntmps71
 go_wp2
 go_ret;exact⟨rfl,zr.alloc _⟩
def zGX(size:Nat)(g:Nat):List Value:=[qZ size g]
theorem zKn(size:Nat):zBE (zGX size) 1:=⟨λ_=>rfl,by intro x u hu;simp[zGX,qZ] at hu;subst hu;rfl⟩
theorem Tryz.elR:ElT Tryz.prog 42 27 (.slice none 0 0) 1 24:=⟨Tryz.underlying42,by kernel_rfl,rfl,by decide,by decide⟩
section
variable {F:NP}{ad:Nat->Addr}{w w':World}
def zIi(w:World)(B0 B1 b s:Nat)(wr:World)(gs:List Nat)(v:Value):Prop :=
 zF w wr/\B1<wr.heap.size/\zJ wr B0 #[.int .i64 (b:Int),.int .i64 (s:Int)] 39 /\ zJ wr B1 #[.int .i64 (b:Int),.int .i64 (s:Int),v,.slice none 0 0,.bool false,.int .i64 0,.int .i64 0,.int .i64 0,.slice none 0 0,.bool false,.int .i64 0] 135 /\
   yA (λx=>x∈B0 :: B1 :: gs) wr B0 27 1 (zGX s) v gs/\(B0 :: B1 :: gs).Nodup/\∀g,g∈gs->B1<g/\zJ wr g (yO (List.replicate s 0)) 5
theorem zGY(s:Nat):yO (List.replicate s 0)=Array.replicate s (.int .u8 0):=by
 rw[yO,List.map_replicate,List.toArray_replicate];rfl
theorem zIi.step{B0 B1 b s:Nat}{wr w4:World}{gs:List Nat}{v v':Value}(h:zIi w B0 B1 b s wr gs v)(hw:w.heap.size<=B0)(hB:B0<B1)
  (hown:yA (λx=>x∈B0 :: B1 :: gs) w4 B0 27 1 (zGX s) v' (gs++[wr.heap.size])) (hgrow:((wr.drew.alloc (.cells (Array.replicate s (.int .u8 0)) 5)).alloc (.cells #[.slice (some ⟨wr.heap.size,0,none⟩) s s] 27)).grownBy w4 v.ownBlock)
  (hat:v'.ownBlock=v.ownBlock\/v'.ownBlock=some (wr.heap.size+2)):zIi w B0 B1 b s (w4.setCell ⟨B1,2,none⟩ v') (gs++[wr.heap.size]) v':=by
 obtain⟨h1,h2,h3,h4,h6,h7,h8⟩:=h;have mg:=zA.of_grown hgrow;have m0:zF wr ((wr.drew.alloc (.cells (Array.replicate s (.int .u8 0)) 5)).alloc (.cells #[.slice (some ⟨wr.heap.size,0,none⟩) s s] 27)):=((zss wr).drew.alloc _).alloc _;have e1:((wr.drew.alloc (.cells (Array.replicate s (.int .u8 0)) 5)).alloc (.cells #[.slice (some ⟨wr.heap.size,0,none⟩) s s] 27)).heap.size=wr.heap.size+2:=by simp
 have hsz:=mg.size;rw[e1] at hsz;have e3:wr.drew.heap.size=wr.heap.size:=rfl;have mA:zA (λx=>v.ownBlock=some x) wr w4:=m0.ext.trans mg;have hv0:∀x,v.ownBlock=some x->w.heap.size<=x/\x<wr.heap.size:=λx hx=>by have:=h6.lt x hx;omega
 have hvn:∀x,x∈B0 :: B1 :: gs->¬ v.ownBlock=some x:=λx hx e=>h6.2 x e hx
 have hlt:∀x,x∈B0 :: B1 :: gs->x<wr.heap.size:=λx hx=>by
  simp only[wV] at hx;rcases hx with rfl|rfl|hx
  .exact h3.lt
  .exact h4.lt
  .exact (h8 x hx).2.lt
 have far:∀(x:Nat) (c:Array Value) (t:TypeId),x∈B0 :: B1 :: gs->x≠B1->zJ wr x c t->zJ (w4.setCell ⟨B1,2,none⟩ v') x c t:=λx c t hx hne hb=>(hb.mods mA (hvn x hx)).set_other hne _
 have hmem:∀x,x∈B0 :: B1 :: (gs++[wr.heap.size])->x∈B0 :: B1 :: gs\/x=wr.heap.size:=λx hx=>by
  simp only[wV,wM,List.not_mem_nil,or_false] at hx ⊢;rcases hx with h|h|h|h <;> simp[h]
 have hnew:zJ (w4.setCell ⟨B1,2,none⟩ v') wr.heap.size (yO (List.replicate s 0)) 5:=by
  rw[zGY];exact (((zJ.new wr.drew _ _).alloc _).mods mg (λe=>by have:=hv0 _ e;omega)).set_other (by simp only;omega) _
 refine⟨(h1.trans' mA (λi hi e=>by have:=(hv0 i e).1;omega)).setCell (.inl (by simp only;omega)) _,?_,far B0 _ _ uH (by omega) h3,?_,?_,?_,λg hg=>?_⟩
 .simp only[World.setCell,Array.size_modify];omega
 .have:=(h4.mods mA (hvn B1 (uJ _ uH))).set 2 v';simpa using this
 .have hno:∀x,v'.ownBlock=some x->x≠B1:=λx hx e=>hown.2 x hx (e ▸ uJ _ uH)
  have k1:=hown.mods (zA.at (λx=>x=B1) w4 B1 2 v' rfl) hno;refine⟨k1.1,λx hx hm=>?_⟩;rcases hmem x hm with hm|rfl
  .exact k1.2 x hx hm
  .rcases hat with e|e
   .have:=(hv0 _ (e ▸ hx)).2;omega
   .rw[e] at hx;injection hx with hx;omega
 .have e:B0 :: B1 :: (gs++[wr.heap.size])=(B0 :: B1 :: gs)++[wr.heap.size]:=by simp
  rw[e,tU];exact⟨h7,by simp,λx hx y hy e=>by have:=hlt x hx;simp at hy;omega⟩
 .rw[wM] at hg;rcases hg with hg|hg
  .exact⟨(h8 g hg).1,far g _ _ (uJ _ (uJ _ hg)) (λe=>by have:=(h8 g hg).1;omega) (h8 g hg).2⟩
  .simp at hg;subst hg;exact⟨h2,hnew⟩
theorem zGZ(s:Nat):∀gs:List Nat,gs.map (qZ s)=gs.flatMap (zGX s)
 | []=>rfl
 | x :: r=>by rw[tP,wG,zGZ s r];rfl
theorem zIi.disk{B0 B1 b s:Nat}{wr:World}{gs:List Nat}{cap:Nat}{a:Option Addr}(h:zIi w B0 B1 b s wr gs (.slice a b cap))(hl:gs.length=b)(hw:w.heap.size<=B0)(hB:B0<B1)(h1:8<=b)(h2:b<=256)(h3:256<=s)(h4:s<=1024) :
  ∃P,jL wr P B1 (vJ b s)/\∀k,P k->w.heap.size<=k:=by
 obtain⟨k1,k2,k3,k4,k6,k7,k8⟩:=h;rcases k6.1.2 with ⟨e,_⟩|⟨bl,cap',cur,e,hb,hblk,hc,hm,hs,ht⟩
 .cases e;omega
 .simp only[Value.slice.injEq] at e;obtain⟨rfl,_,rfl⟩:=e;have hnb:=k6.2 bl rfl;simp only[wV,not_or] at hnb;have hnd:=(uT.1 k7).2;unfold maxLen at hm;refine⟨dkF B1 bl gs [] (.slice none 0 0) (.slice none 0 0),⟨bl,gs,[],.slice none 0 0,.slice none 0 0,⟨⟨cap,by show b<=cap;omega,by omega,k4,cur.toList.drop gs.length,?_,?_⟩,hl,by simp[vJ],rfl,yA.nil _ _ _ _ _ _,λg hg=>by simp[Value.ownBlock] at hg,by simp[vJ],yA.nil _ _ _ _ _ _,
   λi g b' hg hb'=>?_,λi g p hg=>by simp at hg,?_,h1,h2,h3,h4,by simp[vJ]⟩,λk=>rP⟩,λk hk=>?_⟩
  .have e2:(gs.map (qZ (vJ b s).size)++cur.toList.drop gs.length).toArray=cur:=by
    have:gs.map (qZ (vJ b s).size)=cur.toList.take gs.length:=by
     have h5:cur.toList.take (gs.length * 1)=gs.flatMap (zGX s):=by simpa using ht
     rw[uY] at h5;rw[h5];exact zGZ s gs
    rw[this,wS,Array.toArray_toList]
   rw[e2];exact hblk
  .simp;omega
  .rw[show (vJ b s).lasting=List.replicate b (List.replicate s 0) by rfl,wL] at hb';split at hb'
   .injection hb' with hb';subst hb';exact⟨by simp[vJ],(k8 g (uP hg)).2⟩
   .cases hb'
  .rw[wB,uT,uT];refine⟨?_,hnb.2.2,(uT.1 hnd).2⟩;rw[wV];rintro (e|e)
   .exact hnb.2.1 e.symm
   .exact (uT.1 hnd).1 e
  .have hB1:w.heap.size<=B1:=by omega
   rcases hk with hk|hk|hk
   .simp only[wB,wV] at hk;rcases hk with rfl|rfl|hk
    .exact hB1
    .omega
    .have:=(k8 k hk).1;omega
   .simp[Value.ownBlock] at hk
   .simp[Value.ownBlock] at hk
theorem zJs(b s:Nat)(h1:8<=b)(h2:b<=256)(h3:256<=s)(h4:s<=1024) :
  Calls Tryz.prog 17 #[.agg #[.int .i64 (b:Int),.int .i64 (s:Int)]] w λe w'=>∃d P,e=.returned (.tuple #[.pointer (some ⟨d,0,none⟩),.nilIface])/\jL w' P d (vJ b s)/\(∀k,P k->w.heap.size<=k)/\zF w w':=by
 have hmk:=zEG (P:=Tryz.prog) 27 5 (.int .u8 0) 1 Tryz.underlying27 Tryz.mkB rfl s (by omega) (by omega)
 go_enter Tryz.func17, Tryz.ntmps17
 go_wp2_with fail;refine (zJr b s h1 h2 h3 h4 _).mono ?_;rintro e w1 ⟨rfl,hm⟩;have k0:=(zJ.new w #[.int .i64 (b:Int),.int .i64 (s:Int)] 39).ext hm;have c0:=k0.d 0 (.int .i64 (b:Int)) rfl;have c1:=k0.d 1 (.int .i64 (s:Int)) rfl;have HM:Hid (zF w w1):=oh (((zss w).alloc _).trans hm);have HS:Hid (w.heap.size<w1.heap.size):=oh k0.lt;have K0:=oh k0;have hsz:=HS.out;clear k0 hm;go_wp2_with fail;go_loopg [15] b (λm i wr=>∃(cap:Nat) (gs:List Nat) (a:Option Addr),gs.length+m=b/\i=.int .i64 gs.length/\Hid (zIi w w.heap.size w1.heap.size b s wr gs (.slice a gs.length cap)))
 case atStart=>exact⟨0,[],none,by simp,rfl,oh ⟨HM.out.alloc _,by simp,K0.out.alloc _,zJ.new w1 _ _,yA.nil _ _ _ _ _ _,by simp;omega,by simp⟩⟩
 case round =>
  obtain⟨cap,gs,a,hk,rfl,HW⟩:=hrel;obtain⟨hW1,hW2,hW3,hW4,hW6,hW7,hW8⟩:=HW.out;have d2:=hW4.d 2 (.slice a gs.length cap) rfl;have f2:=hW4.frozen 2;have g0:=hW3.d 0 (.int .i64 (b:Int)) rfl;have g1:=hW3.d 1 (.int .i64 (s:Int)) rfl;have l0:=zQ g0;have l1:=zQ d2;have HO:Hid (yA (λx=>x∈w.heap.size :: w1.heap.size :: gs) wr.drew w.heap.size 27 1 (zGX s) (.slice a gs.length cap) gs):=oh (hW6.ext zr.drew);have HLT:Hid (∀x,x∈w.heap.size :: w1.heap.size :: gs->x<wr.heap.size):=oh (λx hx=>by
   simp only[wV] at hx;rcases hx with rfl|rfl|hx
   .exact l0
   .exact l1
   .exact (hW8 x hx).2.lt)
  have HDN:Hid (¬ (Value.slice a gs.length cap).ownBlock=some w1.heap.size):=oh (λe=>hW6.2 _ e (by simp));have HDB:Hid (w.heap.size<=wr.heap.size):=oh hW1.size;obtain⟨k,hkk⟩:∃k,k=gs.length:=⟨_,rfl⟩;have HGL:=oh hkk;have hmkd:∀x:Obj,((wr.alloc x).cell? ⟨w1.heap.size,2,none⟩=some (.slice a gs.length cap)/\(wr.alloc x).cell? ⟨w.heap.size,1,none⟩=some (.int .i64 (s:Int))):=λx=>⟨qC d2 x,qC g1 x⟩
  have hmkd2:∀x y:Obj,((wr.alloc x).alloc y).cell? ⟨w1.heap.size,2,none⟩=some (.slice a gs.length cap):=λx y=>qC (qC d2 x) y
  clear hW1 hW2 hW3 hW4 hW6 hW7 hW8 hkk;by_cases hlt:gs.length<b
  .go_wp2_with fail;go_region_law
    ((refine zDB (enc:=zGX s) (F:=λx=>x∈w.heap.size :: w1.heap.size :: gs) (G:=λ_=>False) Tryz.elR (zKn s) (by rfl) _ _ (by rfl) w.heap.size (.slice a gs.length cap) (.slice (some ⟨wr.heap.size+1,0,none⟩) 1 1) gs [wr.heap.size] (by rfl) (by rfl) (HO.out.ext (((zA.refl _ wr.drew).alloc _).alloc _)) (Sl.one (x:=wr.heap.size) (t := 27) (fz:=(0,0)) (zU (by simp)) (λf=>f)) (by simp;omega) (by have:=HDB.out;simp;omega) (λf=>by have:=HLT.out _ f;simp at this;omega) ?_;intro a' c' w4 hown hgrow hat;obtain⟨k4,k5⟩:=zFF (zA.of_grown hgrow) (zFG (zFG (w:=wr.drew) ⟨d2,f2⟩ _) _) HDN.out))
   all_goals
    have HNX:=oh (HW.out.step (uI _) hsz hown hgrow (by simpa using hat));clear hown hgrow hat k4 k5;go_wp2_with fail;go_roundg (gk-1)
    case measure=>omega
    case rel=>exact⟨c',gs++[wr.heap.size],a',by simp;omega,by simp,by simpa using HNX⟩
  .have hkb:gs.length=b:=by omega
   have HKB:=oh hkb;clear hkb;go_wp2_with fail;go_ret2
   have hN:=HW.out;rw[HKB.out] at hN;obtain⟨P,q1,q2⟩:=hN.disk HKB.out (uI _) hsz h1 h2 h3 h4;exact⟨w1.heap.size,P,rfl,q1,q2,hN.1⟩
end
end
section
open Go.RowKit
def jC(F:NP)(w:World)(P:NP)(c s:Nat)(G:GA)(l:List Nat):Prop :=
 ∃(d sb:Nat) (bvs:List Value) (Pd:NP) (b2:Nat) (C:qK),jP F w d c sb bvs Pd C/\yS C/\zAC C G/\G.cost<=1000000/\SpR w s b2 l/\(∀k,P k ↔ (qW c sb Pd k\/spF s b2 k))/\∀k,qW c sb Pd k->¬ spF s b2 k
def zAl(F P:NP)(ad:Nat->Addr)(w:World)(c s:Nat)(G':GA)(l':List Nat)(R:(NP)->World->Ending->Prop)(e:Ending)(w':World):Prop :=
 ∃P' F',jC F' w' P' c s G' l'/\zR P P' F F' ad w w'/\R F' w' e
def GA.check(G:GA)(id:Int):Option Err:=if id<0\/(G.blocks:Int)<=id then some ([zAE id],2) else none
def GA.get(G:GA)(id:Int):zX ⊕ Err :=
 match G.check id with
 | some e=>.inr e
 | none=>match G.view id.toNat with
  | some (.inl p)=>.inl p
  | some (.inr (l,k))=>.inr (-1 :: l,k)
  | none=>.inr ([],0)
def GA.knows(G:GA)(id:Int):Prop:=G.check id=none->∃r,G.view id.toNat=some r
section
variable {P P' F F':NP}{ad:Nat->Addr}{w w':World}{c s:Nat}{G G':GA}{l l':List Nat}{R:(NP)->World->Ending->Prop}
theorem zR.iff{Q Q':NP}(n:zR P P' F F' ad w w')(h:∀k,Q k ↔ P k)(h':∀k,Q' k ↔ P' k):zR Q Q' F F' ad w w' :=
 ⟨⟨n.stp.mods.mono (λk hk=>(h k).2 hk),λk hk hq=>(h k).2 (n.stp.old k hk ((h' k).1 hq)),λk hq=>n.stp.bd k ((h' k).1 hq)⟩,λk hq=>n.sub k ((h' k).1 hq),n.grow,n.oldF,n.env⟩
theorem jC.at(h:jC F w P c s G l)(m:zF w w'):jC F w' P c s G l:=by
 obtain⟨d,sb,bvs,Pd,b2,C,h1,h2,h3,h4,h5,h6,h7⟩:=h;exact⟨d,sb,bvs,Pd,b2,C,h1.at m,h2,h3,h4,h5.mods m (λf=>f) (λf=>f),h6,h7⟩
theorem jC.bd(h:jC F w P c s G l):Bd P w:=λk hk=>by
 obtain⟨d,sb,bvs,Pd,b2,C,h1,h2,h3,h4,h5,h6,h7⟩:=h;rcases (h6 k).1 hk with hk|rfl|rfl
 .exact h1.bdP k hk
 .exact h5.own.lt
 .exact h5.row.lt
theorem jC.step{d sb sb' b2:Nat}{bvs':List Value}{Pd Pd':NP}{C':qK}(hL:zZ F ad w)(hP:∀k,P k->F k)(h5:SpR w s b2 l)(h6:∀k,P k ↔ (qW c sb Pd k\/spF s b2 k))(h7:∀k,qW c sb Pd k->¬ spF s b2 k)
  (hC:jP F' w' d c sb' bvs' Pd' C') (hI:yS C') (hG:zAC C' G') (hco:G'.cost<=1000000) (n:zR (qW c sb Pd) (qW c sb' Pd') F F' ad w w') :
  ∃P',jC F' w' P' c s G' l/\zR P P' F F' ad w w':=by
 have hns:¬ qW c sb Pd s:=λf=>h7 s f (.inl rfl)
 have hnb:¬ qW c sb Pd b2:=λf=>h7 b2 f (.inr rfl)
 have q:=n.part (Q:=spF s b2) (λk hk=>hP k ((h6 k).2 (.inr hk))) hL;refine⟨λk=>qW c sb' Pd' k\/spF s b2 k,⟨d,sb',bvs',Pd',b2,C',hC,hI,hG,hco,h5.mods n.stp.mods hns hnb,λk=>rP,λk hk hs=>?_⟩,q.iff h6 (λk=>rP)⟩;rcases hs with rfl|rfl
 .exact n.not h5.own.lt hns hk
 .exact n.not h5.row.lt hnb hk
theorem jC.lim(h:jC F w P c s G l):8<=G.blocks/\G.blocks<=256/\256<=G.size/\G.size<=1024/\8<=l.length/\l.length<=256:=by
 obtain⟨d,sb,bvs,Pd,b2,C,h1,h2,h3,h4,h5,h6,h7⟩:=h;exact⟨h3.blocks ▸ h2.b8,h3.blocks ▸ h2.b256,h3.size ▸ h2.s256,h3.size ▸ h2.s1024,h5.len,h5.len2⟩
theorem zLO{C:qK}(h:zAC C G)(id:Int)(hk:G.knows id):C.get id=G.get id:=by
 unfold qK.get GA.get;have e:C.check id=G.check id:=by unfold qK.check GA.check;rw[h.blocks]
 rw[e];cases hc:G.check id with
 | some e=>rfl
 | none =>
  obtain⟨r,hr⟩:=hk hc;simp only[hr];rw[h.view _ r hr];rcases r with p|⟨a,b⟩ <;> rfl
theorem zLA(hL:zZ F ad w)(hP:∀k,P k->F k)(h:jC F w P c s G l)(id:Int)(hk:G.knows id) :
  Calls Tryz.prog 329 #[.pointer (some ⟨c,0,none⟩),.int .i64 id] w (zAl F P ad w c s G l (λF' w' e=>zH4 F' ad w' (G.get id) e)):=by
 obtain⟨d,sb,bvs,Pd,b2,C,h1,h2,h3,h4,h5,h6,h7⟩:=h;refine (zIf hL (λk hk=>hP k ((h6 k).2 (.inl hk))) h1 h2 (uQ h3.cost h4) id).mono ?_;rintro e w' ⟨bvs',Pd',F',C',k1,k2,k3,k4⟩;obtain⟨P',q1,q2⟩:=jC.step hL hP h5 h6 h7 k1 k2.inv (k2.rel h3) h4 k3;exact⟨P',F',q1,q2,by rw[<- zLO h3 id hk];exact k4⟩
theorem zLl(hL:zZ F ad w)(hP:∀k,P k->F k)(h:jC F w P c s G l)(p:zX)(bv:Value)(hb:Sl F w 1 zM bv p.body)(hg:p.gen<18446744073709551616)(hid:0<=p.id/\p.id<G.blocks)(hpc:yN p G.size=none)(hco:G.cost<1000000) :
  Calls Tryz.prog 277 #[.pointer (some ⟨c,0,none⟩),yH p bv] w (zAl F P ad w c s (G.put p) l (λ_ _ e=>e=.returned .nilIface)):=by
 obtain⟨d,sb,bvs,Pd,b2,C,h1,h2,h3,h4,h5,h6,h7⟩:=h;refine (zIg hL (λk hk=>hP k ((h6 k).2 (.inl hk))) h1 h2 (uQ h3.cost h4) p bv hb hg).mono ?_;rintro e w' ⟨bvs',Pd',F',C',ev,rfl,k1,k3,k4,k5⟩;have hE:C.putE p=none:=by
  unfold qK.putE qK.check;rw[if_neg (by rw[h3.blocks];omega),h3.size];simp only[hpc];rfl
 rcases k5 with ⟨_,_,_,hI,hR⟩|⟨hne,_⟩
 .obtain⟨P',q1,q2⟩:=jC.step hL hP h5 h6 h7 k1 hI (hR G h3) (by show G.cost+1<=_;omega) k3;rw[hE] at k4;cases k4
  exact⟨P',F',q1,q2,rfl⟩
 .exact absurd hE hne
theorem zLP(hL:zZ F ad w)(hP:∀k,P k->F k)(h:jC F w P c s G l)(id:Nat) :
  Calls Tryz.prog 344 #[.pointer (some ⟨c,0,none⟩),.int .i64 (id:Int)] w (zAl F P ad w c s (G.drop id) l (λ_ _ e=>∃b,e=.returned (.bool b))):=by
 obtain⟨d,sb,bvs,Pd,b2,C,h1,h2,h3,h4,h5,h6,h7⟩:=h;refine (zHI hL (λk hk=>hP k ((h6 k).2 (.inl hk))) h1 h2 id).mono ?_;rintro e w' ⟨b,bvs',C',rfl,k1,k3,k4,_,_,k5⟩;obtain⟨P',q1,q2⟩:=jC.step hL hP h5 h6 h7 k1 k4 (k5 G h3) h4 k3;exact⟨P',F,q1,q2,b,rfl⟩
theorem zMJ{F:NP}{d sb:Nat}{bvs:List Value}{Pd:NP}{C:qK}(h:jP F w d c sb bvs Pd C):∀p∈C.disk.waiting,p.1<C.disk.blocks:=by
 obtain⟨bl,gs,ws,wv,kv,h1,h2⟩:=h.disk;intro p hp;obtain⟨j,hj,e⟩:=uR hp;have hw:j<ws.length:=by rw[h1.lenW];exact hj
 exact (h1.wrow j _ p (uA hw) (by rw[<- e];exact uA hj)).1
theorem jC.space(hL:zZ F ad w)(hP:∀k,P k->F k){d sb b2:Nat}{bvs:List Value}{Pd:NP}{C:qK}(h1:jP F w d c sb bvs Pd C)(h2:yS C)(h3:zAC C G)(h4:G.cost<=1000000)(h6:∀k,P k ↔ (qW c sb Pd k\/spF s b2 k))(h7:∀k,qW c sb Pd k->¬ spF s b2 k)
  (h5:SpR w' s b2 l') (m:zA (spF s b2) w w'):jC F w' P c s G l'/\zR P P F F ad w w' :=
 ⟨⟨d,sb,bvs,Pd,b2,C,h1.far m h7 (λk hk=>hP k ((h6 k).2 (.inr hk))),h2,h3,h4,h5,h6,h7⟩,zR.same hL hP (m.mono (λk hk=>(h6 k).2 (.inr hk)))⟩
def zLm(ad:Nat->Addr)(l:List Nat)(F':NP)(w':World)(e:Ending):Prop :=
 (∃i,qG l=some i/\i<l.length/\e=.returned (.tuple #[.int .i64 (i:Int),.nilIface]))\/(qG l=none/\∃f,e=.returned (.tuple #[.int .i64 0,zD f])/\yG F' ad w' (zD f) [-1] 3)
def zAm(l:List Nat):List Nat:=match qG l with|some i=>l.set i 2|none=>l
theorem zJt(hL:zZ F ad w)(hP:∀k,P k->F k)(h:jC F w P c s G l) :
  Calls Tryz.prog 343 #[.pointer (some ⟨s,0,none⟩)] w (zAl F P ad w c s G (zAm l) (zLm ad l)):=by
 obtain⟨d,sb,bvs,Pd,b2,C,h1,h2,h3,h4,h5,h6,h7⟩:=h;refine (zG6 hL s b2 l h5).mono ?_;rintro e w' (⟨i,k1,k2,rfl,k3,k4⟩|⟨k1,f,rfl,k3,k4⟩)
 .obtain⟨q1,q2⟩:=jC.space hL hP h1 h2 h3 h4 h6 h7 k3 k4;exact⟨P,F,by unfold zAm;rw[k1];exact q1,q2,.inl ⟨i,k1,k2,rfl⟩⟩
 .have q:=zR.ext hL hP k4;exact⟨P,F,by unfold zAm;rw[k1];exact⟨d,sb,bvs,Pd,b2,C,h1.at k4,h2,h3,h4,h5.mods k4 (λf=>f) (λf=>f),h6,h7⟩,q,.inr ⟨k1,f,rfl,k3⟩⟩
theorem zLQ(hL:zZ F ad w)(hP:∀k,P k->F k)(h:jC F w P c s G l)(id:Int) :
  Calls Tryz.prog 345 #[.pointer (some ⟨s,0,none⟩),.int .i64 id] w (zAl F P ad w c s G (jV l id).1 (λF' w' e=>∃ev,e=.returned ev/\zAB F' ad w' ev (jV l id).2)):=by
 obtain⟨d,sb,bvs,Pd,b2,C,h1,h2,h3,h4,h5,h6,h7⟩:=h;refine (zJg hL s b2 l h5 id).mono ?_;rintro e w' ⟨ev,rfl,k1,k2,k3⟩;obtain⟨q1,q2⟩:=jC.space hL hP h1 h2 h3 h4 h6 h7 k2 k3;exact⟨P,F,q1,q2,ev,rfl,k1⟩
theorem zJu(h:jC F w P c s G l):∃d,Hid (jC F w P c s G l)/\(Calls Tryz.prog 341 #[.pointer (some ⟨c,0,none⟩)] w λe w'=>e=.returned (.pointer (some ⟨d,0,none⟩))/\w=w') /\
  (∀w',zF w w' -> Calls Tryz.prog 90 #[.pointer (some ⟨d,0,none⟩)] w' λe w''=>e=.returned (.agg #[.int .i64 G.blocks,.int .i64 G.size])/\zF w' w''):=by
 have H:=oh h;obtain⟨d,sb,bvs,Pd,b2,C,h1,h2,h3,h4,h5,h6,h7⟩:=h;refine⟨d,H,zHG h1,λw' m=>?_⟩;rw[<- h3.blocks,<- h3.size];exact (h1.disk.at m).geo
end
def pgV(c s gen:Nat):Value:=.agg (gP c s gen)
def zAb(n:Int):Option Err:=if n<=24\/4096<n then some ([-1],2) else none
section
variable {P P' F F':NP}{ad:Nat->Addr}{w w':World}{c s:Nat}{G G':GA}{l l':List Nat}
theorem zHL(h:jC F w P c s G l)(gen:Nat) : Calls Tryz.prog 353 #[pgV c s gen] w λe w'=>e=.returned (.int .i64 (G.size:Int))/\zF w w':=by
 unfold pgV;have m0:zF w (w.alloc (gP c s gen)):=(zss w).alloc _;obtain⟨d,HH,h1,h2⟩:=zJu (h.at m0);have gf1:=Tryz.geoF1;have H1:=oh h1;have H2:=oh h2;have M0:=oh m0;clear h1 h2 h m0
 go_enter Tryz.func353, Tryz.ntmps353
 go_wp2_with fail;refine H1.out.mono ?_;rintro e w1 ⟨rfl,rfl⟩;go_wp2_with fail;refine (H2.out _ zr).mono ?_;rintro e w2 ⟨rfl,hm⟩;have HM:=oh hm;clear hm;go_wp2_with fail;go_ret;exact⟨rfl,M0.out.trans HM.out⟩
theorem zGa(hL:zZ F ad w)(op:ByteArray)(gen:Nat)(n:Int) : Calls Tryz.prog 330 #[.string op,pgV c s gen,.int .i64 n] w λe w'=>∃ev,e=.returned ev/\zAB F ad w' ev (zAb n)/\zF w w':=by
 unfold pgV;have m0:zF w (w.alloc (gP c s gen)):=(zss w).alloc _;have hL0:=hL.mods m0.ext;have g2:=hL.c2;have hsz:=hL.size;have g2' : 0 < w.heap.size:=by omega
 have HL:=oh hL0;have M0:=oh m0;clear hL hL0 m0;by_cases h1:n<=24
 .have HR:Hid (zAb n=some ([-1],2)):=oh (by unfold zAb;rw[if_pos (.inl h1)])
  go_enter Tryz.func330, Tryz.ntmps330
  go_wp2_with fail;refine (yD HL.out _ _ [] 2 (.sent 2 (by decide) (by decide))).mono ?_;rintro e w1 ⟨f,rfl,hE,hm⟩;have HE:=oh hE;have HM:=oh hm;clear hE hm;go_wp2_with fail;go_ret;exact⟨_,rfl,by rw[HR.out];exact⟨f,rfl,HE.out⟩,M0.out.trans HM.out⟩
 .by_cases h2:4096<n
  .have HR:Hid (zAb n=some ([-1],2)):=oh (by unfold zAb;rw[if_pos (.inr h2)])
   go_enter Tryz.func330, Tryz.ntmps330
   go_wp2_with fail;refine (yD HL.out _ _ [] 2 (.sent 2 (by decide) (by decide))).mono ?_;rintro e w1 ⟨f,rfl,hE,hm⟩;have HE:=oh hE;have HM:=oh hm;clear hE hm;go_wp2_with fail;go_ret;exact⟨_,rfl,by rw[HR.out];exact⟨f,rfl,HE.out⟩,M0.out.trans HM.out⟩
  .have HR:Hid (zAb n=none):=oh (by unfold zAb;rw[if_neg (by omega)])
   go_enter Tryz.func330, Tryz.ntmps330
   go_wp2_with fail;go_ret;exact⟨_,rfl,by rw[HR.out];rfl,M0.out⟩
end
theorem Tryz.elI:ElT Tryz.prog 78 3 (.int .i64 0) 1 8:=⟨Tryz.underlying78,Tryz.mkI,rfl,by decide,by decide⟩
theorem vY{P:Program}{α:Type}{F G:NP}{w:World}{t e:TypeId}{z:Value}{sz bytes:Nat}{enc:α->List Value}(T:ElT P t e z sz bytes)(E:zBE enc sz)
  {ops:Array Oper} {rest:List Oper} {o:Oper} {a:Act} {Q:Exit->Act->World->Prop} (hgd:o.guard=none) (sx x:Operand)
  (ho:o.op=.call { callee:=.builtin .append,args:=#[sx,x],argTypes:=#[t,t] })
  (base:Nat) (v s:Value) (l m:List α) (hv:a.eval sx=v) (hx:a.eval x=s) (hown:yA F w base e sz enc v l) (hs:Sl G w sz enc s m) (hb:(l.length+m.length) * bytes<=140737488355328) (hbase:base<=w.heap.size) (hn:¬ F w.heap.size)
  (h:∀a' c' w',yA F w' base e sz enc (.slice a' (l.length+m.length) c') (l++m)->zA (λk=>v.ownBlock=some k) w w' ->
   ((Value.slice a' (l.length+m.length) c').ownBlock=v.ownBlock\/(Value.slice a' (l.length+m.length) c').ownBlock=some w.heap.size)->wpList P ops Q rest (a.put o.dst (.slice a' (l.length+m.length) c')) w') :
  wpList P ops Q (o :: rest) a w:=by
 obtain⟨i,hi,hz,hs1,hb1⟩:=zC7 T.info;refine zCU hgd sx x t ho base e i z sz bytes T.under hi hz hs1 hb1 T.zs T.sz0 enc E.len E.one v s l m hv hx hown hs hb T.by0 hbase hn ?_;intro a' c' w' h1 h2 h3;exact h a' c' w' h1 (zA.of_grown h2) h3
def zDz{α:Type}(w0:World)(F P:NP)(w:World)(e:TypeId)(sz:Nat)(enc:α->List Value)(v:Value)(l:List α):Prop :=
 yA (λ_=>False) w w0.heap.size e sz enc v l/\∀g,v.ownBlock=some g->F g/\¬ P g
section
variable {α:Type}{P0 P P' F0 F F':NP}{ad:Nat->Addr}{w0 w w':World}{c s:Nat}{G G':GA}{l l':List Nat}{e:TypeId}{sz:Nat}{enc:α->List Value}{v v':Value}{x x':List α}
theorem zDz.nxt(h:zDz w0 F P w e sz enc v x)(n:zR P P' F F' ad w w'):zDz w0 F' P' w' e sz enc v x :=
 ⟨h.1.mods n.stp.mods (λg hg=>(h.2 g hg).2),λg hg=>⟨n.grow g (h.2 g hg).1,n.not (h.1.lt g hg).2 (h.2 g hg).2⟩⟩
theorem zDz.nil(w0:World)(F P:NP)(w:World)(e:TypeId)(sz:Nat)(enc:α->List Value):zDz w0 F P w e sz enc (.slice none 0 0) ([]:List α) :=
 ⟨yA.nil _ _ _ _ _ _,λg hg=>by simp[Value.ownBlock] at hg⟩
def zH7(F:NP)(v:Value):NP:=λk=>F k\/v.ownBlock=some k
theorem zDz.app(n:zR P0 P F0 F ad w0 w)(h:zDz w0 F P w e sz enc v x)(ho:yA (λ_=>False) w' w0.heap.size e sz enc v' x')(m:zA (λk=>v.ownBlock=some k) w w'){K:Nat}(hat:v'.ownBlock=v.ownBlock\/v'.ownBlock=some K)(hK:w.heap.size<=K) :
  zR P0 P F0 (zH7 F v') ad w0 w'/\zDz w0 (zH7 F v') P w' e sz enc v' x':=by
 have hv:=λg (hg:v.ownBlock=some g)=>h.1.lt g hg
 have hb:∀k,v'.ownBlock=some k->k<w'.heap.size:=λk hk=>(ho.lt k hk).2
 have h0:∀k,v'.ownBlock=some k->w0.heap.size<=k:=λk hk=>(ho.lt k hk).1
 refine⟨⟨⟨n.stp.mods.trans' m (λi hi e=>by have:=(hv i e).1;omega),n.stp.old,λk hk=>uD (n.stp.bd k hk) m.size⟩,λk hk=>.inl (n.sub k hk),λk hk=>.inl (n.grow k hk),λk hk hf=>?_,?_⟩,ho,λg hg=>⟨.inr hg,?_⟩⟩
 .rcases hf with hf|hf
  .exact n.oldF k hk hf
  .have:=h0 k hf;omega
 .exact n.env.step (m.mono (λk hk=>(h.2 k hk).1)) (λk hk hn hf=>by
   rcases hf with hf|hf
   .exact hn hf
   .rcases hat with e|e
    .exact hn (h.2 k (e ▸ hf)).1
    .rw[e] at hf;injection hf with hf;omega) (λk hf=>hf.elim (λhf=>uD (n.env.lt k hf) m.size) (hb k))
 .rcases hat with e|e
  .exact (h.2 g (e ▸ hg)).2
  .rw[e] at hg;injection hg with hg;exact λhp=>by have:=n.stp.bd g hp;omega
theorem jP.plus{d sb:Nat}{bvs:List Value}{Pd:NP}{C:qK}(h:jP F w d c sb bvs Pd C){Q:NP}(m:zA Q w w')(hQ:∀k,qW c sb Pd k->¬ Q k)(hF:∀k,Q k->F k)(hG:∀k,k<w.heap.size->¬ F k->¬ F' k):jP F' w' d c sb bvs Pd C :=
 ⟨h.own.mods m (hQ c (.inr (.inl rfl))),h.row.at m (hQ sb (.inr (.inr rfl))),h.lenB,h.n64,λi s bv h1 h2=>(h.body i s bv h1 h2).step (m.mono hF) hG,h.disk.far m (λk hk=>hQ k (.inl hk)),h.cd,h.sd,h.ne⟩
theorem jC.plus(h:jC F w P c s G l){Q:NP}(m:zA Q w w')(hQ:∀k,P k->¬ Q k)(hF:∀k,Q k->F k)(hG:∀k,k<w.heap.size->¬ F k->¬ F' k):jC F' w' P c s G l:=by
 obtain⟨d,sb,bvs,Pd,b2,C,h1,h2,h3,h4,h5,h6,h7⟩:=h;exact⟨d,sb,bvs,Pd,b2,C,h1.plus m (λk hk=>hQ k ((h6 k).2 (.inl hk))) hF hG,h2,h3,h4,h5.mods m (hQ s ((h6 s).2 (.inr (.inl rfl)))) (hQ b2 ((h6 b2).2 (.inr (.inr rfl)))),h6,h7⟩
theorem jC.app(hp:jC F w P c s G l)(h:zDz w0 F P w e sz enc v x)(m:zA (λk=>v.ownBlock=some k) w w'){K:Nat}(hat:v'.ownBlock=v.ownBlock\/v'.ownBlock=some K)(hK:w.heap.size<=K):jC (zH7 F v') w' P c s G l :=
 hp.plus m (λk hk e=>(h.2 k e).2 hk) (λk hk=>(h.2 k hk).1) (λk hk hn hf=>by
  rcases hf with hf|hf
  .exact hn hf
  .rcases hat with e|e
   .exact hn (h.2 k (e ▸ hf)).1
   .rw[e] at hf;injection hf with hf;omega)
end
section
variable {P P' F F':NP}{ad:Nat->Addr}{w w':World}{c s:Nat}{G G':GA}{l l':List Nat}
theorem jY{l:List Nat}{i:Nat}(h:qG l=some i):l[i]? = some 0/\i<l.length:=by
 unfold qG at h;rw[List.findIdx?_eq_some_iff_getElem] at h;obtain⟨h1,h2,_⟩:=h;exact⟨by rw[uA h1];simpa using h2,h1⟩
end
end
section
open Go.RowKit
attribute [local go_sem ↓] Go.wp_at_zero Go.wp_at_succ
theorem zFq(s:ByteArray):Go.Lib.strCells s=s.data.toList.flatMap zM:=by
 unfold Go.Lib.strCells;induction s.data.toList with
 | nil=>rfl
 | cons x l ih=>rw[tP,wG,ih];rfl
theorem zCC(s:ByteArray):s.data.toList.length=s.size:=by rw[tD];rfl
end
section
open Go.RowKit
def vF(size:Nat)(x:zX)(n:Int):Bool :=
 (qQ x.body 0 4).2.isSome || decide (x.kind≠4) || decide ((x.body.length:Int)≠4+min n ((size:Int)-28)) || (decide ((qQ x.body 0 4).1=0) != decide (n=min n ((size:Int)-28)))
def vQ(G:GA):Nat->Int->Int->List (Int × List UInt8) × Option Err
 | 0,_,_=>([],none)
 | f+1,id,n=>if n<=0 then ([],none) else
  match G.get id with
  | .inr e=>([],some e)
  | .inl x=>if vF G.size x n=true then ([],some ([zAE id],5)) else
   ((id,x.body.drop 4) :: (vQ G f ((qQ x.body 0 4).1:Nat) (n-min n ((G.size:Int)-28))).1,(vQ G f ((qQ x.body 0 4).1:Nat) (n-min n ((G.size:Int)-28))).2)
def zBU(G:GA):Nat->Int->Int->Prop
 | 0,_,_=>True
 | f+1,id,n=>0<n->G.knows id/\∀x,G.get id=.inl x->vF G.size x n=false->zBU G f ((qQ x.body 0 4).1:Nat) (n-min n ((G.size:Int)-28))
def U(A B:NP):NP:=λk=>A k\/B k
structure WS(J:(NP)->(NP)->World->List (Int × List UInt8)->Prop)(P V F:NP)(ad:Nat->Addr)(w:World)(B0 c s gen:Nat)(G:GA)(l:List Nat)(P1 V1 F1:NP)(wr:World)(acc:List (Int × List UInt8)):Prop where
 pg:jC F1 wr P1 c s G l
 nx:zR (U P V) (U P1 V1) F F1 ad w wr
 box:zJ wr B0 (gP c s gen) 140
 bP:¬ P1 B0
 bV:¬ V1 B0
 j:J V1 F1 wr acc
 apart:∀k,P1 k->¬ V1 k
def zEU(J:(NP)->(NP)->World->List (Int × List UInt8)->Prop)(F P V:NP)(ad:Nat->Addr)(w:World)(c s:Nat)(G:GA)(l:List Nat)(r:List (Int × List UInt8) × Option Err)(e:Ending)(w':World):Prop :=
 ∃(P' V' F':NP) (ev:Value),e=.returned ev/\jC F' w' P' c s G l/\zR (U P V) (U P' V') F F' ad w w'/\J V' F' w' r.1/\(∀k,P' k->¬ V' k)/\zAB F' ad w' ev r.2
def zH8(J:(NP)->(NP)->World->List (Int × List UInt8)->Prop)(ad:Nat->Addr):Prop :=
 ∀(P1 P2 V1 F1 F2:NP) (w1 w2:World) (acc:List (Int × List UInt8)),J V1 F1 w1 acc->zR P1 P2 F1 F2 ad w1 w2->(∀k,P1 k->¬ V1 k)->J V1 F2 w2 acc
section
variable {J:(NP)->(NP)->World->List (Int × List UInt8)->Prop}{P V F P1 P2 V1 V2 F1 F2:NP}{ad:Nat->Addr}{w wr w2:World}{B0 c s gen:Nat}{G:GA}{l:List Nat}{acc acc':List (Int × List UInt8)}
theorem WS.envr(h:WS J P V F ad w B0 c s gen G l P1 V1 F1 wr acc):zZ F1 ad wr:=h.nx.env
theorem WS.subP(h:WS J P V F ad w B0 c s gen G l P1 V1 F1 wr acc):∀k,P1 k->F1 k:=λk hk=>h.nx.sub k (.inl hk)
theorem WS.subV(h:WS J P V F ad w B0 c s gen G l P1 V1 F1 wr acc):∀k,V1 k->F1 k:=λk hk=>h.nx.sub k (.inr hk)
theorem WS.nxt(h:WS J P V F ad w B0 c s gen G l P1 V1 F1 wr acc)(K:zH8 J ad)(n:zR P1 P2 F1 F2 ad wr w2)(hG:jC F2 w2 P2 c s G l):WS J P V F ad w B0 c s gen G l P2 V1 F2 w2 acc :=
 ⟨hG,h.nx.trans (n.part (Q:=V1) h.subV h.envr),n.blk h.box h.bP,n.not h.box.lt h.bP,h.bV,K _ _ _ _ _ _ _ _ h.j n h.apart,λk hk hv=>by
  have hb:=h.nx.stp.bd k (.inr hv);exact h.apart k (n.stp.old k hb hk) hv⟩
theorem WS.ext(h:WS J P V F ad w B0 c s gen G l P1 V1 F1 wr acc)(K:zH8 J ad)(m:zF wr w2):WS J P V F ad w B0 c s gen G l P1 V1 F1 w2 acc :=
 h.nxt K (zR.ext h.envr h.subP m) (h.pg.at m)
theorem WS.clo(h:WS J P V F ad w B0 c s gen G l P1 V1 F1 wr acc)(n:zR V1 V2 F1 F2 ad wr w2)(hj:J V2 F2 w2 acc'):WS J P V F ad w B0 c s gen G l P1 V2 F2 w2 acc':=by
 have hq:=n.part (Q:=P1) h.subP h.envr;have hq2:zR (U P1 V1) (U P1 V2) F1 F2 ad wr w2:=hq.iff (λk=>Or.comm) (λk=>Or.comm);refine⟨h.pg.plus n.stp.mods (λk hk hv=>h.apart k hk hv) h.subV (λk hk hn hf=>hn (n.oldF k hk hf)),h.nx.trans hq2,n.blk h.box h.bV,h.bP,n.not h.box.lt h.bV,hj,λk hk hv=>?_⟩;have hb:=h.nx.stp.bd k (.inl hk);exact h.apart k hk (n.stp.old k hb hv)
end
section
variable {P P' F F':NP}{ad:Nat->Addr}{w w':World}{c s:Nat}{G G':GA}{l l':List Nat}
theorem zJv(b:List UInt8):(qQ b 0 4).1<4294967296:=by
 unfold qQ;split
 .simp
 .split
  .simp
  .have:=zCM ((b.drop (0:Int).toNat).take 4);have h2:((b.drop (0:Int).toNat).take 4).length<=4:=List.length_take_le _ _;have h3:(256:Nat) ^ ((b.drop (0:Int).toNat).take 4).length<=256 ^ 4:=wW (by omega) h2;simp only;omega
theorem zJw(J:(NP)->(NP)->World->List (Int × List UInt8)->Prop)(V:NP)(hL:zZ F ad w)(hP:∀k,P k->F k)(hV:∀k,V k->F k)(hPV:∀k,P k->¬ V k)(h:jC F w P c s G l)(gen:Nat)(id n:Int)(hn:n<=4096)(fuel:Nat)(hf:n<=fuel)(hok:zBU G fuel id n)(fn:FuncId)(cv:Value)
  (hid : -9223372036854775808<=id/\id<=9223372036854775807) (hn0:0<=n)
  (hcf:∀(args:Array Value) (w:World),(callFunc fn args).run Tryz.prog w=.ok (.enter fn args) w)
  (hJ0:J V F w []) (hJn:zH8 J ad)
  (hJs:∀(V1 F1:NP) (w1:World) (acc:List (Int × List UInt8)) (id:Int) (sv:Value) (b:List UInt8),J V1 F1 w1 acc->zZ F1 ad w1->(∀k,V1 k->F1 k)->Sl F1 w1 1 zM sv b->b.length<=1000->acc.length<=4096 ->
   Calls Tryz.prog fn #[.int .i64 id,sv,cv] w1 λe w2=>∃V2 F2,e=.returned (.tuple #[])/\J V2 F2 w2 (acc++[(id,b)])/\zR V1 V2 F1 F2 ad w1 w2) :
  Calls Tryz.prog 331 #[pgV c s gen,.int .i64 id,.int .i64 n,.func (.func fn) #[] #[cv]] w (zEU J F P V ad w c s G l (vQ G fuel id n)):=by
 unfold pgV;have hlim:=h.lim;have m0:zF w (w.alloc (gP c s gen)):=(zss w).alloc _;have hs0:WS J P V F ad w w.heap.size c s gen G l P V F (w.alloc (gP c s gen)) []:=by
  have hn:=zR.ext hL (P:=U P V) (λk hk=>hk.elim (hP k) (hV k)) m0;exact⟨h.at m0,hn,zJ.new w _ _,λf=>by have:=h.bd _ f;omega,λf=>by have:=hL.lt _ (hV _ f);omega,hJn _ _ _ _ _ _ _ _ hJ0 (zR.ext hL hP m0) hPV,hPV⟩
 have HS0:=oh hs0;have HJN:=oh hJn;have HJS:=oh hJs;have HOK:=oh hok;obtain⟨b8,b256,s256,s1024,_,_⟩:=hlim;obtain⟨nn,hnn⟩:∃nn,nn=G.size-28:=⟨_,rfl⟩;have hnI:(G.size:Int)-28=(nn:Int):=by omega
 have HNI:=oh hnI;have hnn2:228<=nn/\nn<=996:=by omega
 obtain⟨hnn3,hnn4⟩:=hnn2;clear hL hP h m0 hJ0 hJn hJs hok hnn hnI hV hPV hs0
 go_enter Tryz.func331, Tryz.ntmps331
 go_wp2_with fail;go_loopg [1,2] fuel (λm iv nv wr=>∃(id1 n1:Int) (P1 V1 F1:NP) (acc:List (Int × List UInt8)),iv=.int .i64 id1/\nv=.int .i64 n1/\n1<=m/\0<=n1/\n1<=4096/\(-9223372036854775808<=id1/\id1<=9223372036854775807) /\
  Hid (WS J P V F ad w w.heap.size c s gen G l P1 V1 F1 wr acc/\zBU G m id1 n1/\(acc.length:Int)+n1<=4096/\acc++(vQ G m id1 n1).1=(vQ G fuel id n).1/\(vQ G m id1 n1).2=(vQ G fuel id n).2))
 case atStart=>exact⟨id,n,P,V,F,[],rfl,rfl,hf,hn0,hn,hid,oh ⟨HS0.out,HOK.out,by simpa using hn,by simp,rfl⟩⟩
 case round =>
  obtain⟨id1,n1,P1,V1,F1,acc,rfl,rfl,hf1,h01,hn1,⟨hi1,hi2⟩,HW⟩:=hrel;by_cases hpos:0<n1
  .obtain⟨m,rfl⟩:∃m,gk=m+1:=⟨gk-1,by omega⟩;have hW3:=HW.out.1.box;have hkn:=(HW.out.2.1 hpos).1;have HKN:=oh hkn;have r0:=hW3.d 0 (.pointer (some ⟨c,0,none⟩)) rfl;clear hW3 hkn;go_wp2_with fail;refine (zLA HW.out.1.envr HW.out.1.subP HW.out.1.pg id1 HKN.out).mono ?_;rintro e w2 ⟨P2,F2,hG2,hN2,hres⟩;have HS2:=oh (HW.out.1.nxt HJN.out hN2 hG2);have HB2:=oh HS2.out.box;clear hG2 hN2 r0;rcases hres with ⟨x,xv,hx,rfl,hxv⟩|⟨er,f,hx,rfl,hE⟩
   .obtain⟨xa,xc,rfl,x1,x2,x3,x4⟩:=_root_.id hxv;obtain⟨xk,xi,xg,xb⟩:=x;simp only at x1 x3 x4 hxv;unfold maxLen at x2;have HXV:=oh hxv;have HX:=oh hx;have X4:=oh x4;obtain⟨wt,hwt⟩:∃wt:Nat,min n1 (nn:Int)=(wt:Int):=⟨(min n1 (nn:Int)).toNat,by omega⟩;have hwt1:1<=wt:=by omega
    have hwt2:(wt:Int)<=n1:=by omega
    have hwt3:wt<=996:=by omega
    have HWT:Hid (min n1 ((G.size:Int)-28)=(wt:Int)):=oh (by rw[HNI.out];exact hwt);have hB3:=HB2.out.alloc (.cells #[.int .i64 xk,.int .i64 xi,.int .u64 (xg:Int),.slice xa xb.length xc] 272);have r0:=hB3.d 0 (.pointer (some ⟨c,0,none⟩)) rfl;have r1:=hB3.d 1 (.pointer (some ⟨s,0,none⟩)) rfl;have r2:=hB3.d 2 (.int .u64 (gen:Int)) rfl;have HG3:=oh (HS2.out.pg.at ((zss w2).alloc (.cells #[.int .i64 xk,.int .i64 xi,.int .u64 (xg:Int),.slice xa xb.length xc] 272)));have HB9:=oh (zJ.new w2 #[.int .i64 xk,.int .i64 xi,.int .u64 (xg:Int),.slice xa xb.length xc] 272);clear hx hxv x4 hB3;simp only[yH];go_wp2_with fail;refine (zHL HG3.out gen).mono ?_;rintro e w4 ⟨rfl,hm4⟩;have HM4:Hid (zF w2 w4):=oh (((zss w2).alloc _).trans hm4);have hB9:=HB9.out.ext hm4;have q0:=hB9.d 0 (.int .i64 xk) rfl;have q3:=hB9.d 3 (.slice xa xb.length xc) rfl;have HB94:=oh hB9;clear hm4 hB9 r0 r1 r2;go_wp2_with fail;refine (zIW (G.size:Int) _ (by omega) (by omega)).mono ?_;rintro e w4' ⟨rfl,rfl⟩;rw[HNI.out];have HL4:=oh (HS2.out.envr.mods HM4.out.ext);go_wp2_with fail;refine (zEH HL4.out (.slice xa xb.length xc) xb (HXV.out.ext HM4.out) 0 4 (by omega)).mono ?_;rintro e w5 ⟨ev,rfl,hE5,hm5⟩;have HM5:Hid (zF w2 w5):=oh (HM4.out.trans hm5);have HL5:=oh (HS2.out.envr.mods HM5.out.ext);have c5:=HL5.out.c5;have hB9:=HB94.out.ext hm5;have p0:=hB9.d 0 (.int .i64 xk) rfl;have p3:=hB9.d 3 (.slice xa xb.length xc) rfl;have htl:=zJv xb;obtain⟨tk,htk⟩:∃t,t=qQ xb 0 4:=⟨_,rfl⟩;rw[<- htk] at hE5 htl ⊢;obtain⟨nx,o⟩:=tk;simp only at hE5 htl ⊢;have HTK:=oh htk;have BAD:vF G.size ⟨xk,xi,xg,xb⟩ n1=true->∀(w6:World) (f6:Nat),zF w5 w6->yG F2 ad w6 (zD f6) [zAE id1] 5->zEU J F P V ad w c s G l (vQ G fuel id n) (.returned (zD f6)) w6:=by
     intro hpb w6 f6 hm6 hE6;have h8:=HW.out.2.2.2.1;have h9:=HW.out.2.2.2.2;rw[vQ,if_neg (by omega),HX.out] at h8 h9;simp only[hpb,rE] at h8 h9;have hS:=HS2.out.ext HJN.out (HM5.out.trans hm6);refine⟨P2,V1,F2,_,rfl,hS.pg,hS.nx,?_,hS.apart,?_⟩
     .rw[<- h8,wB];exact hS.j
     .rw[<- h9];exact⟨f6,rfl,hE6⟩
    have BADT:Hid (∀(w6:World) (f6:Nat),vF G.size ⟨xk,xi,xg,xb⟩ n1=true->zF w5 w6->yG F2 ad w6 (zD f6) [zAE id1] 5->zEU J F P V ad w c s G l (vQ G fuel id n) (.returned (zD f6)) w6):=oh (λw6 f6 hpb h1 h2=>BAD hpb w6 f6 h1 h2);clear BAD htk hm5 hB9 q0 q3;cases o with
    | some er =>
     obtain⟨el,ek⟩:=er;obtain⟨f5,rfl,_⟩:=hE5;have HPB:Hid (vF G.size ⟨xk,xi,xg,xb⟩ n1=true):=oh (by unfold vF;rw[<- HTK.out];simp)
     -- bad
     go_wp2_with fail;refine (qO HL5.out _ id1 _ _ 5 (.sent 5 (by decide) (by decide))).mono ?_;rintro e w6 ⟨f6,rfl,hE6,hm6⟩;have HE6:=oh hE6;have HM6:=oh hm6;clear hE6 hm6;go_wp2_with fail;go_ret;exact BADT.out w6 f6 HPB.out HM6.out HE6.out
    | none =>
     cases hE5
     by_cases hk4:xk=4
     .subst hk4;by_cases hlen:(xb.length:Int)=4+(wt:Int)
      .have b1:((xb.length:Int) != 4+(wt:Int))=false:=by simp[hlen]
       by_cases hz:(nx=0) ↔ (n1=(wt:Int))
       .have HPB:Hid (vF G.size ⟨4,xi,xg,xb⟩ n1=false):=oh (by
         unfold vF;rw[<- HTK.out,HWT.out];by_cases h1:nx=0 <;> by_cases h2:n1=(wt:Int) <;> simp[h1,h2,hlen] at hz ⊢)
        have hxl:5<=xb.length:=by omega
        have HLN:=oh hlen;obtain⟨b0,off,hxa⟩:∃b0 off,xa=some ⟨b0,off,none⟩:=by
         rcases X4.out with h|⟨b,off,h,_⟩
         .rw[h] at hxl;simp at hxl
         .exact⟨b,off,h⟩
        subst hxa;have HSL:Hid (Sl F2 w5 1 zM (.slice (some ⟨b0,off+4,none⟩) (xb.length-4) (xc-4)) (xb.drop 4)):=oh (by
         have:=(HXV.out.ext HM5.out).sub 4 xb.length (by omega) (uI _);rw[uV (by simp)] at this;exact this)
        have HS5:=oh (HS2.out.ext HJN.out HM5.out);have hxc5:5<=xc:=by omega
        have hxc4:¬ xc=4:=by omega
        have HAL:Hid (acc.length<=4096):=oh (by have:=HW.out.2.2.1;omega);have HNXT:Hid (zBU G m (nx:Int) (n1-(wt:Int))/\acc++[(id1,xb.drop 4)]++(vQ G m (nx:Int) (n1-(wt:Int))).1=(vQ G fuel id n).1/\(vQ G m (nx:Int) (n1-(wt:Int))).2=(vQ G fuel id n).2):=oh (by
         have h6:=(HW.out.2.1 hpos).2 ⟨4,xi,xg,xb⟩ HX.out HPB.out;have h8:=HW.out.2.2.2.1;have h9:=HW.out.2.2.2.2;rw[vQ,if_neg (by omega),HX.out] at h8 h9;simp only[HPB.out] at h8 h9;rw[<- HTK.out,HWT.out] at h6 h8 h9;refine⟨h6,?_,by simpa using h9⟩;simpa using h8)
        by_cases h1:nx=0
        .subst h1;have h2:n1=(wt:Int):=hz.1 rfl;subst h2;clear hz hlen;go_wp2_with fail;refine (HJS.out V1 F2 w5 acc id1 _ (xb.drop 4) HS5.out.j HS5.out.envr HS5.out.subV HSL.out (by have:=HLN.out;simp;omega) HAL.out).mono ?_;rintro e w6 ⟨V6,F6,rfl,hJ6,hX6⟩;have HNX:=oh (HS5.out.clo hX6 hJ6);clear hJ6 hX6;go_wp2_with fail;go_roundg m
         case measure=>omega
         case rel=>exact⟨((0:Nat):Int),(wt:Int)-(wt:Int),P2,V6,F6,acc++[(id1,xb.drop 4)],by first|rfl|exact zC0 (by omega),by first|rfl|exact zC0 (by omega),by omega,by omega,by omega,⟨by omega,by omega⟩,oh ⟨HNX.out,HNXT.out.1,by have:=HW.out.2.2.1;simp;omega,HNXT.out.2.1,HNXT.out.2.2⟩⟩
        .have h2:n1≠(wt:Int):=λe=>h1 (hz.2 e)
         have b2:(n1 == (wt:Int))=false:=uO.2 h2;have b3:((nx:Int) == 0)=false:=uO.2 (by omega);clear hz hlen h1 h2;go_wp2_with fail;refine (HJS.out V1 F2 w5 acc id1 _ (xb.drop 4) HS5.out.j HS5.out.envr HS5.out.subV HSL.out (by have:=HLN.out;simp;omega) HAL.out).mono ?_;rintro e w6 ⟨V6,F6,rfl,hJ6,hX6⟩;have HNX:=oh (HS5.out.clo hX6 hJ6);clear hJ6 hX6;go_wp2_with fail;go_roundg m
         case measure=>omega
         case rel=>exact⟨(nx:Int),n1-(wt:Int),P2,V6,F6,acc++[(id1,xb.drop 4)],by first|rfl|exact zC0 (by omega),by first|rfl|exact zC0 (by omega),by omega,by omega,by omega,⟨by omega,by omega⟩,oh ⟨HNX.out,HNXT.out.1,by have:=HW.out.2.2.1;simp;omega,HNXT.out.2.1,HNXT.out.2.2⟩⟩
       .have HPB:Hid (vF G.size ⟨4,xi,xg,xb⟩ n1=true):=oh (by
         unfold vF;rw[<- HTK.out,HWT.out];by_cases h1:nx=0 <;> by_cases h2:n1=(wt:Int) <;> simp[h1,h2] at hz ⊢)
        by_cases h1:nx=0
        .subst h1;have h2:n1≠(wt:Int):=λe=>hz ⟨λ_=>e,λ_=>rfl⟩
         have b2:(n1 == (wt:Int))=false:=uO.2 h2;clear hz hlen h2;go_wp2_with fail;refine (qO HL5.out _ id1 _ _ 5 (.sent 5 (by decide) (by decide))).mono ?_;rintro e w6 ⟨f6,rfl,hE6,hm6⟩;have HE6:=oh hE6;have HM6:=oh hm6;clear hE6 hm6;go_wp2_with fail;go_ret;exact BADT.out w6 f6 HPB.out HM6.out HE6.out
        .have h2:n1=(wt:Int):=Classical.byContradiction (λe=>hz ⟨λh=>absurd h h1,λh=>absurd h e⟩);have b2:(n1 == (wt:Int))=true:=tL.2 h2;have b3:((nx:Int) == 0)=false:=uO.2 (by omega);clear hz hlen h2;go_wp2_with fail;refine (qO HL5.out _ id1 _ _ 5 (.sent 5 (by decide) (by decide))).mono ?_;rintro e w6 ⟨f6,rfl,hE6,hm6⟩;have HE6:=oh hE6;have HM6:=oh hm6;clear hE6 hm6;go_wp2_with fail;go_ret;exact BADT.out w6 f6 HPB.out HM6.out HE6.out
      .have b1:((xb.length:Int) != 4+(wt:Int))=true:=bne_iff_ne.2 hlen;have b1':((xb.length:Int) == 4+(wt:Int))=false:=uO.2 hlen;have HPB:Hid (vF G.size ⟨4,xi,xg,xb⟩ n1=true):=oh (by
        unfold vF;rw[<- HTK.out,HWT.out];simp[hlen])
       clear hlen;go_wp2_with fail;refine (qO HL5.out _ id1 _ _ 5 (.sent 5 (by decide) (by decide))).mono ?_;rintro e w6 ⟨f6,rfl,hE6,hm6⟩;have HE6:=oh hE6;have HM6:=oh hm6;clear hE6 hm6;go_wp2_with fail;go_ret;exact BADT.out w6 f6 HPB.out HM6.out HE6.out
     .have b1:(xk != 4)=true:=bne_iff_ne.2 hk4;have b1':(xk == 4)=false:=uO.2 hk4;have HPB:Hid (vF G.size ⟨xk,xi,xg,xb⟩ n1=true):=oh (by
       unfold vF;rw[<- HTK.out];simp[hk4])
      clear hk4;go_wp2_with fail;refine (qO HL5.out _ id1 _ _ 5 (.sent 5 (by decide) (by decide))).mono ?_;rintro e w6 ⟨f6,rfl,hE6,hm6⟩;have HE6:=oh hE6;have HM6:=oh hm6;clear hE6 hm6;go_wp2_with fail;go_ret;exact BADT.out w6 f6 HPB.out HM6.out HE6.out
   .have HX:=oh hx;have HE:=oh hE;clear hx hE;simp only[yH,zES];go_wp2_with fail;go_ret;have hS:=HS2.out.ext HJN.out ((zss w2).alloc gE);refine⟨P2,V1,F2,_,rfl,hS.pg,hS.nx,?_,hS.apart,?_⟩
    .have h8:=HW.out.2.2.2.1;rw[vQ,if_neg (by omega),HX.out,wB] at h8;rw[<- h8];exact hS.j
    .have h9:=HW.out.2.2.2.2;rw[vQ,if_neg (by omega),HX.out] at h9;rw[<- h9];exact⟨f,rfl,HE.out.mods (zr.alloc _)⟩
  .go_wp2_with fail;go_ret;have hz:vQ G gk id1 n1=([],none):=by
    cases gk with
    | zero=>rfl
    | succ k=>rw[vQ,if_pos (by omega)]
   have h8:=HW.out.2.2.2.1;have h9:=HW.out.2.2.2.2;rw[hz] at h8 h9;refine⟨P1,V1,F1,_,rfl,HW.out.1.pg,HW.out.1.nx,?_,HW.out.1.apart,?_⟩
   .rw[<- h8,wB];exact HW.out.1.j
   .rw[<- h9];rfl
end
end
end Go.Proofs.YtgphfebjjedeaaaGreatDoor
