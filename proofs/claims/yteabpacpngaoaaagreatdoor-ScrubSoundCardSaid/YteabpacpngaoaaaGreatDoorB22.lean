import Derived.Test.YteabpacpngaoaaaGreatDoorB21
import Derived.Laws.BitsAllLaws
namespace Go.Proofs.YteabpacpngaoaaaGreatDoor
open Lib renaming hid→oh
set_option maxHeartbeats 1000000
set_option maxRecDepth 100000
section
open Go.RowKit
attribute [local go_sem ↓] Go.wp_at_zero Go.wp_at_succ
theorem right_ok(b s:Nat)(h1:8≤b)(h2:b≤256)(h3:256≤s)(h4:s≤1024)(w:World) :
  Calls Tryz.prog 42 #[.agg #[.int .i64 (b:Int),.int .i64 (s:Int)]] w λe w'=>e=.returned (.bool true)∧Ext w w':=by
 have a1:decide ((8:Int)≤(b:Int))=true:=by simp;omega
 have a2:decide ((b:Int)≤256)=true:=by simp;omega
 have a3:decide ((256:Int)≤(s:Int))=true:=by simp;omega
 have a4:decide ((s:Int)≤1024)=true:=by simp;omega
 clear h1 h2 h3 h4
 go_enter Tryz.func42, Tryz.ntmps42
 go_wp2
 go_ret;exact⟨rfl,(Mods.refl _ _).alloc _⟩
def encG(size:Nat)(g:Nat):List Value:=[rowV size g]
theorem encG_ok(size:Nat):EncOk (encG size) 1:=⟨λ_=>rfl,by intro x u hu;simp[encG,rowV] at hu;subst hu;rfl⟩
theorem Tryz.elR:ElT Tryz.prog 64 87 (.slice none 0 0) 1 24:=⟨Tryz.underlying64,by kernel_rfl,rfl,by decide,by decide⟩
section
variable {F:Nat→Prop}{ad:Nat→Addr}{w w':World}
def NewI(w:World)(B0 B1 b s:Nat)(wr:World)(gs:List Nat)(v:Value):Prop :=
 Ext w wr∧B1<wr.heap.size∧Blk wr B0 #[.int .i64 (b:Int),.int .i64 (s:Int)] 24 ∧ Blk wr B1 #[.int .i64 (b:Int),.int .i64 (s:Int),v,.slice none 0 0,.bool false,.int .i64 0,.int .i64 0,.int .i64 0,.slice none 0 0,.bool false,.int .i64 0] 102 ∧
   Own (λx=>x∈B0 :: B1 :: gs) wr B0 87 1 (encG s) v gs∧(B0 :: B1 :: gs).Nodup∧∀g,g∈gs→B1<g∧Blk wr g (bytesC (List.replicate s 0)) 5
theorem bytesC_zero(s:Nat):bytesC (List.replicate s 0)=Array.replicate s (.int .u8 0):=by
 rw[bytesC,List.map_replicate,List.toArray_replicate];rfl
theorem NewI.step{B0 B1 b s:Nat}{wr w4:World}{gs:List Nat}{v v':Value}(h:NewI w B0 B1 b s wr gs v)(hw:w.heap.size≤B0)(hB:B0<B1)
  (hown:Own (λx=>x∈B0 :: B1 :: gs) w4 B0 87 1 (encG s) v' (gs++[wr.heap.size])) (hgrow:((wr.drew.alloc (.cells (Array.replicate s (.int .u8 0)) 5)).alloc (.cells #[.slice (some ⟨wr.heap.size,0,none⟩) s s] 87)).grownBy w4 v.ownBlock)
  (hat:v'.ownBlock=v.ownBlock∨v'.ownBlock=some (wr.heap.size+2)):NewI w B0 B1 b s (w4.setCell ⟨B1,2,none⟩ v') (gs++[wr.heap.size]) v':=by
 obtain⟨h1,h2,h3,h4,h6,h7,h8⟩:=h;have mg:=Mods.of_grown hgrow;have m0:Ext wr ((wr.drew.alloc (.cells (Array.replicate s (.int .u8 0)) 5)).alloc (.cells #[.slice (some ⟨wr.heap.size,0,none⟩) s s] 87)):=((Mods.refl _ wr).drew.alloc _).alloc _;have e1:((wr.drew.alloc (.cells (Array.replicate s (.int .u8 0)) 5)).alloc (.cells #[.slice (some ⟨wr.heap.size,0,none⟩) s s] 87)).heap.size=wr.heap.size+2:=by simp
 have hsz:=mg.size;rw[e1] at hsz;have e3:wr.drew.heap.size=wr.heap.size:=rfl;have mA:Mods (λx=>v.ownBlock=some x) wr w4:=m0.ext.trans mg;have hv0:∀x,v.ownBlock=some x→w.heap.size≤x∧x<wr.heap.size:=λx hx=>by have:=h6.lt x hx;omega
 have hvn:∀x,x∈B0 :: B1 :: gs→¬ v.ownBlock=some x:=λx hx e=>h6.2 x e hx
 have hlt:∀x,x∈B0 :: B1 :: gs→x<wr.heap.size:=λx hx=>by
  simp only[List.mem_cons] at hx;rcases hx with rfl|rfl|hx
  ·exact h3.lt
  ·exact h4.lt
  ·exact (h8 x hx).2.lt
 have far:∀(x:Nat) (c:Array Value) (t:TypeId),x∈B0 :: B1 :: gs→x≠B1→Blk wr x c t→Blk (w4.setCell ⟨B1,2,none⟩ v') x c t:=λx c t hx hne hb=>(hb.mods mA (hvn x hx)).set_other hne _
 have hmem:∀x,x∈B0 :: B1 :: (gs++[wr.heap.size])→x∈B0 :: B1 :: gs∨x=wr.heap.size:=λx hx=>by
  simp only[List.mem_cons,List.mem_append,List.not_mem_nil,or_false] at hx ⊢;rcases hx with h|h|h|h <;> simp[h]
 have hnew:Blk (w4.setCell ⟨B1,2,none⟩ v') wr.heap.size (bytesC (List.replicate s 0)) 5:=by
  rw[bytesC_zero];exact (((Blk.new wr.drew _ _).alloc _).mods mg (λe=>by have:=hv0 _ e;omega)).set_other (by simp only;omega) _
 refine⟨(h1.trans' mA (λi hi e=>by have:=(hv0 i e).1;omega)).setCell (.inl (by simp only;omega)) _,?_,far B0 _ _ List.mem_cons_self (by omega) h3,?_,?_,?_,λg hg=>?_⟩
 ·simp only[World.setCell,Array.size_modify];omega
 ·have:=(h4.mods mA (hvn B1 (List.mem_cons_of_mem _ List.mem_cons_self))).set 2 v';simpa using this
 ·have hno:∀x,v'.ownBlock=some x→x≠B1:=λx hx e=>hown.2 x hx (e ▸ List.mem_cons_of_mem _ List.mem_cons_self)
  have k1:=hown.mods (Mods.at (λx=>x=B1) w4 B1 2 v' rfl) hno;refine⟨k1.1,λx hx hm=>?_⟩;rcases hmem x hm with hm|rfl
  ·exact k1.2 x hx hm
  ·rcases hat with e|e
   ·have:=(hv0 _ (e ▸ hx)).2;omega
   ·rw[e] at hx;injection hx with hx;omega
 ·have e:B0 :: B1 :: (gs++[wr.heap.size])=(B0 :: B1 :: gs)++[wr.heap.size]:=by simp
  rw[e,List.nodup_append];exact⟨h7,by simp,λx hx y hy e=>by have:=hlt x hx;simp at hy;omega⟩
 ·rw[List.mem_append] at hg;rcases hg with hg|hg
  ·exact⟨(h8 g hg).1,far g _ _ (List.mem_cons_of_mem _ (List.mem_cons_of_mem _ hg)) (λe=>by have:=(h8 g hg).1;omega) (h8 g hg).2⟩
  ·simp at hg;subst hg;exact⟨h2,hnew⟩
theorem map_flat(s:Nat):∀gs:List Nat,gs.map (rowV s)=gs.flatMap (encG s)
 | []=>rfl
 | x :: r=>by rw[List.map_cons,List.flatMap_cons,map_flat s r];rfl
theorem NewI.disk{B0 B1 b s:Nat}{wr:World}{gs:List Nat}{cap:Nat}{a:Option Addr}(h:NewI w B0 B1 b s wr gs (.slice a b cap))(hl:gs.length=b)(hw:w.heap.size≤B0)(hB:B0<B1)(h1:8≤b)(h2:b≤256)(h3:256≤s)(h4:s≤1024) :
  ∃P,DkS wr P B1 (newDisk b s)∧∀k,P k→w.heap.size≤k:=by
 obtain⟨k1,k2,k3,k4,k6,k7,k8⟩:=h;rcases k6.1.2 with ⟨e,_⟩|⟨bl,cap',cur,e,hb,hblk,hc,hm,hs,ht⟩
 ·cases e;omega
 ·simp only[Value.slice.injEq] at e;obtain⟨rfl,_,rfl⟩:=e;have hnb:=k6.2 bl rfl;simp only[List.mem_cons,not_or] at hnb;have hnd:=(List.nodup_cons.1 k7).2;unfold maxLen at hm;refine⟨dkF B1 bl gs [] (.slice none 0 0) (.slice none 0 0),⟨bl,gs,[],.slice none 0 0,.slice none 0 0,⟨⟨cap,by show b≤cap;omega,by omega,k4,cur.toList.drop gs.length,?_,?_⟩,hl,by simp[newDisk],rfl,Own.nil _ _ _ _ _ _,λg hg=>by simp[Value.ownBlock] at hg,by simp[newDisk],Own.nil _ _ _ _ _ _,
   λi g b' hg hb'=>?_,λi g p hg=>by simp at hg,?_,h1,h2,h3,h4,by simp[newDisk]⟩,λk=>Iff.rfl⟩,λk hk=>?_⟩
  ·have e2:(gs.map (rowV (newDisk b s).size)++cur.toList.drop gs.length).toArray=cur:=by
    have:gs.map (rowV (newDisk b s).size)=cur.toList.take gs.length:=by
     have h5:cur.toList.take (gs.length * 1)=gs.flatMap (encG s):=by simpa using ht
     rw[Nat.mul_one] at h5;rw[h5];exact map_flat s gs
    rw[this,List.take_append_drop,Array.toArray_toList]
   rw[e2];exact hblk
  ·simp;omega
  ·rw[show (newDisk b s).lasting=List.replicate b (List.replicate s 0) by rfl,List.getElem?_replicate] at hb';split at hb'
   ·injection hb' with hb';subst hb';exact⟨by simp[newDisk],(k8 g (List.mem_of_getElem? hg)).2⟩
   ·cases hb'
  ·rw[List.append_nil,List.nodup_cons,List.nodup_cons];refine⟨?_,hnb.2.2,(List.nodup_cons.1 hnd).2⟩;rw[List.mem_cons];rintro (e|e)
   ·exact hnb.2.1 e.symm
   ·exact (List.nodup_cons.1 hnd).1 e
  ·have hB1:w.heap.size≤B1:=by omega
   rcases hk with hk|hk|hk
   ·simp only[List.append_nil,List.mem_cons] at hk;rcases hk with rfl|rfl|hk
    ·exact hB1
    ·omega
    ·have:=(k8 k hk).1;omega
   ·simp[Value.ownBlock] at hk
   ·simp[Value.ownBlock] at hk
theorem dkNew_ok(b s:Nat)(h1:8≤b)(h2:b≤256)(h3:256≤s)(h4:s≤1024) :
  Calls Tryz.prog 9 #[.agg #[.int .i64 (b:Int),.int .i64 (s:Int)]] w λe w'=>∃d P,e=.returned (.tuple #[.pointer (some ⟨d,0,none⟩),.nilIface])∧DkS w' P d (newDisk b s)∧(∀k,P k→w.heap.size≤k)∧Ext w w':=by
 have hmk:=run_mk (P:=Tryz.prog) 87 5 (.int .u8 0) 1 Tryz.underlying87 Tryz.mkB rfl s (by omega) (by omega)
 go_enter Tryz.func9, Tryz.ntmps9
 go_wp2_with fail;refine (right_ok b s h1 h2 h3 h4 _).mono ?_;rintro e w1 ⟨rfl,hm⟩;have k0:=(Blk.new w #[.int .i64 (b:Int),.int .i64 (s:Int)] 24).ext hm;have c0:=k0.cell (o:=0) (v:=.int .i64 (b:Int)) rfl;have c1:=k0.cell (o:=1) (v:=.int .i64 (s:Int)) rfl;have HM:Hid (Ext w w1):=oh (((Mods.refl _ w).alloc _).trans hm);have HS:Hid (w.heap.size<w1.heap.size):=oh k0.lt;have K0:=oh k0;have hsz:=HS.out;clear k0 hm;go_wp2_with fail;go_loopg [15] b (λm i wr=>∃(cap:Nat) (gs:List Nat) (a:Option Addr),gs.length+m=b∧i=.int .i64 gs.length∧Hid (NewI w w.heap.size w1.heap.size b s wr gs (.slice a gs.length cap)))
 case atStart=>exact⟨0,[],none,by simp,rfl,oh ⟨HM.out.alloc _,by simp,K0.out.alloc _,Blk.new w1 _ _,Own.nil _ _ _ _ _ _,by simp;omega,by simp⟩⟩
 case round =>
  obtain⟨cap,gs,a,hk,rfl,HW⟩:=hrel;obtain⟨hW1,hW2,hW3,hW4,hW6,hW7,hW8⟩:=HW.out;have d2:=hW4.cell (o:=2) (v:=.slice a gs.length cap) rfl;have f2:=hW4.frozen 2;have g0:=hW3.cell (o:=0) (v:=.int .i64 (b:Int)) rfl;have g1:=hW3.cell (o:=1) (v:=.int .i64 (s:Int)) rfl;have l0:=cell_lt g0;have l1:=cell_lt d2;have HO:Hid (Own (λx=>x∈w.heap.size :: w1.heap.size :: gs) wr.drew w.heap.size 87 1 (encG s) (.slice a gs.length cap) gs):=oh (hW6.ext (Mods.refl _ _).drew);have HLT:Hid (∀x,x∈w.heap.size :: w1.heap.size :: gs→x<wr.heap.size):=oh (λx hx=>by
   simp only[List.mem_cons] at hx;rcases hx with rfl|rfl|hx
   ·exact l0
   ·exact l1
   ·exact (hW8 x hx).2.lt)
  have HDN:Hid (¬ (Value.slice a gs.length cap).ownBlock=some w1.heap.size):=oh (λe=>hW6.2 _ e (by simp));have HDB:Hid (w.heap.size≤wr.heap.size):=oh hW1.size;obtain⟨k,hkk⟩:∃k,k=gs.length:=⟨_,rfl⟩;have HGL:=oh hkk;have hmkd:∀x:Obj,((wr.alloc x).cell? ⟨w1.heap.size,2,none⟩=some (.slice a gs.length cap)∧(wr.alloc x).cell? ⟨w.heap.size,1,none⟩=some (.int .i64 (s:Int))):=λx=>⟨cell_alloc d2 x,cell_alloc g1 x⟩
  have hmkd2:∀x y:Obj,((wr.alloc x).alloc y).cell? ⟨w1.heap.size,2,none⟩=some (.slice a gs.length cap):=λx y=>cell_alloc (cell_alloc d2 x) y
  clear hW1 hW2 hW3 hW4 hW6 hW7 hW8 hkk;by_cases hlt:gs.length<b
  ·go_wp2_with fail;go_region_law
    ((refine step_app (enc:=encG s) (F:=λx=>x∈w.heap.size :: w1.heap.size :: gs) (G:=λ_=>False) Tryz.elR (encG_ok s) (by rfl) _ _ (by rfl) w.heap.size (.slice a gs.length cap) (.slice (some ⟨wr.heap.size+1,0,none⟩) 1 1) gs [wr.heap.size] (by rfl) (by rfl) (HO.out.ext (((Mods.refl _ wr.drew).alloc _).alloc _)) (Sl.one (x:=wr.heap.size) (t := 87) (fz:=(0,0)) (heap_at (by simp)) (λf=>f)) (by simp;omega) (by have:=HDB.out;simp;omega) (λf=>by have:=HLT.out _ f;simp at this;omega) ?_;intro a' c' w4 hown hgrow hat;obtain⟨k4,k5⟩:=keepC (Mods.of_grown hgrow) (keepA (keepA (w:=wr.drew) ⟨d2,f2⟩ _) _) HDN.out))
   all_goals
    have HNX:=oh (HW.out.step (Nat.le_refl _) hsz hown hgrow (by simpa using hat));clear hown hgrow hat k4 k5;go_wp2_with fail;go_roundg (gk-1)
    case measure=>omega
    case rel=>exact⟨c',gs++[wr.heap.size],a',by simp;omega,by simp,by simpa using HNX⟩
  ·have hkb:gs.length=b:=by omega
   have HKB:=oh hkb;clear hkb;go_wp2_with fail;go_ret2
   have hN:=HW.out;rw[HKB.out] at hN;obtain⟨P,q1,q2⟩:=hN.disk HKB.out (Nat.le_refl _) hsz h1 h2 h3 h4;exact⟨w1.heap.size,P,rfl,q1,q2,hN.1⟩
end
end
section
open Go.RowKit
def LowP[GhoI](d:Nat)(l:List Nat):Prop:=d=gDisk∧∀i,i<gLow→l[i]? = some 1∨l[i]? = some 3
theorem LowP.set[GhoI]{d:Nat}{l:List Nat}(h:LowP d l){i x:Nat}(hi:l[i]? = some 0∨l[i]? = some 2∨x=1∨x=3):LowP d (l.set i x):=by
 refine⟨h.1,λj hj=>?_⟩;have hl:=h.2 j hj;by_cases e:i=j
 ·subst e;rw[List.getElem?_set_self (by rcases hl with h|h <;> exact (List.getElem?_eq_some_iff.1 h).1)];rcases hi with h|h|rfl|rfl
  ·rw[h] at hl;simp at hl
  ·rw[h] at hl;simp at hl
  ·exact .inl rfl
  ·exact .inr rfl
 ·rw[List.getElem?_set_ne e];exact hl
def PgR[GhoI](F:Nat→Prop)(w:World)(P:Nat→Prop)(c s:Nat)(G:GA)(l:List Nat):Prop :=
 ∃(d sb:Nat) (bvs:List Value) (Pd:Nat→Prop) (b2:Nat) (C:CaA),CaR F w d c sb bvs Pd C∧CaInv C∧CaRel C G∧G.cost≤1000000∧SpR w s b2 l∧(∀k,P k ↔ (caF c sb Pd k∨spF s b2 k))∧(∀k,caF c sb Pd k→¬ spF s b2 k)∧LowP d l
def PgDone[GhoI](F P:Nat→Prop)(ad:Nat→Addr)(w:World)(c s:Nat)(G':GA)(l':List Nat)(R:(Nat→Prop)→World→Ending→Prop)(e:Ending)(w':World):Prop :=
 ∃P' F',PgR F' w' P' c s G' l'∧Nxt P P' F F' ad w w'∧R F' w' e
def GA.check(G:GA)(id:Int):Option Err:=if id<0∨(G.blocks:Int)≤id then some ([pgOf id],2) else none
def GA.get(G:GA)(id:Int):PageA ⊕ Err :=
 match G.check id with
 | some e=>.inr e
 | none=>match G.view id.toNat with
  | some (.inl p)=>.inl p
  | some (.inr (l,k))=>.inr (-1 :: l,k)
  | none=>.inr ([],0)
def GA.knows(G:GA)(id:Int):Prop:=G.check id=none→∃r,G.view id.toNat=some r
section
variable {P P' F F':Nat→Prop}{ad:Nat→Addr}{w w':World}{c s:Nat}{G G':GA}{l l':List Nat}{R:(Nat→Prop)→World→Ending→Prop}
theorem Nxt.iff{Q Q':Nat→Prop}(n:Nxt P P' F F' ad w w')(h:∀k,Q k ↔ P k)(h':∀k,Q' k ↔ P' k):Nxt Q Q' F F' ad w w' :=
 ⟨⟨n.stp.mods.mono (λk hk=>(h k).2 hk),λk hk hq=>(h k).2 (n.stp.old k hk ((h' k).1 hq)),λk hq=>n.stp.bd k ((h' k).1 hq)⟩,λk hq=>n.sub k ((h' k).1 hq),n.grow,n.oldF,n.env⟩
theorem PgR.at[GhoI](h:PgR F w P c s G l)(m:Ext w w'):PgR F w' P c s G l:=by
 obtain⟨d,sb,bvs,Pd,b2,C,h1,h2,h3,h4,h5,h6,h7,h8⟩:=h;exact⟨d,sb,bvs,Pd,b2,C,h1.at m,h2,h3,h4,h5.mods m (λf=>f) (λf=>f),h6,h7,h8⟩
theorem PgR.bd[GhoI](h:PgR F w P c s G l):Bd P w:=λk hk=>by
 obtain⟨d,sb,bvs,Pd,b2,C,h1,h2,h3,h4,h5,h6,h7,h8⟩:=h;rcases (h6 k).1 hk with hk|rfl|rfl
 ·exact h1.bdP k hk
 ·exact h5.own.lt
 ·exact h5.row.lt
theorem PgR.step[GhoI]{d sb sb' b2:Nat}{bvs':List Value}{Pd Pd':Nat→Prop}{C':CaA}(hL:Env F ad w)(hP:∀k,P k→F k)(h5:SpR w s b2 l)(h6:∀k,P k ↔ (caF c sb Pd k∨spF s b2 k))(h7:∀k,caF c sb Pd k→¬ spF s b2 k)(h8:LowP d l)
  (hC:CaR F' w' d c sb' bvs' Pd' C') (hI:CaInv C') (hG:CaRel C' G') (hco:G'.cost≤1000000) (n:Nxt (caF c sb Pd) (caF c sb' Pd') F F' ad w w') :
  ∃P',PgR F' w' P' c s G' l∧Nxt P P' F F' ad w w':=by
 have hns:¬ caF c sb Pd s:=λf=>h7 s f (.inl rfl)
 have hnb:¬ caF c sb Pd b2:=λf=>h7 b2 f (.inr rfl)
 have q:=n.part (Q:=spF s b2) (λk hk=>hP k ((h6 k).2 (.inr hk))) hL;refine⟨λk=>caF c sb' Pd' k∨spF s b2 k,⟨d,sb',bvs',Pd',b2,C',hC,hI,hG,hco,h5.mods n.stp.mods hns hnb,λk=>Iff.rfl,λk hk hs=>?_,h8⟩,q.iff h6 (λk=>Iff.rfl)⟩;rcases hs with rfl|rfl
 ·exact n.not h5.own.lt hns hk
 ·exact n.not h5.row.lt hnb hk
theorem PgR.lim[GhoI](h:PgR F w P c s G l):8≤G.blocks∧G.blocks≤256∧256≤G.size∧G.size≤1024∧8≤l.length∧l.length≤256:=by
 obtain⟨d,sb,bvs,Pd,b2,C,h1,h2,h3,h4,h5,h6,h7,h8⟩:=h;exact⟨h3.blocks ▸ h2.b8,h3.blocks ▸ h2.b256,h3.size ▸ h2.s256,h3.size ▸ h2.s1024,h5.len,h5.len2⟩
theorem get_eq[GhoI]{C:CaA}(h:CaRel C G)(id:Int)(hk:G.knows id):C.get id=G.get id:=by
 unfold CaA.get GA.get;have e:C.check id=G.check id:=by unfold CaA.check GA.check;rw[h.blocks]
 rw[e];cases hc:G.check id with
 | some e=>rfl
 | none =>
  obtain⟨r,hr⟩:=hk hc;simp only[hr];rw[h.view _ r hr];rcases r with p|⟨a,b⟩ <;> rfl
theorem GA.knows.low[GhoI]{C:CaA}(h:CaRel C G){id:Int}(hk:G.knows id):C.check id=none→gLow≤id.toNat:=λhc=>by
 have e:C.check id=G.check id:=by unfold CaA.check GA.check;rw[h.blocks]
 obtain⟨r,hr⟩:=hk (e ▸ hc);exact Nat.le_of_not_lt λhn=>by rw[(h.low _ hn).1] at hr;cases hr
theorem pgGet[GhoI](hL:Env F ad w)(hP:∀k,P k→F k)(h:PgR F w P c s G l)(id:Int)(hk:G.knows id) :
  Calls Tryz.prog 214 #[.pointer (some ⟨c,0,none⟩),.int .i64 id] w (PgDone F P ad w c s G l (λF' w' e=>PageRes F' ad w' (G.get id) e)):=by
 obtain⟨d,sb,bvs,Pd,b2,C,h1,h2,h3,h4,h5,h6,h7,h8⟩:=h;refine (caGet_any hL (λk hk=>hP k ((h6 k).2 (.inl hk))) h1 h2 (Nat.le_trans h3.cost h4) id (hk.low h3)).mono ?_;rintro e w' ⟨bvs',Pd',F',C',k1,k2,k3,k4⟩;obtain⟨P',q1,q2⟩:=PgR.step hL hP h5 h6 h7 h8 k1 k2.inv (k2.rel h3) h4 k3;exact⟨P',F',q1,q2,by rw[← get_eq h3 id hk];exact k4⟩
theorem pgPut[GhoI](hL:Env F ad w)(hP:∀k,P k→F k)(h:PgR F w P c s G l)(p:PageA)(bv:Value)(hb:Sl F w 1 encB bv p.body)(hg:p.gen<18446744073709551616)(hid:0≤p.id∧p.id<G.blocks)(hlo:gLow≤p.id.toNat)(hpc:pgCheck p G.size=none)(hco:G.cost<1000000) :
  Calls Tryz.prog 153 #[.pointer (some ⟨c,0,none⟩),pageV p bv] w (PgDone F P ad w c s (G.put p) l (λ_ _ e=>e=.returned .nilIface)):=by
 obtain⟨d,sb,bvs,Pd,b2,C,h1,h2,h3,h4,h5,h6,h7,h8⟩:=h;refine (caPut_any hL (λk hk=>hP k ((h6 k).2 (.inl hk))) h1 h2 (Nat.le_trans h3.cost h4) p bv hb hg hlo).mono ?_;rintro e w' ⟨bvs',Pd',F',C',ev,rfl,k1,k3,k4,k5⟩;have hE:C.putE p=none:=by
  unfold CaA.putE CaA.check;rw[if_neg (by rw[h3.blocks];omega),h3.size];simp only[hpc];rfl
 rcases k5 with ⟨_,_,_,hI,hR⟩|⟨hne,_⟩
 ·obtain⟨P',q1,q2⟩:=PgR.step hL hP h5 h6 h7 h8 k1 hI (hR G h3) (by show G.cost+1≤_;omega) k3;rw[hE] at k4;cases k4
  exact⟨P',F',q1,q2,rfl⟩
 ·exact absurd hE hne
theorem pgDrop[GhoI](hL:Env F ad w)(hP:∀k,P k→F k)(h:PgR F w P c s G l)(id:Nat) :
  Calls Tryz.prog 223 #[.pointer (some ⟨c,0,none⟩),.int .i64 (id:Int)] w (PgDone F P ad w c s (G.drop id) l (λ_ _ e=>∃b,e=.returned (.bool b))):=by
 obtain⟨d,sb,bvs,Pd,b2,C,h1,h2,h3,h4,h5,h6,h7,h8⟩:=h;refine (caDrop_any hL (λk hk=>hP k ((h6 k).2 (.inl hk))) h1 h2 id).mono ?_;rintro e w' ⟨b,bvs',C',rfl,k1,k3,k4,_,_,k5⟩;obtain⟨P',q1,q2⟩:=PgR.step hL hP h5 h6 h7 h8 k1 k4 (k5 G h3) h4 k3;exact⟨P',F,q1,q2,b,rfl⟩
theorem waits{F:Nat→Prop}{d sb:Nat}{bvs:List Value}{Pd:Nat→Prop}{C:CaA}(h:CaR F w d c sb bvs Pd C):∀p∈C.disk.waiting,p.1<C.disk.blocks:=by
 obtain⟨bl,gs,ws,wv,kv,h1,h2⟩:=h.disk;intro p hp;obtain⟨j,hj,e⟩:=List.getElem_of_mem hp;have hw:j<ws.length:=by rw[h1.lenW];exact hj
 exact (h1.wrow j _ p (List.getElem?_eq_getElem hw) (by rw[← e];exact List.getElem?_eq_getElem hj)).1
theorem LowP.give[GhoI]{d:Nat}(h:LowP d l)(id:Int):LowP d (spGive l id).1:=by
 unfold spGive;cases spCheck l id with
 | some e=>exact h
 | none =>
  simp only;split
  ·rename_i h2;exact h.set (.inr (.inl h2))
  ·split
   ·exact h.set (.inr (.inr (.inr rfl)))
   ·exact h
theorem PgR.fresh[GhoI](h:PgR F w P c s G l){i:Nat}(hi:l[i]? = some 0∨l[i]? = some 2):gLow≤i:=by
 obtain⟨d,sb,bvs,Pd,b2,C,h1,h2,h3,h4,h5,h6,h7,h8⟩:=h;refine Nat.le_of_not_lt λhn=>?_
 rcases h8.2 i hn with h|h <;> rw[h] at hi <;> simp at hi
theorem spFree_at{l:List Nat}{i:Nat}(h:spFree l=some i):l[i]? = some 0∧i<l.length:=by
 unfold spFree at h;rw[List.findIdx?_eq_some_iff_getElem] at h;obtain⟨h1,h2,_⟩:=h;exact⟨by rw[List.getElem?_eq_getElem h1];simpa using h2,h1⟩
theorem PgR.space[GhoI](hL:Env F ad w)(hP:∀k,P k→F k){d sb b2:Nat}{bvs:List Value}{Pd:Nat→Prop}{C:CaA}(h1:CaR F w d c sb bvs Pd C)(h2:CaInv C)(h3:CaRel C G)(h4:G.cost≤1000000)(h6:∀k,P k ↔ (caF c sb Pd k∨spF s b2 k))(h7:∀k,caF c sb Pd k→¬ spF s b2 k)
  (h8:LowP d l') (h5:SpR w' s b2 l') (m:Mods (spF s b2) w w'):PgR F w' P c s G l'∧Nxt P P F F ad w w' :=
 ⟨⟨d,sb,bvs,Pd,b2,C,h1.far m h7 (λk hk=>hP k ((h6 k).2 (.inr hk))),h2,h3,h4,h5,h6,h7,h8⟩,Nxt.same hL hP (m.mono (λk hk=>(h6 k).2 (.inr hk)))⟩
def TakeP(ad:Nat→Addr)(l:List Nat)(F':Nat→Prop)(w':World)(e:Ending):Prop :=
 (∃i,spFree l=some i∧i<l.length∧e=.returned (.tuple #[.int .i64 (i:Int),.nilIface]))∨(spFree l=none∧∃f,e=.returned (.tuple #[.int .i64 0,faultV f])∧ErrC F' ad w' (faultV f) [-1] 3)
def spTake(l:List Nat):List Nat:=match spFree l with|some i=>l.set i 2|none=>l
theorem pgTake[GhoI](hL:Env F ad w)(hP:∀k,P k→F k)(h:PgR F w P c s G l) :
  Calls Tryz.prog 222 #[.pointer (some ⟨s,0,none⟩)] w (PgDone F P ad w c s G (spTake l) (TakeP ad l)):=by
 obtain⟨d,sb,bvs,Pd,b2,C,h1,h2,h3,h4,h5,h6,h7,h8⟩:=h;refine (spTake_any hL s b2 l h5).mono ?_;rintro e w' (⟨i,k1,k2,rfl,k3,k4⟩|⟨k1,f,rfl,k3,k4⟩)
 ·obtain⟨q1,q2⟩:=PgR.space hL hP h1 h2 h3 h4 h6 h7 (h8.set (.inl (spFree_at k1).1)) k3 k4;exact⟨P,F,by unfold spTake;rw[k1];exact q1,q2,.inl ⟨i,k1,k2,rfl⟩⟩
 ·have q:=Nxt.ext hL hP k4;exact⟨P,F,by unfold spTake;rw[k1];exact⟨d,sb,bvs,Pd,b2,C,h1.at k4,h2,h3,h4,h5.mods k4 (λf=>f) (λf=>f),h6,h7,h8⟩,q,.inr ⟨k1,f,rfl,k3⟩⟩
theorem pgGive[GhoI](hL:Env F ad w)(hP:∀k,P k→F k)(h:PgR F w P c s G l)(id:Int) :
  Calls Tryz.prog 224 #[.pointer (some ⟨s,0,none⟩),.int .i64 id] w (PgDone F P ad w c s G (spGive l id).1 (λF' w' e=>∃ev,e=.returned ev∧ErrR F' ad w' ev (spGive l id).2)):=by
 obtain⟨d,sb,bvs,Pd,b2,C,h1,h2,h3,h4,h5,h6,h7,h8⟩:=h;refine (Give_any hL s b2 l h5 id).mono ?_;rintro e w' ⟨ev,rfl,k1,k2,k3⟩;obtain⟨q1,q2⟩:=PgR.space hL hP h1 h2 h3 h4 h6 h7 (h8.give id) k2 k3;exact⟨P,F,q1,q2,ev,rfl,k1⟩
theorem pgDisk[GhoI](h:PgR F w P c s G l):∃d,Hid (PgR F w P c s G l)∧(Calls Tryz.prog 220 #[.pointer (some ⟨c,0,none⟩)] w λe w'=>e=.returned (.pointer (some ⟨d,0,none⟩))∧w=w') ∧
  (∀w',Ext w w' → Calls Tryz.prog 45 #[.pointer (some ⟨d,0,none⟩)] w' λe w''=>e=.returned (.agg #[.int .i64 G.blocks,.int .i64 G.size])∧Ext w' w''):=by
 have H:=oh h;obtain⟨d,sb,bvs,Pd,b2,C,h1,h2,h3,h4,h5,h6,h7,h8⟩:=h;refine⟨d,H,caDisk_any h1,λw' m=>?_⟩;rw[← h3.blocks,← h3.size];exact (h1.disk.at m).geo
end
def pgV(c s gen:Nat):Value:=.agg #[.pointer (some ⟨c,0,none⟩),.pointer (some ⟨s,0,none⟩),.int .u64 (gen:Int)]
def chCheck(n:Int):Option Err:=if n≤24∨4096<n then some ([-1],2) else none
def giveOk:List Nat→List Nat→Prop
 | _,[]=>True
 | l,id :: r=>(spGive l id).2=none∧giveOk (spGive l id).1 r
def giveL:List Nat→List Nat→List Nat
 | l,[]=>l
 | l,id :: r=>giveL (spGive l id).1 r
def giveG:GA→List Nat→GA
 | G,[]=>G
 | G,id :: r=>giveG (G.drop id) r
theorem giveG_snoc:∀(r:List Nat) (G:GA) (id:Nat),giveG G (r++[id])=(giveG G r).drop id
 | [],_,_=>rfl
 | x :: r,G,id=>by rw[List.cons_append,giveG,giveG_snoc r,giveG]
theorem giveL_snoc:∀(r:List Nat) (l:List Nat) (id:Nat),giveL l (r++[id])=(spGive (giveL l r) id).1
 | [],_,_=>rfl
 | x :: r,l,id=>by rw[List.cons_append,giveL,giveL_snoc r,giveL]
theorem giveOk_at:∀(r:List Nat) (l:List Nat) (k id:Nat),giveOk l r→r[k]? = some id→(spGive (giveL l (r.take k)) id).2=none
 | [],_,k,_,_,h=>by simp at h
 | x :: r,l,0,id,h,hk=>by simp at hk;subst hk;exact h.1
 | x :: r,l,k+1,id,h,hk=>by
  rw[List.take_succ_cons,giveL];exact giveOk_at r _ k id h.2 (by simpa using hk)
def takeA:Nat→List Nat→Option (List Nat × List Nat)
 | 0,l=>some ([],l)
 | n+1,l=>match spFree l with
  | none=>none
  | some i=>match takeA n (l.set i 2) with
   | none=>none
   | some (ids,l')=>some (i :: ids,l')
section
variable {P P' F F':Nat→Prop}{ad:Nat→Addr}{w w':World}{c s:Nat}{G G':GA}{l l':List Nat}
theorem chSize_any[GhoI](h:PgR F w P c s G l)(gen:Nat) : Calls Tryz.prog 271 #[pgV c s gen] w λe w'=>e=.returned (.int .i64 (G.size:Int))∧Ext w w':=by
 unfold pgV;have m0:Ext w (w.alloc (.cells #[.pointer (some ⟨c,0,none⟩),.pointer (some ⟨s,0,none⟩),.int .u64 (gen:Int)] 120)):=(Mods.refl _ w).alloc _;obtain⟨d,HH,h1,h2⟩:=pgDisk (h.at m0);have gf1:=Tryz.geoF1;have H1:=oh h1;have H2:=oh h2;have M0:=oh m0;clear h1 h2 h m0
 go_enter Tryz.func271, Tryz.ntmps271
 go_wp2_with fail;refine H1.out.mono ?_;rintro e w1 ⟨rfl,rfl⟩;go_wp2_with fail;refine (H2.out _ (Mods.refl _ _)).mono ?_;rintro e w2 ⟨rfl,hm⟩;have HM:=oh hm;clear hm;go_wp2_with fail;go_ret;exact⟨rfl,M0.out.trans HM.out⟩
theorem chCheck_any(hL:Env F ad w)(op:ByteArray)(gen:Nat)(n:Int) : Calls Tryz.prog 260 #[.string op,pgV c s gen,.int .i64 n] w λe w'=>∃ev,e=.returned ev∧ErrR F ad w' ev (chCheck n)∧Ext w w':=by
 unfold pgV;have m0:Ext w (w.alloc (.cells #[.pointer (some ⟨c,0,none⟩),.pointer (some ⟨s,0,none⟩),.int .u64 (gen:Int)] 120)):=(Mods.refl _ w).alloc _;have hL0:=hL.mods m0.ext;have g2:=hL.c2;have hsz:=hL.size;have g2' : 0 < w.heap.size:=by omega
 have HL:=oh hL0;have M0:=oh m0;clear hL hL0 m0;by_cases h1:n≤24
 ·have HR:Hid (chCheck n=some ([-1],2)):=oh (by unfold chCheck;rw[if_pos (.inl h1)])
  go_enter Tryz.func260, Tryz.ntmps260
  go_wp2_with fail;refine (new_any HL.out _ _ [] 2 (.sent 2 (by decide) (by decide))).mono ?_;rintro e w1 ⟨f,rfl,hE,hm⟩;have HE:=oh hE;have HM:=oh hm;clear hE hm;go_wp2_with fail;go_ret;exact⟨_,rfl,by rw[HR.out];exact⟨f,rfl,HE.out⟩,M0.out.trans HM.out⟩
 ·by_cases h2:4096<n
  ·have HR:Hid (chCheck n=some ([-1],2)):=oh (by unfold chCheck;rw[if_pos (.inr h2)])
   go_enter Tryz.func260, Tryz.ntmps260
   go_wp2_with fail;refine (new_any HL.out _ _ [] 2 (.sent 2 (by decide) (by decide))).mono ?_;rintro e w1 ⟨f,rfl,hE,hm⟩;have HE:=oh hE;have HM:=oh hm;clear hE hm;go_wp2_with fail;go_ret;exact⟨_,rfl,by rw[HR.out];exact⟨f,rfl,HE.out⟩,M0.out.trans HM.out⟩
  ·have HR:Hid (chCheck n=none):=oh (by unfold chCheck;rw[if_neg (by omega)])
   go_enter Tryz.func260, Tryz.ntmps260
   go_wp2_with fail;go_ret;exact⟨_,rfl,by rw[HR.out];rfl,M0.out⟩
end
def encN(n:Nat):List Value:=[.int .i64 (n:Int)]
theorem encN_ok:EncOk encN 1:=⟨λ_=>rfl,by intro x u hu;simp[encN] at hu;subst hu;rfl⟩
theorem Tryz.elI:ElT Tryz.prog 59 3 (.int .i64 0) 1 8:=⟨Tryz.underlying59,Tryz.mkI,rfl,by decide,by decide⟩
theorem wpl_app2{P:Program}{α:Type}{F G:Nat→Prop}{w:World}{t e:TypeId}{z:Value}{sz bytes:Nat}{enc:α→List Value}(T:ElT P t e z sz bytes)(E:EncOk enc sz)
  {ops:Array Oper} {rest:List Oper} {o:Oper} {a:Act} {Q:Exit→Act→World→Prop} (hgd:o.guard=none) (sx x:Operand)
  (ho:o.op=.call { callee:=.builtin .append,args:=#[sx,x],argTypes:=#[t,t] })
  (base:Nat) (v s:Value) (l m:List α) (hv:a.eval sx=v) (hx:a.eval x=s) (hown:Own F w base e sz enc v l) (hs:Sl G w sz enc s m) (hb:(l.length+m.length) * bytes≤140737488355328) (hbase:base≤w.heap.size) (hn:¬ F w.heap.size)
  (h:∀a' c' w',Own F w' base e sz enc (.slice a' (l.length+m.length) c') (l++m)→Mods (λk=>v.ownBlock=some k) w w' →
   ((Value.slice a' (l.length+m.length) c').ownBlock=v.ownBlock∨(Value.slice a' (l.length+m.length) c').ownBlock=some w.heap.size)→wpList P ops Q rest (a.put o.dst (.slice a' (l.length+m.length) c')) w') :
  wpList P ops Q (o :: rest) a w:=by
 obtain⟨i,hi,hz,hs1,hb1⟩:=info3 T.info;refine wpl_append_sl hgd sx x t ho base e i z sz bytes T.under hi hz hs1 hb1 T.zs T.sz0 enc E.len E.one v s l m hv hx hown hs hb T.by0 hbase hn ?_;intro a' c' w' h1 h2 h3;exact h a' c' w' h1 (Mods.of_grown h2) h3
def LocR{α:Type}(w0:World)(F P:Nat→Prop)(w:World)(e:TypeId)(sz:Nat)(enc:α→List Value)(v:Value)(l:List α):Prop :=
 Own (λ_=>False) w w0.heap.size e sz enc v l∧∀g,v.ownBlock=some g→F g∧¬ P g
section
variable {α:Type}{P0 P P' F0 F F':Nat→Prop}{ad:Nat→Addr}{w0 w w':World}{c s:Nat}{G G':GA}{l l':List Nat}{e:TypeId}{sz:Nat}{enc:α→List Value}{v v':Value}{x x':List α}
theorem LocR.nxt(h:LocR w0 F P w e sz enc v x)(n:Nxt P P' F F' ad w w'):LocR w0 F' P' w' e sz enc v x :=
 ⟨h.1.mods n.stp.mods (λg hg=>(h.2 g hg).2),λg hg=>⟨n.grow g (h.2 g hg).1,n.not (h.1.lt g hg).2 (h.2 g hg).2⟩⟩
theorem LocR.ext(h:LocR w0 F P w e sz enc v x)(m:Ext w w'):LocR w0 F P w' e sz enc v x:=⟨h.1.ext m,h.2⟩
theorem LocR.nil(w0:World)(F P:Nat→Prop)(w:World)(e:TypeId)(sz:Nat)(enc:α→List Value):LocR w0 F P w e sz enc (.slice none 0 0) ([]:List α) :=
 ⟨Own.nil _ _ _ _ _ _,λg hg=>by simp[Value.ownBlock] at hg⟩
def plusV(F:Nat→Prop)(v:Value):Nat→Prop:=λk=>F k∨v.ownBlock=some k
theorem LocR.app(n:Nxt P0 P F0 F ad w0 w)(h:LocR w0 F P w e sz enc v x)(ho:Own (λ_=>False) w' w0.heap.size e sz enc v' x')(m:Mods (λk=>v.ownBlock=some k) w w'){K:Nat}(hat:v'.ownBlock=v.ownBlock∨v'.ownBlock=some K)(hK:w.heap.size≤K) :
  Nxt P0 P F0 (plusV F v') ad w0 w'∧LocR w0 (plusV F v') P w' e sz enc v' x':=by
 have hv:=λg (hg:v.ownBlock=some g)=>h.1.lt g hg
 have hb:∀k,v'.ownBlock=some k→k<w'.heap.size:=λk hk=>(ho.lt k hk).2
 have h0:∀k,v'.ownBlock=some k→w0.heap.size≤k:=λk hk=>(ho.lt k hk).1
 refine⟨⟨⟨n.stp.mods.trans' m (λi hi e=>by have:=(hv i e).1;omega),n.stp.old,λk hk=>Nat.lt_of_lt_of_le (n.stp.bd k hk) m.size⟩,λk hk=>.inl (n.sub k hk),λk hk=>.inl (n.grow k hk),λk hk hf=>?_,?_⟩,ho,λg hg=>⟨.inr hg,?_⟩⟩
 ·rcases hf with hf|hf
  ·exact n.oldF k hk hf
  ·have:=h0 k hf;omega
 ·exact n.env.step (m.mono (λk hk=>(h.2 k hk).1)) (λk hk hn hf=>by
   rcases hf with hf|hf
   ·exact hn hf
   ·rcases hat with e|e
    ·exact hn (h.2 k (e ▸ hf)).1
    ·rw[e] at hf;injection hf with hf;omega) (λk hf=>hf.elim (λhf=>Nat.lt_of_lt_of_le (n.env.lt k hf) m.size) (hb k))
 ·rcases hat with e|e
  ·exact (h.2 g (e ▸ hg)).2
  ·rw[e] at hg;injection hg with hg;exact λhp=>by have:=n.stp.bd g hp;omega
theorem CaR.plus{d sb:Nat}{bvs:List Value}{Pd:Nat→Prop}{C:CaA}(h:CaR F w d c sb bvs Pd C){Q:Nat→Prop}(m:Mods Q w w')(hQ:∀k,caF c sb Pd k→¬ Q k)(hF:∀k,Q k→F k)(hG:∀k,k<w.heap.size→¬ F k→¬ F' k):CaR F' w' d c sb bvs Pd C :=
 ⟨h.own.mods m (hQ c (.inr (.inl rfl))),h.row.at m (hQ sb (.inr (.inr rfl))),h.lenB,h.n64,λi s bv h1 h2=>(h.body i s bv h1 h2).step (m.mono hF) hG,h.disk.far m (λk hk=>hQ k (.inl hk)),h.cd,h.sd,h.ne⟩
theorem PgR.plus[GhoI](h:PgR F w P c s G l){Q:Nat→Prop}(m:Mods Q w w')(hQ:∀k,P k→¬ Q k)(hF:∀k,Q k→F k)(hG:∀k,k<w.heap.size→¬ F k→¬ F' k):PgR F' w' P c s G l:=by
 obtain⟨d,sb,bvs,Pd,b2,C,h1,h2,h3,h4,h5,h6,h7,h8⟩:=h;exact⟨d,sb,bvs,Pd,b2,C,h1.plus m (λk hk=>hQ k ((h6 k).2 (.inl hk))) hF hG,h2,h3,h4,h5.mods m (hQ s ((h6 s).2 (.inr (.inl rfl)))) (hQ b2 ((h6 b2).2 (.inr (.inr rfl)))),h6,h7,h8⟩
theorem PgR.app[GhoI](hp:PgR F w P c s G l)(h:LocR w0 F P w e sz enc v x)(m:Mods (λk=>v.ownBlock=some k) w w'){K:Nat}(hat:v'.ownBlock=v.ownBlock∨v'.ownBlock=some K)(hK:w.heap.size≤K):PgR (plusV F v') w' P c s G l :=
 hp.plus m (λk hk e=>(h.2 k e).2 hk) (λk hk=>(h.2 k hk).1) (λk hk hn hf=>by
  rcases hf with hf|hf
  ·exact hn hf
  ·rcases hat with e|e
   ·exact hn (h.2 k (e ▸ hf)).1
   ·rw[e] at hf;injection hf with hf;omega)
end
section
variable {P P' F F':Nat→Prop}{ad:Nat→Addr}{w w':World}{c s:Nat}{G G':GA}{l l':List Nat}
theorem giveAll_ok[GhoI](hL:Env F ad w)(hP:∀k,P k→F k)(h:PgR F w P c s G l)(gen:Nat)(iv:Value)(ids:List Nat)(hi:Sl P w 1 encN iv ids)(hok:giveOk l ids) :
  Calls Tryz.prog 211 #[pgV c s gen,iv] w (PgDone F P ad w c s (giveG G ids) (giveL l ids) (λ_ _ e=>e=.returned .nilIface)):=by
 unfold pgV;obtain⟨a,cap,rfl,i1,i2,i3,i4⟩:=_root_.id hi;unfold maxLen at i2;have m0:Ext w (w.alloc (.cells #[.pointer (some ⟨c,0,none⟩),.pointer (some ⟨s,0,none⟩),.int .u64 (gen:Int)] 120)):=(Mods.refl _ w).alloc _;have HN0:Hid (¬ P w.heap.size):=oh (λf=>by have:=h.bd _ f;omega);have HB0:=oh (Blk.new w #[.pointer (some ⟨c,0,none⟩),.pointer (some ⟨s,0,none⟩),.int .u64 (gen:Int)] 120);have HX0:=oh (Nxt.ext hL hP m0);have HG0:=oh (h.at m0);have HI0:=oh hi;have HOK:=oh hok;have HZ:Hid (w.heap.size<(w.alloc (.cells #[.pointer (some ⟨c,0,none⟩),.pointer (some ⟨s,0,none⟩),.int .u64 (gen:Int)] 120)).heap.size):=oh (by simp);obtain⟨n,hn⟩:∃n,n=ids.length:=⟨_,rfl⟩;rw[← hn] at i1 i3 ⊢;have HN:=oh hn;have H4:=oh i4;clear hL hP h hi m0 i4 hok hn
 go_enter Tryz.func211, Tryz.ntmps211
 go_wp2_with fail;go_loopg [10] n (λm v wr=>∃(k:Nat) (P1 F1:Nat→Prop),k+m=n∧v=.int .i64 k∧Hid (PgR F1 wr P1 c s (giveG G (ids.take k)) (giveL l (ids.take k))∧Nxt P P1 F F1 ad w wr∧Blk wr w.heap.size #[.pointer (some ⟨c,0,none⟩),.pointer (some ⟨s,0,none⟩),.int .u64 (gen:Int)] 120 ∧ ¬ P1 w.heap.size))
 case atStart=>exact⟨0,P,F,by omega,rfl,oh ⟨HG0.out,HX0.out,HB0.out,HN0.out⟩⟩
 case round =>
  obtain⟨k,P1,F1,hk,rfl,HW⟩:=hrel;by_cases hlt:k<n
  ·obtain⟨hW1,hW2,hW3,hW4⟩:=HW.out;obtain⟨id,hid⟩:∃id,ids[k]? = some id:=⟨_,List.getElem?_eq_getElem (by rw[← HN.out];exact hlt)⟩;obtain⟨b,off,ha,hb,hF,hc⟩:=Sl.at (G:=P) H4.out hW2.stp.mods (λ_ _ h=>h) k (by rw[← HN.out];exact hlt);subst ha;have c0:=hc 0 (.int .i64 (id:Int)) (by have:=(List.getElem?_eq_some_iff.1 hid).2;rw[this];rfl);simp only[Nat.mul_one,Nat.add_zero] at c0;have r0:=hW3.cell (o:=0) (v:=.pointer (some ⟨c,0,none⟩)) rfl;have r1:=hW3.cell (o:=1) (v:=.pointer (some ⟨s,0,none⟩)) rfl;have HID:=oh hid;have HT:Hid (ids.take (k+1)=ids.take k++[id]):=oh (take_one _ _ _ hid);have HGV:Hid ((spGive (giveL l (ids.take k)) id).2=none):=oh (giveOk_at ids l k id HOK.out hid);have h1:(0:Int)≤(k:Int):=by omega
   have h2:(k:Int)<(n:Int):=by omega
   clear hid hc hW1 hW2 hW3 hW4;go_wp2_with fail;refine (pgGive HW.out.2.1.env HW.out.2.1.sub HW.out.1 id).mono ?_;rintro e w2 ⟨P2,F2,hG2,hN2,ev,rfl,hE⟩;rw[HGV.out] at hE;cases hE
   have HG2:=oh hG2;have HN2:=oh hN2;have HB2:=oh (hN2.blk HW.out.2.2.1 HW.out.2.2.2);have HP2:Hid (¬ P2 w.heap.size):=oh (hN2.not HW.out.2.2.1.lt HW.out.2.2.2);have s0:=HB2.out.cell (o:=0) (v:=.pointer (some ⟨c,0,none⟩)) rfl;clear hG2 hN2 r0 r1 c0;go_wp2_with fail;refine (pgDrop HN2.out.env HN2.out.sub HG2.out id).mono ?_;rintro e w3 ⟨P3,F3,hG3,hN3,bb,rfl⟩;have HNX:Hid (PgR F3 w3 P3 c s (giveG G (ids.take (k+1))) (giveL l (ids.take (k+1)))∧Nxt P P3 F F3 ad w w3∧Blk w3 w.heap.size #[.pointer (some ⟨c,0,none⟩),.pointer (some ⟨s,0,none⟩),.int .u64 (gen:Int)] 120 ∧ ¬ P3 w.heap.size):=oh (by
    rw[HT.out,giveG_snoc,giveL_snoc];exact⟨hG3,(HW.out.2.1.trans HN2.out).trans hN3,hN3.blk HB2.out HP2.out,hN3.not HB2.out.lt HP2.out⟩)
   clear hG3 hN3 s0;go_wp2_with fail;go_roundg (gk-1)
   case measure=>omega
   case rel=>exact⟨k+1,P3,F3,by omega,by go_num,HNX⟩
  ·go_wp2_with fail;go_ret;have hT:ids.take k=ids:=List.take_of_length_le (by have:=HN.out;omega);have hW:=HW.out;rw[hT] at hW;exact⟨P1,F1,hW.1,hW.2.1,rfl⟩
theorem spGive_set{l:List Nat}{i x id:Nat}(h:id≠i):spGive (l.set i x) id=((spGive l id).1.set i x,(spGive l id).2):=by
 unfold spGive;have e:spCheck (l.set i x) (id:Int)=spCheck l (id:Int):=by unfold spCheck;rw[List.length_set]
 rw[e];cases spCheck l (id:Int) with
 | some e=>rfl
 | none =>
  simp only[Int.toNat_natCast];rw[List.getElem?_set_ne (λe=>h e.symm)];split
  ·simp only;rw[List.set_comm _ _ (λe=>h e.symm)]
  ·split
   ·simp only;rw[List.set_comm _ _ (λe=>h e.symm)]
   ·rfl
theorem giveL_set:∀(a l:List Nat) (i x:Nat),i ∉ a→giveL (l.set i x) a=(giveL l a).set i x
 | [],_,_,_,_=>rfl
 | y :: a,l,i,x,h=>by
  have hy:y≠i:=λe=>h (e ▸ List.mem_cons_self)
  rw[giveL,spGive_set hy,giveL_set a _ i x (λhm=>h (List.mem_cons_of_mem _ hm)),giveL]
theorem giveOk_set:∀(a l:List Nat) (i x:Nat),i ∉ a→giveOk l a→giveOk (l.set i x) a
 | [],_,_,_,_,_=>trivial
 | y :: a,l,i,x,h,ho=>by
  have hy:y≠i:=λe=>h (e ▸ List.mem_cons_self)
  rw[giveOk,spGive_set hy];exact⟨ho.1,giveOk_set a _ i x (λhm=>h (List.mem_cons_of_mem _ hm)) ho.2⟩
theorem giveOk_snoc:∀(a l:List Nat) (i:Nat),giveOk l a→(spGive (giveL l a) i).2=none→giveOk l (a++[i])
 | [],_,_,_,h=>⟨h,trivial⟩
 | _ :: a,_,i,ho,h=>⟨ho.1,giveOk_snoc a _ i ho.2 h⟩
theorem spGive_get{l:List Nat}{id i:Nat}(h:i≠id):(spGive l id).1[i]? = l[i]?:=by
 unfold spGive;split
 ·rfl
 ·split
  ·simp only[Int.toNat_natCast];rw[List.getElem?_set_ne (λe=>h e.symm)]
  ·split
   ·simp only[Int.toNat_natCast];rw[List.getElem?_set_ne (λe=>h e.symm)]
   ·rfl
theorem giveL_get:∀(a l:List Nat) (i:Nat),i ∉ a→(giveL l a)[i]? = l[i]?
 | [],_,_,_=>rfl
 | y :: a,l,i,h=>by
  have hy:i≠y:=λe=>h (e ▸ List.mem_cons_self)
  rw[giveL,giveL_get a _ i (λhm=>h (List.mem_cons_of_mem _ hm)),spGive_get hy]
theorem spGive_fresh{l:List Nat}{i:Nat}(h2:2≤i)(hi:i<l.length):spGive (l.set i 2) i=((l.set i 2).set i 0,none):=by
 unfold spGive;have e:spCheck (l.set i 2) (i:Int)=none:=by unfold spCheck;rw[List.length_set,if_neg (by omega)]
 rw[e];simp only[Int.toNat_natCast];rw[List.getElem?_set_self hi,if_pos rfl]
theorem LocR.slP{α:Type}{w0:World}{e:TypeId}{sz:Nat}{enc:α→List Value}{v:Value}{x:List α}(h:LocR w0 F P w e sz enc v x)(henc:∀y,(enc y).length=sz)(hl:x.length≤140737488355328):Sl P w sz enc v x :=
 Own.sl (F:=P) ⟨h.1.1,λg hg=>(h.2 g hg).2⟩ henc hl
structure Taken(l:List Nat)(a:List Nat)(l1:List Nat):Prop where
 ok:giveOk l1 a
 back:giveL l1 a=l
 fresh:∀id∈a,l1[id]? = some 2
 len:l1.length=l.length
 two:∀id∈a,2≤id
 nd:a.Nodup
 same:∀i,i ∉ a→l1[i]? = l[i]?
theorem Taken.nil(l:List Nat):Taken l [] l:=⟨trivial,rfl,λ_ h=>by simp at h,rfl,λ_ h=>by simp at h,List.nodup_nil,λ_ _=>rfl⟩
def spOk(l:List Nat):Prop:=l[0]? ≠ some 0∧l[1]? ≠ some 0
theorem Taken.step{l a l1:List Nat}{i:Nat}(h:Taken l a l1)(hok:spOk l)(hf:spFree l1=some i):Taken l (a++[i]) (l1.set i 2)∧l[i]? = some 0:=by
 obtain⟨h0,hi⟩:=spFree_at hf;have hia:i ∉ a:=λhm=>by have:=h.fresh i hm;rw[h0] at this;cases this
 have hl0:l[i]? = some 0:=by rw[← h.back,giveL_get a l1 i hia];exact h0
 have h2:2≤i:=by
  rcases Nat.lt_or_ge i 2 with hlt|hge
  ·obtain rfl|rfl:i=0∨i=1:=by omega
   ·exact absurd hl0 hok.1
   ·exact absurd hl0 hok.2
  ·exact hge
 have hil:i<l.length:=by rw[← h.len];exact hi
 have e1:giveL (l1.set i 2) a=l.set i 2:=by rw[giveL_set a l1 i 2 hia,h.back]
 have e2:=spGive_fresh (l:=l) h2 hil;refine⟨⟨giveOk_snoc a _ i (giveOk_set a l1 i 2 hia h.ok) (by rw[e1,e2]),?_,λid hid=>?_,by rw[List.length_set];exact h.len,λid hid=>?_,?_,λj hj=>?_⟩,hl0⟩
 ·rw[giveL_snoc,e1,e2];simp only;rw[List.set_set];apply List.ext_getElem?
  intro j;by_cases e:j=i
  ·subst e;rw[List.getElem?_set_self hil,hl0]
  ·rw[List.getElem?_set_ne (λe'=>e e'.symm)]
 ·rw[List.mem_append] at hid;rcases hid with hid|hid
  ·rw[List.getElem?_set_ne (λ(e:i=id)=>hia (by rw[e];exact hid))];exact h.fresh id hid
  ·simp at hid;subst hid;rw[List.getElem?_set_self hi]
 ·rw[List.mem_append] at hid;rcases hid with hid|hid
  ·exact h.two id hid
  ·simp at hid;omega
 ·rw[List.nodup_append];exact⟨h.nd,by simp,λx hx y hy e=>by simp at hy;exact hia (by rw[← hy,← e];exact hx)⟩
 ·rw[List.mem_append] at hj;have:j≠i:=λe=>hj (.inr (by simp[e]))
  rw[List.getElem?_set_ne (λe=>this e.symm)];exact h.same j (λhm=>hj (.inl hm))
def TakeAllDone[GhoI](F P:Nat→Prop)(ad:Nat→Addr)(w:World)(c s:Nat)(G:GA)(l:List Nat)(n:Nat)(e:Ending)(w':World):Prop :=
  ∃(P' F':Nat→Prop) (G':GA) (l':List Nat),PgR F' w' P' c s G' l'∧Nxt P P' F F' ad w w' ∧
    ((∃ (ids : List Nat) (iv : Value), takeA n l = some (ids, l') ∧ Taken l ids l' ∧ ids.length = n ∧ G' = G ∧ e = .returned (.tuple #[iv, .nilIface]) ∧ Sl P' w' 1 encN iv ids) ∨
     (∃(a:List Nat) (f:Nat),takeA n l=none∧l'=l∧G'=giveG G a∧(∀id∈a,l[id]? = some 0)∧e=.returned (.tuple #[.slice none 0 0,faultV f])∧ErrC F' ad w' (faultV f) [-1] 3))
theorem Nxt.slP{α:Type}{sz:Nat}{enc:α→List Value}{v:Value}{x:List α}(n:Nxt P P' F F' ad w w')(h:Sl P w sz enc v x):Sl P' w' sz enc v x:=h.step n.stp.mods (λk hk hn h'=>hn (n.stp.old k hk h'))
theorem takeAll_any[GhoI](hL:Env F ad w)(hP:∀k,P k→F k)(h:PgR F w P c s G l)(gen n:Nat)(hn:n≤1000)(hok:spOk l) :
  Calls Tryz.prog 272 #[pgV c s gen,.int .i64 (n:Int)] w (TakeAllDone F P ad w c s G l n):=by
 unfold pgV;have m0:Ext w (w.alloc (.cells #[.pointer (some ⟨c,0,none⟩),.pointer (some ⟨s,0,none⟩),.int .u64 (gen:Int)] 120)):=(Mods.refl _ w).alloc _;have HN0:Hid (¬ P w.heap.size):=oh (λf=>by have:=h.bd _ f;omega);have HB0:=oh (Blk.new w #[.pointer (some ⟨c,0,none⟩),.pointer (some ⟨s,0,none⟩),.int .u64 (gen:Int)] 120);have HX0:=oh (Nxt.ext hL hP m0);have HG0:=oh (h.at m0);have HOK:=oh hok;clear hL hP h m0 hok
 go_enter Tryz.func272, Tryz.ntmps272
 go_wp2_with fail;go_loopg [6,10] n (λm iv v wr=>∃(k:Nat) (P1 F1:Nat→Prop) (a l1:List Nat),k+m=n∧v=.int .i64 k∧Hid (PgR F1 wr P1 c s G l1∧Nxt P P1 F F1 ad w wr∧(Blk wr w.heap.size #[.pointer (some ⟨c,0,none⟩),.pointer (some ⟨s,0,none⟩),.int .u64 (gen:Int)] 120 ∧ ¬ P1 w.heap.size∧iv.ownBlock≠some w.heap.size) ∧
  LocR w F1 P1 wr 3 1 encN iv a∧Taken l a l1∧takeA n l=(takeA m l1).map (λp=>(a++p.1,p.2))∧a.length=k∧∀id∈a,l[id]? = some 0))
 case atStart=>exact⟨0,P,F,[],l,by omega,rfl,oh ⟨HG0.out,HX0.out,⟨HB0.out,HN0.out,by simp[Value.ownBlock]⟩,LocR.nil _ _ _ _ _ _ _,Taken.nil l,by cases takeA n l <;> rfl,rfl,λ_ h=>by simp at h⟩⟩
 case round =>
  obtain⟨k,P1,F1,a,l1,hk,rfl,HW⟩:=hrel;obtain⟨ia,icap,hiv,_⟩:=HW.out.2.2.2.1.1.form;subst hiv;have hak:a.length=k:=HW.out.2.2.2.2.2.2.1;by_cases hlt:k<n
  ·have hB:=HW.out.2.2.1.1;have r0:=hB.cell (o:=0) (v:=.pointer (some ⟨c,0,none⟩)) rfl;have r1:=hB.cell (o:=1) (v:=.pointer (some ⟨s,0,none⟩)) rfl;have r2:=hB.cell (o:=2) (v:=.int .u64 (gen:Int)) rfl;have HAK:=oh hak;clear hak hB;go_wp2_with fail;refine (pgTake HW.out.2.1.env HW.out.2.1.sub HW.out.1).mono ?_;rintro e w2 ⟨P2,F2,hG2,hN2,ht⟩;have HG2:=oh hG2;have HN2:=oh hN2;have HB2:=oh (hN2.blk HW.out.2.2.1.1 HW.out.2.2.1.2.1);have HP2:Hid (¬ P2 w.heap.size):=oh (hN2.not HW.out.2.2.1.1.lt HW.out.2.2.1.2.1);have HLoc2:=oh (HW.out.2.2.2.1.nxt hN2);have s0:=HB2.out.cell (o:=0) (v:=.pointer (some ⟨c,0,none⟩)) rfl;have s1:=HB2.out.cell (o:=1) (v:=.pointer (some ⟨s,0,none⟩)) rfl;have s2:=HB2.out.cell (o:=2) (v:=.int .u64 (gen:Int)) rfl;have HA:Hid (a.length≤1000):=oh (by have:=HAK.out;omega);clear hG2 hN2 r0 r1 r2;rcases ht with ⟨i,hf,hi,rfl⟩|⟨hf,f,rfl,hE⟩
   ·have HF:=oh hf;have HTk:=oh (HW.out.2.2.2.2.1.step HOK.out hf);have HST:Hid (spTake l1=l1.set i 2):=oh (by unfold spTake;rw[hf]);clear hf hi s0 s1 s2;go_wp2_with (at_builtin;refine wpl_app2 Tryz.elI encN_ok rfl _ _ rfl w.heap.size (.slice ia a.length icap) (.slice (some ⟨w2.heap.size,0,none⟩) 1 1) a [i] rfl rfl (HLoc2.out.1.ext ((Mods.refl _ _).alloc _)) (Sl.one (F:=λ_=>False) (x:=i) (t := 3) (fz:=(0,0)) (heap_at rfl) (λf=>f)) (by have:=HA.out;simp;omega) (Nat.le_trans (HW.out.2.1.trans HN2.out).size (by simp)) (λf=>f) ?_;intro a' c' w4 hown hmod hat);have hx:=(HW.out.2.1.trans HN2.out).trans (Nxt.ext HN2.out.env HN2.out.sub ((Mods.refl _ w2).alloc (.cells #[.int .i64 (i:Int)] 3)));have hl:=HLoc2.out.ext ((Mods.refl _ w2).alloc (.cells #[.int .i64 (i:Int)] 3));obtain⟨j1,j2⟩:=LocR.app hx hl hown hmod hat (Nat.le_refl _);have j3:=(HG2.out.at ((Mods.refl _ w2).alloc (.cells #[.int .i64 (i:Int)] 3))).app hl hmod hat (Nat.le_refl _);have hBn:¬ (Value.slice ia a.length icap).ownBlock=some w.heap.size:=HW.out.2.2.1.2.2;have j4:=(HB2.out.alloc (.cells #[.int .i64 (i:Int)] 3)).mods hmod hBn;have HNX:Hid (PgR (plusV F2 (.slice a' (a.length + [i].length) c')) w4 P2 c s G (l1.set i 2)∧Nxt P P2 F (plusV F2 (.slice a' (a.length + [i].length) c')) ad w w4∧(Blk w4 w.heap.size #[.pointer (some ⟨c,0,none⟩),.pointer (some ⟨s,0,none⟩),.int .u64 (gen:Int)] 120 ∧ ¬ P2 w.heap.size∧(Value.slice a' (a.length + [i].length) c').ownBlock≠some w.heap.size) ∧
      LocR w (plusV F2 (.slice a' (a.length + [i].length) c')) P2 w4 3 1 encN (.slice a' (a.length + [i].length) c') (a++[i])∧Taken l (a++[i]) (l1.set i 2)∧takeA n l=(takeA (gk-1) (l1.set i 2)).map (λp=>(a++[i]++p.1,p.2))∧(a++[i]).length=k+1∧∀id∈a++[i],l[id]? = some 0):=oh (by
     refine⟨by rw[← HST.out];exact j3,j1,⟨j4,HP2.out,λe=>?_⟩,j2,HTk.out.1,?_,by simp[HAK.out],λid hid=>?_⟩
     ·rcases hat with e2|e2
      ·exact hBn (e2 ▸ e)
      ·rw[e2] at e;injection e with e;have:=HB2.out.lt;simp at e;omega
     ·rw[HW.out.2.2.2.2.2.1];obtain⟨m,rfl⟩:∃m,gk=m+1:=⟨gk-1,by omega⟩;rw[takeA,HF.out];simp only[Nat.add_sub_cancel];cases takeA m (l1.set i 2) with
      | none=>rfl
      | some p=>simp
     ·rw[List.mem_append] at hid;rcases hid with hid|hid
      ·exact HW.out.2.2.2.2.2.2.2 id hid
      ·simp at hid;subst hid;exact HTk.out.2)
    clear hown hmod hat hx hl j1 j2 j3 j4 hBn;go_wp2_with fail;go_roundg (gk-1)
    case measure=>omega
    case rel=>exact⟨k+1,P2,plusV F2 (.slice a' (a.length + [i].length) c'),a++[i],l1.set i 2,by omega,by go_num,HNX⟩
   ·have HF:=oh hf;have HE:=oh hE;have HST:Hid (spTake l1=l1):=oh (by unfold spTake;rw[hf]);clear hf hE;go_wp2_with fail;refine (giveAll_ok HN2.out.env HN2.out.sub (HST.out ▸ HG2.out) gen (.slice ia a.length icap) a (HLoc2.out.slP encN_ok.len (by have:=HA.out;omega)) HW.out.2.2.2.2.1.ok).mono ?_;rintro e w3 ⟨P3,F3,hG3,hN3,rfl⟩;have HG3:=oh hG3;have HN3:=oh hN3;have HE3:=oh (hN3.errc HN2.out.sub HE.out);clear hG3 hN3;go_wp2_with fail;go_ret2
    refine⟨P3,F3,_,_,HG3.out,(HW.out.2.1.trans HN2.out).trans HN3.out,.inr ⟨a,f,?_,HW.out.2.2.2.2.1.back,rfl,HW.out.2.2.2.2.2.2.2,rfl,HE3.out⟩⟩;rw[HW.out.2.2.2.2.2.1];obtain⟨m,rfl⟩:∃m,gk=m+1:=⟨gk-1,by omega⟩;rw[takeA,HF.out];rfl
  ·obtain rfl:gk=0:=by omega
   have HAK:=oh hak;clear hak;go_wp2_with fail;go_ret2
   refine⟨P1,F1,_,_,HW.out.1,HW.out.2.1,.inl ⟨a,.slice ia a.length icap,?_,HW.out.2.2.2.2.1,by have:=HAK.out;omega,rfl,rfl,?_⟩⟩
   ·rw[HW.out.2.2.2.2.2.1,takeA];simp
   ·exact HW.out.2.2.2.1.slP encN_ok.len (by have:=HAK.out;omega)
end
end
end Go.Proofs.YteabpacpngaoaaaGreatDoor
