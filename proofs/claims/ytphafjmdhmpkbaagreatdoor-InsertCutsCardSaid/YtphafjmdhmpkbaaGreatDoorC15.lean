/- (*block.Disk).Flush. | block.Right, New. | (*block.Disk).Corrupt. | A pager, by what is known of it: GA, and which blocks are free. | chain.size, check, giveAll, takeAll. | Rows of a function's own beside a pager: LocR. | chain.giveAll, takeAll. | chain.put. | chain.Write. -/
import Derived.Test.YtphafjmdhmpkbaaGreatDoorC13
import Derived.Laws.BitsAllLaws
import Derived.Test.YtphafjmdhmpkbaaGreatDoorC14
import Derived.Test.YtphafjmdhmpkbaaGreatDoorC06
import Derived.Test.YtphafjmdhmpkbaaGreatDoorC05
import Derived.IntWalk
namespace Go.Proofs.YtphafjmdhmpkbaaGreatDoor
open Go.RowKit
section
variable {P F:Nat→Prop} {ad:Nat→Addr} {w w':World} {d bl:Nat} {gs ws:List Nat} {wv kv:Value} {D:DiskA}
end
end Go.Proofs.YtphafjmdhmpkbaaGreatDoor
namespace Go.Proofs.YtphafjmdhmpkbaaGreatDoor
open Go.RowKit
attribute [local go_sem ↓] Go.wp_at_zero Go.wp_at_succ
theorem right_ok (b s:Nat) (h1:8≤b) (h2:b≤256) (h3:256≤s) (h4:s≤1024) (w:World) :
    Calls Tryz.prog 111 #[.agg #[.int .i64 (b:Int),.int .i64 (s:Int)]] w fun e w'=>e=.returned (.bool true)∧Ext w w':=by
  have a1:decide ((8:Int)≤(b:Int))=true:=by simp;omega
  have a2:decide ((b:Int)≤256)=true:=by simp;omega
  have a3:decide ((256:Int)≤(s:Int))=true:=by simp;omega
  have a4:decide ((s:Int)≤1024)=true:=by simp;omega
  clear h1 h2 h3 h4
  go_enter Tryz.func111, Tryz.ntmps111
  go_wp2
  go_ret
  exact ⟨rfl,(Mods.refl _ _).alloc _⟩

def encG (size:Nat) (g:Nat):List Value:=[rowV size g]
theorem encG_ok (size:Nat):EncOk (encG size) 1:=⟨fun _=>rfl,by intro x u hu;simp [encG,rowV] at hu;subst hu;rfl⟩
theorem Tryz.elR:ElT Tryz.prog 157 110 (.slice none 0 0) 1 24:=⟨Tryz.underlying157,by kernel_rfl,rfl,by decide,by decide⟩
section
variable {F:Nat→Prop} {ad:Nat→Addr} {w w':World}
def NewI (w:World) (B0 B1 b s:Nat) (wr:World) (gs:List Nat) (v:Value):Prop :=
  Ext w wr∧B1 < wr.heap.size∧Blk wr B0 #[.int .i64 (b:Int),.int .i64 (s:Int)] 115 ∧ Blk wr B1 #[.int .i64 (b:Int),.int .i64 (s:Int),v,.slice none 0 0,.bool false,.int .i64 0,.int .i64 0,.int .i64 0,.slice none 0 0,.bool false,.int .i64 0] 163 ∧
      Own (fun x=>x ∈ B0 :: B1 :: gs) wr B0 110 1 (encG s) v gs∧(B0 :: B1 :: gs).Nodup∧∀ g,g ∈ gs→B1 < g∧Blk wr g (bytesC (List.replicate s 0)) 5
theorem bytesC_zero (s:Nat):bytesC (List.replicate s 0)=Array.replicate s (.int .u8 0):=by
  rw [bytesC,List.map_replicate,List.toArray_replicate];rfl
theorem NewI.step {B0 B1 b s:Nat} {wr w4:World} {gs:List Nat} {v v':Value} (h:NewI w B0 B1 b s wr gs v) (hw:w.heap.size≤B0) (hB:B0 < B1)
    (hown:Own (fun x=>x ∈ B0 :: B1 :: gs) w4 B0 110 1 (encG s) v' (gs ++ [wr.heap.size])) (hgrow:((wr.drew.alloc (.cells (Array.replicate s (.int .u8 0)) 5)).alloc (.cells #[.slice (some ⟨wr.heap.size,0,none⟩) s s] 110)).grownBy w4 v.ownBlock)
    (hat:v'.ownBlock=v.ownBlock∨v'.ownBlock=some (wr.heap.size+2)):NewI w B0 B1 b s (w4.setCell ⟨B1,2,none⟩ v') (gs ++ [wr.heap.size]) v':=by
  obtain ⟨h1,h2,h3,h4,h6,h7,h8⟩:=h
  have mg:=Mods.of_grown hgrow
  have m0:Ext wr ((wr.drew.alloc (.cells (Array.replicate s (.int .u8 0)) 5)).alloc (.cells #[.slice (some ⟨wr.heap.size,0,none⟩) s s] 110)):=((Mods.refl _ wr).drew.alloc _).alloc _
  have e1:((wr.drew.alloc (.cells (Array.replicate s (.int .u8 0)) 5)).alloc (.cells #[.slice (some ⟨wr.heap.size,0,none⟩) s s] 110)).heap.size=wr.heap.size+2:=by simp
  have hsz:=mg.size
  rw [e1] at hsz
  have e3:wr.drew.heap.size=wr.heap.size:=rfl
  have mA:Mods (fun x=>v.ownBlock=some x) wr w4:=m0.ext.trans mg
  have hv0:∀ x,v.ownBlock=some x→w.heap.size≤x∧x < wr.heap.size:=fun x hx=>by have:=h6.lt x hx;omega
  have hvn:∀ x,x ∈ B0 :: B1 :: gs→¬ v.ownBlock=some x:=fun x hx e=>h6.2 x e hx
  have hlt:∀ x,x ∈ B0 :: B1 :: gs→x < wr.heap.size:=fun x hx=>by
    simp only [List.mem_cons] at hx
    rcases hx with rfl | rfl | hx
    · exact h3.lt
    · exact h4.lt
    · exact (h8 x hx).2.lt
  have far:∀ (x:Nat) (c:Array Value) (t:TypeId),x ∈ B0 :: B1 :: gs→x ≠ B1→Blk wr x c t→Blk (w4.setCell ⟨B1,2,none⟩ v') x c t:=fun x c t hx hne hb=>(hb.mods mA (hvn x hx)).set_other hne _
  have hmem:∀ x,x ∈ B0 :: B1 :: (gs ++ [wr.heap.size])→x ∈ B0 :: B1 :: gs∨x=wr.heap.size:=fun x hx=>by
    simp only [List.mem_cons,List.mem_append,List.not_mem_nil,or_false] at hx ⊢
    rcases hx with h | h | h | h <;> simp [h]
  have hnew:Blk (w4.setCell ⟨B1,2,none⟩ v') wr.heap.size (bytesC (List.replicate s 0)) 5:=by
    rw [bytesC_zero]
    exact (((Blk.new wr.drew _ _).alloc _).mods mg (fun e=>by have:=hv0 _ e;omega)).set_other (by simp only;omega) _
  refine ⟨(h1.trans' mA (fun i hi e=>by have:=(hv0 i e).1;omega)).setCell (.inl (by simp only;omega)) _,?_,far B0 _ _ List.mem_cons_self (by omega) h3,?_,?_,?_,fun g hg=>?_⟩
  · simp only [World.setCell,Array.size_modify];omega
  · have:=(h4.mods mA (hvn B1 (List.mem_cons_of_mem _ List.mem_cons_self))).set 2 v'
    simpa using this
  · have hno:∀ x,v'.ownBlock=some x→x ≠ B1:=fun x hx e=>hown.2 x hx (e ▸ List.mem_cons_of_mem _ List.mem_cons_self)
    have k1:=hown.mods (Mods.at (fun x=>x=B1) w4 B1 2 v' rfl) hno
    refine ⟨k1.1,fun x hx hm=>?_⟩
    rcases hmem x hm with hm | rfl
    · exact k1.2 x hx hm
    · rcases hat with e | e
      · have:=(hv0 _ (e ▸ hx)).2;omega
      · rw [e] at hx;injection hx with hx;omega
  · have e:B0 :: B1 :: (gs ++ [wr.heap.size])=(B0 :: B1 :: gs) ++ [wr.heap.size]:=by simp
    rw [e,List.nodup_append]
    exact ⟨h7,by simp,fun x hx y hy e=>by have:=hlt x hx;simp at hy;omega⟩
  · rw [List.mem_append] at hg
    rcases hg with hg | hg
    · exact ⟨(h8 g hg).1,far g _ _ (List.mem_cons_of_mem _ (List.mem_cons_of_mem _ hg)) (fun e=>by have:=(h8 g hg).1;omega) (h8 g hg).2⟩
    · simp at hg;subst hg;exact ⟨h2,hnew⟩
theorem map_flat (s:Nat):∀ gs:List Nat,gs.map (rowV s)=gs.flatMap (encG s)
  | []=>rfl
  | x :: r=>by rw [List.map_cons,List.flatMap_cons,map_flat s r];rfl
theorem NewI.disk {B0 B1 b s:Nat} {wr:World} {gs:List Nat} {cap:Nat} {a:Option Addr} (h:NewI w B0 B1 b s wr gs (.slice a b cap)) (hl:gs.length=b) (hw:w.heap.size≤B0) (hB:B0 < B1) (h1:8≤b) (h2:b≤256) (h3:256≤s) (h4:s≤1024) :
    ∃ P,DkS wr P B1 (newDisk b s)∧∀ k,P k→w.heap.size≤k:=by
  obtain ⟨k1,k2,k3,k4,k6,k7,k8⟩:=h
  rcases k6.1.2 with ⟨e,_⟩ | ⟨bl,cap',cur,e,hb,hblk,hc,hm,hs,ht⟩
  · cases e;omega
  · simp only [Value.slice.injEq] at e
    obtain ⟨rfl,_,rfl⟩:=e
    have hnb:=k6.2 bl rfl
    simp only [List.mem_cons,not_or] at hnb
    have hnd:=(List.nodup_cons.1 k7).2
    unfold maxLen at hm
    refine ⟨dkF B1 bl gs [] (.slice none 0 0) (.slice none 0 0),⟨bl,gs,[],.slice none 0 0,.slice none 0 0,⟨⟨cap,by show b≤cap;omega,by omega,k4,cur.toList.drop gs.length,?_,?_⟩,hl,by simp [newDisk],rfl,Own.nil _ _ _ _ _ _,fun g hg=>by simp [Value.ownBlock] at hg,by simp [newDisk],Own.nil _ _ _ _ _ _,
      fun i g b' hg hb'=>?_,fun i g p hg=>by simp at hg,?_,h1,h2,h3,h4,by simp [newDisk]⟩,fun k=>Iff.rfl⟩,fun k hk=>?_⟩
    · have e2:(gs.map (rowV (newDisk b s).size) ++ cur.toList.drop gs.length).toArray=cur:=by
        have:gs.map (rowV (newDisk b s).size)=cur.toList.take gs.length:=by
          have h5:cur.toList.take (gs.length * 1)=gs.flatMap (encG s):=by simpa using ht
          rw [Nat.mul_one] at h5
          rw [h5]
          exact map_flat s gs
        rw [this,List.take_append_drop,Array.toArray_toList]
      rw [e2];exact hblk
    · simp;omega
    · rw [show (newDisk b s).lasting=List.replicate b (List.replicate s 0) by rfl,List.getElem?_replicate] at hb'
      split at hb'
      · injection hb' with hb'
        subst hb'
        exact ⟨by simp [newDisk],(k8 g (List.mem_of_getElem? hg)).2⟩
      · cases hb'
    · rw [List.append_nil,List.nodup_cons,List.nodup_cons]
      refine ⟨?_,hnb.2.2,(List.nodup_cons.1 hnd).2⟩
      rw [List.mem_cons]
      rintro (e | e)
      · exact hnb.2.1 e.symm
      · exact (List.nodup_cons.1 hnd).1 e
    · have hB1:w.heap.size≤B1:=by omega
      rcases hk with hk | hk | hk
      · simp only [List.append_nil,List.mem_cons] at hk
        rcases hk with rfl | rfl | hk
        · exact hB1
        · omega
        · have:=(k8 k hk).1;omega
      · simp [Value.ownBlock] at hk
      · simp [Value.ownBlock] at hk
set_option maxRecDepth 100000 in
set_option maxHeartbeats 1000000 in
theorem dkNew_ok (b s:Nat) (h1:8≤b) (h2:b≤256) (h3:256≤s) (h4:s≤1024) :
    Calls Tryz.prog 70 #[.agg #[.int .i64 (b:Int),.int .i64 (s:Int)]] w fun e w'=>∃ d P,e=.returned (.tuple #[.pointer (some ⟨d,0,none⟩),.nilIface])∧DkS w' P d (newDisk b s)∧(∀ k,P k→w.heap.size≤k)∧Ext w w':=by
  have hmk:=run_mk (P:=Tryz.prog) 110 5 (.int .u8 0) 1 Tryz.underlying110 Tryz.mkB rfl s (by omega) (by omega)
  go_enter Tryz.func70, Tryz.ntmps70
  go_wp2_with fail
  refine (right_ok b s h1 h2 h3 h4 _).mono ?_
  rintro e w1 ⟨rfl,hm⟩
  have k0:=(Blk.new w #[.int .i64 (b:Int),.int .i64 (s:Int)] 115).ext hm
  have c0:=k0.cell (o:=0) (v:=.int .i64 (b:Int)) rfl
  have c1:=k0.cell (o:=1) (v:=.int .i64 (s:Int)) rfl
  have HM:Hid (Ext w w1):=Lib.hid (((Mods.refl _ w).alloc _).trans hm)
  have HS:Hid (w.heap.size < w1.heap.size):=Lib.hid k0.lt
  have K0:=Lib.hid k0
  have hsz:=HS.out
  clear k0 hm
  go_wp2_with fail
  go_loopg [15] b (fun m i wr=>∃ (cap:Nat) (gs:List Nat) (a:Option Addr),gs.length+m=b∧i=.int .i64 gs.length∧Hid (NewI w w.heap.size w1.heap.size b s wr gs (.slice a gs.length cap)))
  case atStart=>exact ⟨0,[],none,by simp,rfl,Lib.hid ⟨HM.out.alloc _,by simp,K0.out.alloc _,Blk.new w1 _ _,Own.nil _ _ _ _ _ _,by simp;omega,by simp⟩⟩
  case round =>
    obtain ⟨cap,gs,a,hk,rfl,HW⟩:=hrel
    obtain ⟨hW1,hW2,hW3,hW4,hW6,hW7,hW8⟩:=HW.out
    have d2:=hW4.cell (o:=2) (v:=.slice a gs.length cap) rfl
    have f2:=hW4.frozen 2
    have g0:=hW3.cell (o:=0) (v:=.int .i64 (b:Int)) rfl
    have g1:=hW3.cell (o:=1) (v:=.int .i64 (s:Int)) rfl
    have l0:=cell_lt g0
    have l1:=cell_lt d2
    have HO:Hid (Own (fun x=>x ∈ w.heap.size :: w1.heap.size :: gs) wr.drew w.heap.size 110 1 (encG s) (.slice a gs.length cap) gs):=Lib.hid (hW6.ext (Mods.refl _ _).drew)
    have HLT:Hid (∀ x,x ∈ w.heap.size :: w1.heap.size :: gs→x < wr.heap.size):=Lib.hid (fun x hx=>by
      simp only [List.mem_cons] at hx
      rcases hx with rfl | rfl | hx
      · exact l0
      · exact l1
      · exact (hW8 x hx).2.lt)
    have HDN:Hid (¬ (Value.slice a gs.length cap).ownBlock=some w1.heap.size):=Lib.hid (fun e=>hW6.2 _ e (by simp))
    have HDB:Hid (w.heap.size≤wr.heap.size):=Lib.hid hW1.size
    obtain ⟨k,hkk⟩:∃ k,k=gs.length:=⟨_,rfl⟩
    have HGL:=Lib.hid hkk
    have hmkd:∀ x:Obj,((wr.alloc x).cell? ⟨w1.heap.size,2,none⟩=some (.slice a gs.length cap)∧(wr.alloc x).cell? ⟨w.heap.size,1,none⟩=some (.int .i64 (s:Int))):=fun x=>⟨cell_alloc d2 x,cell_alloc g1 x⟩
    have hmkd2:∀ x y:Obj,((wr.alloc x).alloc y).cell? ⟨w1.heap.size,2,none⟩=some (.slice a gs.length cap):=fun x y=>cell_alloc (cell_alloc d2 x) y
    clear hW1 hW2 hW3 hW4 hW6 hW7 hW8 hkk
    by_cases hlt:gs.length < b
    · go_wp2_with fail
      go_region_law
        ((refine step_app (enc:=encG s) (F:=fun x=>x ∈ w.heap.size :: w1.heap.size :: gs) (G:=fun _=>False) Tryz.elR (encG_ok s) (by rfl) _ _ (by rfl) w.heap.size (.slice a gs.length cap) (.slice (some ⟨wr.heap.size+1,0,none⟩) 1 1) gs [wr.heap.size] (by rfl) (by rfl) (HO.out.ext (((Mods.refl _ wr.drew).alloc _).alloc _)) (Sl.one (x:=wr.heap.size) (t := 110) (fz:=(0,0)) (heap_at (by simp)) (fun f=>f)) (by simp;omega) (by have:=HDB.out;simp;omega) (fun f=>by have:=HLT.out _ f;simp at this;omega) ?_;intro a' c' w4 hown hgrow hat;obtain ⟨k4,k5⟩:=keepC (Mods.of_grown hgrow) (keepA (keepA (w:=wr.drew) ⟨d2,f2⟩ _) _) HDN.out))
      all_goals
        have HNX:=Lib.hid (HW.out.step (Nat.le_refl _) hsz hown hgrow (by simpa using hat))
        clear hown hgrow hat k4 k5
        go_wp2_with fail
        go_roundg (gk - 1)
        case measure=>omega
        case rel=>exact ⟨c',gs ++ [wr.heap.size],a',by simp;omega,by simp,by simpa using HNX⟩
    · have hkb:gs.length=b:=by omega
      have HKB:=Lib.hid hkb
      clear hkb
      go_wp2_with fail
      go_ret2
      have hN:=HW.out
      rw [HKB.out] at hN
      obtain ⟨P,q1,q2⟩:=hN.disk HKB.out (Nat.le_refl _) hsz h1 h2 h3 h4
      exact ⟨w1.heap.size,P,rfl,q1,q2,hN.1⟩
end
end Go.Proofs.YtphafjmdhmpkbaaGreatDoor
namespace Go.Proofs.YtphafjmdhmpkbaaGreatDoor
open Go.RowKit
section
variable {P F:Nat→Prop} {ad:Nat→Addr} {w w':World} {d bl:Nat} {gs ws:List Nat} {wv kv:Value} {D:DiskA}
end
def PgR (F:Nat→Prop) (w:World) (P:Nat→Prop) (c s:Nat) (G:GA) (l:List Nat):Prop :=
  ∃ (d sb:Nat) (bvs:List Value) (Pd:Nat→Prop) (b2:Nat) (C:CaA),CaR F w d c sb bvs Pd C∧CaInv C∧CaRel C G∧G.cost≤1000000∧SpR w s b2 l∧(∀ k,P k ↔ (caF c sb Pd k∨spF s b2 k))∧∀ k,caF c sb Pd k→¬ spF s b2 k
def PgDone (F P:Nat→Prop) (ad:Nat→Addr) (w:World) (c s:Nat) (G':GA) (l':List Nat) (R:(Nat→Prop)→World→Ending→Prop) (e:Ending) (w':World):Prop :=
  ∃ P' F',PgR F' w' P' c s G' l'∧Nxt P P' F F' ad w w'∧R F' w' e

def GA.check (G:GA) (id:Int):Option Err:=if id < 0∨(G.blocks:Int)≤id then some ([pgOf id],2) else none
def GA.get (G:GA) (id:Int):PageA ⊕ Err :=
  match G.check id with
  | some e=>.inr e
  | none=>match G.view id.toNat with
    | some (.inl p)=>.inl p
    | some (.inr (l,k))=>.inr (-1 :: l,k)
    | none=>.inr ([],0)
def GA.knows (G:GA) (id:Int):Prop:=G.check id=none→∃ r,G.view id.toNat=some r

section
variable {P P' F F':Nat→Prop} {ad:Nat→Addr} {w w':World} {c s:Nat} {G G':GA} {l l':List Nat} {R:(Nat→Prop)→World→Ending→Prop}
theorem Nxt.iff {Q Q':Nat→Prop} (n:Nxt P P' F F' ad w w') (h:∀ k,Q k ↔ P k) (h':∀ k,Q' k ↔ P' k):Nxt Q Q' F F' ad w w' :=
  ⟨⟨n.stp.mods.mono (fun k hk=>(h k).2 hk),fun k hk hq=>(h k).2 (n.stp.old k hk ((h' k).1 hq)),fun k hq=>n.stp.bd k ((h' k).1 hq)⟩,fun k hq=>n.sub k ((h' k).1 hq),n.grow,n.oldF,n.env⟩
theorem PgR.at (h:PgR F w P c s G l) (m:Ext w w'):PgR F w' P c s G l:=by
  obtain ⟨d,sb,bvs,Pd,b2,C,h1,h2,h3,h4,h5,h6,h7⟩:=h
  exact ⟨d,sb,bvs,Pd,b2,C,h1.at m,h2,h3,h4,h5.mods m (fun f=>f) (fun f=>f),h6,h7⟩
theorem PgR.bd (h:PgR F w P c s G l):Bd P w:=fun k hk=>by
  obtain ⟨d,sb,bvs,Pd,b2,C,h1,h2,h3,h4,h5,h6,h7⟩:=h
  rcases (h6 k).1 hk with hk | rfl | rfl
  · exact h1.bdP k hk
  · exact h5.own.lt
  · exact h5.row.lt
theorem PgR.step {d sb sb' b2:Nat} {bvs':List Value} {Pd Pd':Nat→Prop} {C':CaA} (hL:Env F ad w) (hP:∀ k,P k→F k) (h5:SpR w s b2 l) (h6:∀ k,P k ↔ (caF c sb Pd k∨spF s b2 k)) (h7:∀ k,caF c sb Pd k→¬ spF s b2 k)
    (hC:CaR F' w' d c sb' bvs' Pd' C') (hI:CaInv C') (hG:CaRel C' G') (hco:G'.cost≤1000000) (n:Nxt (caF c sb Pd) (caF c sb' Pd') F F' ad w w') :
    ∃ P',PgR F' w' P' c s G' l∧Nxt P P' F F' ad w w':=by
  have hns:¬ caF c sb Pd s:=fun f=>h7 s f (.inl rfl)
  have hnb:¬ caF c sb Pd b2:=fun f=>h7 b2 f (.inr rfl)
  have q:=n.part (Q:=spF s b2) (fun k hk=>hP k ((h6 k).2 (.inr hk))) hL
  refine ⟨fun k=>caF c sb' Pd' k∨spF s b2 k,⟨d,sb',bvs',Pd',b2,C',hC,hI,hG,hco,h5.mods n.stp.mods hns hnb,fun k=>Iff.rfl,fun k hk hs=>?_⟩,q.iff h6 (fun k=>Iff.rfl)⟩
  rcases hs with rfl | rfl
  · exact n.not h5.own.lt hns hk
  · exact n.not h5.row.lt hnb hk
theorem PgR.lim (h:PgR F w P c s G l):8≤G.blocks∧G.blocks≤256∧256≤G.size∧G.size≤1024∧8≤l.length∧l.length≤256:=by
  obtain ⟨d,sb,bvs,Pd,b2,C,h1,h2,h3,h4,h5,h6,h7⟩:=h
  exact ⟨h3.blocks ▸ h2.b8,h3.blocks ▸ h2.b256,h3.size ▸ h2.s256,h3.size ▸ h2.s1024,h5.len,h5.len2⟩
theorem get_eq {C:CaA} (h:CaRel C G) (id:Int) (hk:G.knows id):C.get id=G.get id:=by
  unfold CaA.get GA.get
  have e:C.check id=G.check id:=by unfold CaA.check GA.check;rw [h.blocks]
  rw [e]
  cases hc:G.check id with
  | some e=>rfl
  | none =>
    obtain ⟨r,hr⟩:=hk hc
    simp only [hr]
    rw [h.view _ r hr]
    rcases r with p | ⟨a,b⟩ <;> rfl
theorem pgGet (hL:Env F ad w) (hP:∀ k,P k→F k) (h:PgR F w P c s G l) (id:Int) (hk:G.knows id) :
    Calls Tryz.prog 171 #[.pointer (some ⟨c,0,none⟩),.int .i64 id] w (PgDone F P ad w c s G l (fun F' w' e=>PageRes F' ad w' (G.get id) e)):=by
  obtain ⟨d,sb,bvs,Pd,b2,C,h1,h2,h3,h4,h5,h6,h7⟩:=h
  refine (caGet_any hL (fun k hk=>hP k ((h6 k).2 (.inl hk))) h1 h2 (Nat.le_trans h3.cost h4) id).mono ?_
  rintro e w' ⟨bvs',Pd',F',C',k1,k2,k3,k4⟩
  obtain ⟨P',q1,q2⟩:=PgR.step hL hP h5 h6 h7 k1 k2.inv (k2.rel h3) h4 k3
  exact ⟨P',F',q1,q2,by rw [← get_eq h3 id hk];exact k4⟩
theorem pgPut (hL:Env F ad w) (hP:∀ k,P k→F k) (h:PgR F w P c s G l) (p:PageA) (bv:Value) (hb:Sl F w 1 encB bv p.body) (hg:p.gen < 18446744073709551616) (hid:0≤p.id∧p.id < G.blocks) (hpc:pgCheck p G.size=none) (hco:G.cost < 1000000) :
    Calls Tryz.prog 127 #[.pointer (some ⟨c,0,none⟩),pageV p bv] w (PgDone F P ad w c s (G.put p) l (fun _ _ e=>e=.returned .nilIface)):=by
  obtain ⟨d,sb,bvs,Pd,b2,C,h1,h2,h3,h4,h5,h6,h7⟩:=h
  refine (caPut_any hL (fun k hk=>hP k ((h6 k).2 (.inl hk))) h1 h2 (Nat.le_trans h3.cost h4) p bv hb hg).mono ?_
  rintro e w' ⟨bvs',Pd',F',C',ev,rfl,k1,k3,k4,k5⟩
  have hE:C.putE p=none:=by
    unfold CaA.putE CaA.check
    rw [if_neg (by rw [h3.blocks];omega),h3.size]
    simp only [hpc];rfl
  rcases k5 with ⟨_,_,_,hI,hR⟩ | ⟨hne,_⟩
  · obtain ⟨P',q1,q2⟩:=PgR.step hL hP h5 h6 h7 k1 hI (hR G h3) (by show G.cost+1≤_;omega) k3
    rw [hE] at k4
    cases k4
    exact ⟨P',F',q1,q2,rfl⟩
  · exact absurd hE hne
theorem pgDrop (hL:Env F ad w) (hP:∀ k,P k→F k) (h:PgR F w P c s G l) (id:Nat) :
    Calls Tryz.prog 178 #[.pointer (some ⟨c,0,none⟩),.int .i64 (id:Int)] w (PgDone F P ad w c s (G.drop id) l (fun _ _ e=>∃ b,e=.returned (.bool b))):=by
  obtain ⟨d,sb,bvs,Pd,b2,C,h1,h2,h3,h4,h5,h6,h7⟩:=h
  refine (caDrop_any hL (fun k hk=>hP k ((h6 k).2 (.inl hk))) h1 h2 id).mono ?_
  rintro e w' ⟨b,bvs',C',rfl,k1,k3,k4,_,_,k5⟩
  obtain ⟨P',q1,q2⟩:=PgR.step hL hP h5 h6 h7 k1 k4 (k5 G h3) h4 k3
  exact ⟨P',F,q1,q2,b,rfl⟩
theorem waits {F:Nat→Prop} {d sb:Nat} {bvs:List Value} {Pd:Nat→Prop} {C:CaA} (h:CaR F w d c sb bvs Pd C):∀ p ∈ C.disk.waiting,p.1 < C.disk.blocks:=by
  obtain ⟨bl,gs,ws,wv,kv,h1,h2⟩:=h.disk
  intro p hp
  obtain ⟨j,hj,e⟩:=List.getElem_of_mem hp
  have hw:j < ws.length:=by rw [h1.lenW];exact hj
  exact (h1.wrow j _ p (List.getElem?_eq_getElem hw) (by rw [← e];exact List.getElem?_eq_getElem hj)).1
theorem PgR.space (hL:Env F ad w) (hP:∀ k,P k→F k) {d sb b2:Nat} {bvs:List Value} {Pd:Nat→Prop} {C:CaA} (h1:CaR F w d c sb bvs Pd C) (h2:CaInv C) (h3:CaRel C G) (h4:G.cost≤1000000) (h6:∀ k,P k ↔ (caF c sb Pd k∨spF s b2 k)) (h7:∀ k,caF c sb Pd k→¬ spF s b2 k)
    (h5:SpR w' s b2 l') (m:Mods (spF s b2) w w'):PgR F w' P c s G l'∧Nxt P P F F ad w w' :=
  ⟨⟨d,sb,bvs,Pd,b2,C,h1.far m h7 (fun k hk=>hP k ((h6 k).2 (.inr hk))),h2,h3,h4,h5,h6,h7⟩,Nxt.same hL hP (m.mono (fun k hk=>(h6 k).2 (.inr hk)))⟩
def TakeP (ad:Nat→Addr) (l:List Nat) (F':Nat→Prop) (w':World) (e:Ending):Prop :=
  (∃ i,spFree l=some i∧i < l.length∧e=.returned (.tuple #[.int .i64 (i:Int),.nilIface]))∨(spFree l=none∧∃ f,e=.returned (.tuple #[.int .i64 0,faultV f])∧ErrC F' ad w' (faultV f) [-1] 3)
def spTake (l:List Nat):List Nat:=match spFree l with | some i=>l.set i 2 | none=>l
theorem pgTake (hL:Env F ad w) (hP:∀ k,P k→F k) (h:PgR F w P c s G l) :
    Calls Tryz.prog 177 #[.pointer (some ⟨s,0,none⟩)] w (PgDone F P ad w c s G (spTake l) (TakeP ad l)):=by
  obtain ⟨d,sb,bvs,Pd,b2,C,h1,h2,h3,h4,h5,h6,h7⟩:=h
  refine (spTake_any hL s b2 l h5).mono ?_
  rintro e w' (⟨i,k1,k2,rfl,k3,k4⟩ | ⟨k1,f,rfl,k3,k4⟩)
  · obtain ⟨q1,q2⟩:=PgR.space hL hP h1 h2 h3 h4 h6 h7 k3 k4
    exact ⟨P,F,by unfold spTake;rw [k1];exact q1,q2,.inl ⟨i,k1,k2,rfl⟩⟩
  · have q:=Nxt.ext hL hP k4
    exact ⟨P,F,by unfold spTake;rw [k1];exact ⟨d,sb,bvs,Pd,b2,C,h1.at k4,h2,h3,h4,h5.mods k4 (fun f=>f) (fun f=>f),h6,h7⟩,q,.inr ⟨k1,f,rfl,k3⟩⟩
theorem pgGive (hL:Env F ad w) (hP:∀ k,P k→F k) (h:PgR F w P c s G l) (id:Int) :
    Calls Tryz.prog 179 #[.pointer (some ⟨s,0,none⟩),.int .i64 id] w (PgDone F P ad w c s G (spGive l id).1 (fun F' w' e=>∃ ev,e=.returned ev∧ErrR F' ad w' ev (spGive l id).2)):=by
  obtain ⟨d,sb,bvs,Pd,b2,C,h1,h2,h3,h4,h5,h6,h7⟩:=h
  refine (Give_any hL s b2 l h5 id).mono ?_
  rintro e w' ⟨ev,rfl,k1,k2,k3⟩
  obtain ⟨q1,q2⟩:=PgR.space hL hP h1 h2 h3 h4 h6 h7 k2 k3
  exact ⟨P,F,q1,q2,ev,rfl,k1⟩
theorem pgDisk (h:PgR F w P c s G l):∃ d,Hid (PgR F w P c s G l)∧(Calls Tryz.prog 46 #[.pointer (some ⟨c,0,none⟩)] w fun e w'=>e=.returned (.pointer (some ⟨d,0,none⟩))∧w=w') ∧
    (∀ w',Ext w w' → Calls Tryz.prog 141 #[.pointer (some ⟨d,0,none⟩)] w' fun e w''=>e=.returned (.agg #[.int .i64 G.blocks,.int .i64 G.size])∧Ext w' w''):=by
  have H:=Lib.hid h
  obtain ⟨d,sb,bvs,Pd,b2,C,h1,h2,h3,h4,h5,h6,h7⟩:=h
  refine ⟨d,H,caDisk_any h1,fun w' m=>?_⟩
  rw [← h3.blocks,← h3.size]
  exact (h1.disk.at m).geo
end
def pgV (c s gen:Nat):Value:=.agg #[.pointer (some ⟨c,0,none⟩),.pointer (some ⟨s,0,none⟩),.int .u64 (gen:Int)]
def chCheck (n:Int):Option Err:=if n≤24∨4096 < n then some ([-1],2) else none
section
variable {P P' F F':Nat→Prop} {ad:Nat→Addr} {w w':World} {c s:Nat} {G G':GA} {l l':List Nat}
theorem chSize_any (h:PgR F w P c s G l) (gen:Nat) : Calls Tryz.prog 209 #[pgV c s gen] w fun e w'=>e=.returned (.int .i64 (G.size:Int))∧Ext w w':=by
  unfold pgV
  have m0:Ext w (w.alloc (.cells #[.pointer (some ⟨c,0,none⟩),.pointer (some ⟨s,0,none⟩),.int .u64 (gen:Int)] 45)):=(Mods.refl _ w).alloc _
  obtain ⟨d,HH,h1,h2⟩:=pgDisk (h.at m0)
  have gf1:=Tryz.geoF1
  have H1:=Lib.hid h1
  have H2:=Lib.hid h2
  have M0:=Lib.hid m0
  clear h1 h2 h m0
  go_enter Tryz.func209, Tryz.ntmps209
  go_wp2_with fail
  refine H1.out.mono ?_
  rintro e w1 ⟨rfl,rfl⟩
  go_wp2_with fail
  refine (H2.out _ (Mods.refl _ _)).mono ?_
  rintro e w2 ⟨rfl,hm⟩
  have HM:=Lib.hid hm
  clear hm
  go_wp2_with fail
  go_ret
  exact ⟨rfl,M0.out.trans HM.out⟩

theorem chCheck_any (hL:Env F ad w) (op:ByteArray) (gen:Nat) (n:Int) : Calls Tryz.prog 202 #[.string op,pgV c s gen,.int .i64 n] w fun e w'=>∃ ev,e=.returned ev∧ErrR F ad w' ev (chCheck n)∧Ext w w':=by
  unfold pgV
  have m0:Ext w (w.alloc (.cells #[.pointer (some ⟨c,0,none⟩),.pointer (some ⟨s,0,none⟩),.int .u64 (gen:Int)] 45)):=(Mods.refl _ w).alloc _
  have hL0:=hL.mods m0.ext
  have g2:=hL.c2
  have hsz:=hL.size
  have g2' : 2 < w.heap.size:=by omega
  have HL:=Lib.hid hL0
  have M0:=Lib.hid m0
  clear hL hL0 m0
  by_cases h1:n≤24
  · have HR:Hid (chCheck n=some ([-1],2)):=Lib.hid (by unfold chCheck;rw [if_pos (.inl h1)])
    go_enter Tryz.func202, Tryz.ntmps202
    go_wp2_with fail
    refine (new_any HL.out _ _ [] 2 (.sent 2 (by decide) (by decide))).mono ?_
    rintro e w1 ⟨f,rfl,hE,hm⟩
    have HE:=Lib.hid hE
    have HM:=Lib.hid hm
    clear hE hm
    go_wp2_with fail
    go_ret
    exact ⟨_,rfl,by rw [HR.out];exact ⟨f,rfl,HE.out⟩,M0.out.trans HM.out⟩
  · by_cases h2:4096 < n
    · have HR:Hid (chCheck n=some ([-1],2)):=Lib.hid (by unfold chCheck;rw [if_pos (.inr h2)])
      go_enter Tryz.func202, Tryz.ntmps202
      go_wp2_with fail
      refine (new_any HL.out _ _ [] 2 (.sent 2 (by decide) (by decide))).mono ?_
      rintro e w1 ⟨f,rfl,hE,hm⟩
      have HE:=Lib.hid hE
      have HM:=Lib.hid hm
      clear hE hm
      go_wp2_with fail
      go_ret
      exact ⟨_,rfl,by rw [HR.out];exact ⟨f,rfl,HE.out⟩,M0.out.trans HM.out⟩
    · have HR:Hid (chCheck n=none):=Lib.hid (by unfold chCheck;rw [if_neg (by omega)])
      go_enter Tryz.func202, Tryz.ntmps202
      go_wp2_with fail
      go_ret
      exact ⟨_,rfl,by rw [HR.out];rfl,M0.out⟩
end
theorem Tryz.elI:ElT Tryz.prog 24 3 (.int .i64 0) 1 8:=⟨Tryz.underlying24,Tryz.mkI,rfl,by decide,by decide⟩

theorem wpl_app2 {P:Program} {α:Type} {F G:Nat→Prop} {w:World} {t e:TypeId} {z:Value} {sz bytes:Nat} {enc:α→List Value} (T:ElT P t e z sz bytes) (E:EncOk enc sz)
    {ops:Array Oper} {rest:List Oper} {o:Oper} {a:Act} {Q:Exit→Act→World→Prop} (hgd:o.guard=none) (sx x:Operand)
    (ho:o.op=.call { callee:=.builtin .append,args:=#[sx,x],argTypes:=#[t,t] })
    (base:Nat) (v s:Value) (l m:List α) (hv:a.eval sx=v) (hx:a.eval x=s) (hown:Own F w base e sz enc v l) (hs:Sl G w sz enc s m) (hb:(l.length+m.length) * bytes≤140737488355328) (hbase:base≤w.heap.size) (hn:¬ F w.heap.size)
    (h:∀ a' c' w',Own F w' base e sz enc (.slice a' (l.length+m.length) c') (l ++ m)→Mods (fun k=>v.ownBlock=some k) w w' →
      ((Value.slice a' (l.length+m.length) c').ownBlock=v.ownBlock∨(Value.slice a' (l.length+m.length) c').ownBlock=some w.heap.size)→wpList P ops Q rest (a.put o.dst (.slice a' (l.length+m.length) c')) w') :
    wpList P ops Q (o :: rest) a w:=by
  obtain ⟨i,hi,hz,hs1,hb1⟩:=info3 T.info
  refine wpl_append_sl hgd sx x t ho base e i z sz bytes T.under hi hz hs1 hb1 T.zs T.sz0 enc E.len E.one v s l m hv hx hown hs hb T.by0 hbase hn ?_
  intro a' c' w' h1 h2 h3
  exact h a' c' w' h1 (Mods.of_grown h2) h3

def LocR {α:Type} (w0:World) (F P:Nat→Prop) (w:World) (e:TypeId) (sz:Nat) (enc:α→List Value) (v:Value) (l:List α):Prop :=
  Own (fun _=>False) w w0.heap.size e sz enc v l∧∀ g,v.ownBlock=some g→F g∧¬ P g
section
variable {α:Type} {P0 P P' F0 F F':Nat→Prop} {ad:Nat→Addr} {w0 w w':World} {c s:Nat} {G G':GA} {l l':List Nat} {e:TypeId} {sz:Nat} {enc:α→List Value} {v v':Value} {x x':List α}
theorem LocR.nxt (h:LocR w0 F P w e sz enc v x) (n:Nxt P P' F F' ad w w'):LocR w0 F' P' w' e sz enc v x :=
  ⟨h.1.mods n.stp.mods (fun g hg=>(h.2 g hg).2),fun g hg=>⟨n.grow g (h.2 g hg).1,n.not (h.1.lt g hg).2 (h.2 g hg).2⟩⟩
theorem LocR.nil (w0:World) (F P:Nat→Prop) (w:World) (e:TypeId) (sz:Nat) (enc:α→List Value):LocR w0 F P w e sz enc (.slice none 0 0) ([]:List α) :=
  ⟨Own.nil _ _ _ _ _ _,fun g hg=>by simp [Value.ownBlock] at hg⟩
def plusV (F:Nat→Prop) (v:Value):Nat→Prop:=fun k=>F k∨v.ownBlock=some k
theorem LocR.app (n:Nxt P0 P F0 F ad w0 w) (h:LocR w0 F P w e sz enc v x) (ho:Own (fun _=>False) w' w0.heap.size e sz enc v' x') (m:Mods (fun k=>v.ownBlock=some k) w w') {K:Nat} (hat:v'.ownBlock=v.ownBlock∨v'.ownBlock=some K) (hK:w.heap.size≤K) :
    Nxt P0 P F0 (plusV F v') ad w0 w'∧LocR w0 (plusV F v') P w' e sz enc v' x':=by
  have hv:=fun g (hg:v.ownBlock=some g)=>h.1.lt g hg
  have hb:∀ k,v'.ownBlock=some k→k < w'.heap.size:=fun k hk=>(ho.lt k hk).2
  have h0:∀ k,v'.ownBlock=some k→w0.heap.size≤k:=fun k hk=>(ho.lt k hk).1
  refine ⟨⟨⟨n.stp.mods.trans' m (fun i hi e=>by have:=(hv i e).1;omega),n.stp.old,fun k hk=>Nat.lt_of_lt_of_le (n.stp.bd k hk) m.size⟩,fun k hk=>.inl (n.sub k hk),fun k hk=>.inl (n.grow k hk),fun k hk hf=>?_,?_⟩,ho,fun g hg=>⟨.inr hg,?_⟩⟩
  · rcases hf with hf | hf
    · exact n.oldF k hk hf
    · have:=h0 k hf;omega
  · exact n.env.step (m.mono (fun k hk=>(h.2 k hk).1)) (fun k hk hn hf=>by
      rcases hf with hf | hf
      · exact hn hf
      · rcases hat with e | e
        · exact hn (h.2 k (e ▸ hf)).1
        · rw [e] at hf;injection hf with hf;omega) (fun k hf=>hf.elim (fun hf=>Nat.lt_of_lt_of_le (n.env.lt k hf) m.size) (hb k))
  · rcases hat with e | e
    · exact (h.2 g (e ▸ hg)).2
    · rw [e] at hg;injection hg with hg
      exact fun hp=>by have:=n.stp.bd g hp;omega
theorem CaR.plus {d sb:Nat} {bvs:List Value} {Pd:Nat→Prop} {C:CaA} (h:CaR F w d c sb bvs Pd C) {Q:Nat→Prop} (m:Mods Q w w') (hQ:∀ k,caF c sb Pd k→¬ Q k) (hF:∀ k,Q k→F k) (hG:∀ k,k < w.heap.size→¬ F k→¬ F' k):CaR F' w' d c sb bvs Pd C :=
  ⟨h.own.mods m (hQ c (.inr (.inl rfl))),h.row.at m (hQ sb (.inr (.inr rfl))),h.lenB,h.n64,fun i s bv h1 h2=>(h.body i s bv h1 h2).step (m.mono hF) hG,h.disk.far m (fun k hk=>hQ k (.inl hk)),h.cd,h.sd,h.ne⟩
theorem PgR.plus (h:PgR F w P c s G l) {Q:Nat→Prop} (m:Mods Q w w') (hQ:∀ k,P k→¬ Q k) (hF:∀ k,Q k→F k) (hG:∀ k,k < w.heap.size→¬ F k→¬ F' k):PgR F' w' P c s G l:=by
  obtain ⟨d,sb,bvs,Pd,b2,C,h1,h2,h3,h4,h5,h6,h7⟩:=h
  exact ⟨d,sb,bvs,Pd,b2,C,h1.plus m (fun k hk=>hQ k ((h6 k).2 (.inl hk))) hF hG,h2,h3,h4,h5.mods m (hQ s ((h6 s).2 (.inr (.inl rfl)))) (hQ b2 ((h6 b2).2 (.inr (.inr rfl)))),h6,h7⟩
theorem PgR.app (hp:PgR F w P c s G l) (h:LocR w0 F P w e sz enc v x) (m:Mods (fun k=>v.ownBlock=some k) w w') {K:Nat} (hat:v'.ownBlock=v.ownBlock∨v'.ownBlock=some K) (hK:w.heap.size≤K):PgR (plusV F v') w' P c s G l :=
  hp.plus m (fun k hk e=>(h.2 k e).2 hk) (fun k hk=>(h.2 k hk).1) (fun k hk hn hf=>by
    rcases hf with hf | hf
    · exact hn hf
    · rcases hat with e | e
      · exact hn (h.2 k (e ▸ hf)).1
      · rw [e] at hf;injection hf with hf;omega)
end
section
variable {P P' F F':Nat→Prop} {ad:Nat→Addr} {w w':World} {c s:Nat} {G G':GA} {l l':List Nat}
theorem spFree_at {l:List Nat} {i:Nat} (h:spFree l=some i):l[i]? = some 0∧i < l.length:=by
  unfold spFree at h
  rw [List.findIdx?_eq_some_iff_getElem] at h
  obtain ⟨h1,h2,_⟩:=h
  exact ⟨by rw [List.getElem?_eq_getElem h1];simpa using h2,h1⟩
end
end Go.Proofs.YtphafjmdhmpkbaaGreatDoor
namespace Go.Proofs.YtphafjmdhmpkbaaGreatDoor
open Go.RowKit
attribute [local go_sem ↓] Go.wp_at_zero Go.wp_at_succ
theorem strCells_enc (s:ByteArray):Go.Lib.strCells s=s.data.toList.flatMap encB:=by
  unfold Go.Lib.strCells
  induction s.data.toList with
  | nil=>rfl
  | cons x l ih=>rw [List.map_cons,List.flatMap_cons,ih];rfl
theorem size_toList (s:ByteArray):s.data.toList.length=s.size:=by rw [Array.length_toList];rfl
section
variable {P P' F F':Nat→Prop} {ad:Nat→Addr} {w w':World} {c s:Nat} {G G':GA} {l l':List Nat}
end
section
variable {P P' F F':Nat→Prop} {ad:Nat→Addr} {w w':World} {c s:Nat} {G G':GA} {l l':List Nat}
end
end Go.Proofs.YtphafjmdhmpkbaaGreatDoor
