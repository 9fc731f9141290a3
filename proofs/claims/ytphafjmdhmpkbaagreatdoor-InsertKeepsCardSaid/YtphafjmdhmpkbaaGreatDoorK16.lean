/- cache.New, Flush, Forget, Drop. | (*block.Disk).Flush. | block.Right, New. -/
import Derived.Test.YtphafjmdhmpkbaaGreatDoorK15
import Derived.Laws.MakeOwn
import Derived.Test.YtphafjmdhmpkbaaGreatDoorK14
namespace Go.Proofs.YtphafjmdhmpkbaaGreatDoor
open Go.RowKit
attribute [local go_sem ↓] Go.wp_at_zero Go.wp_at_succ
theorem run_make_rowN {P:Program} (t e:TypeId) (i:TypeInfo) (z:Value) (ht:P.underlying t=some (.slice e)) (hi:P.info? e=some i) (hz:i.zero=some z)
    (kl kc:IntKind) (n c:Nat) (hnc:n≤c) (hbytes:i.bytes * c≤281474976710656) (h63:c≤9223372036854775807) (w:World) :
    (Instr.makeSlice t (.int kl (n:Int)) (.int kc (c:Int))).run P w=.ok (.slice (some ⟨w.heap.size,0,none⟩) n c) (w.alloc (.cells (madeCells z.cells (c * i.size)) e)):=by
  have hb:(i.bytes:Int) * (c:Int)≤281474976710656:=by
    have h:((i.bytes * c:Nat):Int)≤281474976710656:=by omega
    rwa [Int.natCast_mul] at h
  have hr:=run_make (P:=P) w t e i z ht hi hz kl kc n c (by omega) (by omega) hb (by omega)
  simp only [Int.toNat_natCast] at hr
  exact hr
theorem Tryz.slotI:(Tryz.prog.info? 225).map (fun i=>(i.zero,i.size,i.bytes))=some (some (.agg #[.int .i64 0,.int .i64 0,.int .u64 0,.slice none 0 0,.bool false,.bool false,.bool false,.int .i64 0]),8,64):=by kernel_rfl
def zeroSlot:Array Value:=#[.int .i64 0,.int .i64 0,.int .u64 0,.slice none 0 0,.bool false,.bool false,.bool false,.int .i64 0]
theorem Tryz.mkSlots (n:Nat) (hn:n≤64) (w:World):(Instr.makeSlice 146 (.int .i64 (n:Int)) (.int .i64 (n:Int))).run Tryz.prog w=.ok (.slice (some ⟨w.heap.size,0,none⟩) n n) (w.alloc (.cells (madeCells zeroSlot (n * 8)) 225)):=by
  obtain ⟨i,hi,hz,hs,hb⟩:=info3 Tryz.slotI
  have:=run_make_rowN (P:=Tryz.prog) 146 225 i _ Tryz.underlying146 hi hz .i64 .i64 n n (Nat.le_refl _) (by rw [hb];omega) (by omega) w
  rw [hs] at this
  exact this
theorem slotRow_new {w:World} {sb n:Nat} (h:Blk w sb (madeCells zeroSlot (n * 8)) 225):SlotRow w sb (List.replicate n slot0) (List.replicate n (.slice none 0 0)):=by
  refine ⟨_,h,by simp [madeCells,zeroSlot],fun i s bv hs hb j v hv=>?_⟩
  have e1:=rep_at hs
  have hi:i < n:=by have:=(List.getElem?_eq_some_iff.1 hs).1;simpa using this
  have e2:bv=.slice none 0 0:=by
    rw [List.getElem?_replicate,if_pos hi] at hb;injection hb with hb;exact hb.symm
  subst e1 e2
  have hj:j < 8:=by have:=(List.getElem?_eq_some_iff.1 hv).1;rw [slotCells_len] at this;exact this
  have hlt:i * 8+j < n * 8:=by omega
  have e3:(i * 8+j) % 8=j:=by omega
  have:(madeCells zeroSlot (n * 8))[i * 8+j]? = (slotCells slot0 (.slice none 0 0))[j]?:=by
    have hz:zeroSlot.size=8:=rfl
    unfold madeCells
    rw [Array.getElem?_map,Array.getElem?_range,if_pos hlt,Option.map_some,hz,e3]
    clear h hb hs hv hlt e3 hi hz
    obtain rfl | rfl | rfl | rfl | rfl | rfl | rfl | rfl:j=0∨j=1∨j=2∨j=3∨j=4∨j=5∨j=6∨j=7:=by omega
    all_goals rfl
  rw [this];exact hv
section
variable {P P' F F' Pd Pd':Nat→Prop} {ad:Nat→Addr} {w w':World} {d c sb:Nat} {bvs:List Value} {C:CaA} {D:DiskA}
def DropP (C C':CaA) (id:Nat):Prop:=CaInv C'∧C'.disk.blocks=C.disk.blocks∧C'.disk.size=C.disk.size∧∀ G,CaRel C G→CaRel C' (G.drop id)
def DropDone (F:Nat→Prop) (ad:Nat→Addr) (w:World) (d c sb:Nat) (Pd:Nat→Prop) (C:CaA) (id:Nat) (e:Ending) (w':World):Prop :=
  ∃ (b:Bool) (bvs':List Value) (C':CaA),e=.returned (.bool b)∧CaR F w' d c sb bvs' Pd C'∧Nxt (caF c sb Pd) (caF c sb Pd) F F ad w w'∧DropP C C' id
set_option maxRecDepth 100000 in
set_option maxHeartbeats 1000000 in
theorem caDrop_any (hL:Env F ad w) (hP:∀ k,caF c sb Pd k→F k) (h:CaR F w d c sb bvs Pd C) (hI:CaInv C) (id:Nat) :
    Calls Tryz.prog 178 #[.pointer (some ⟨c,0,none⟩),.int .i64 (id:Int)] w (DropDone F ad w d c sb Pd C id):=by
  have HC:=Lib.hid h
  have HL:=Lib.hid hL
  have HP:=Lib.hid hP
  have HI:=Lib.hid hI
  clear h hL hP hI
  go_enter Tryz.func178, Tryz.ntmps178
  go_wp2_with fail
  refine (caAt_any HC.out id).mono ?_
  rintro e w1 ⟨hm,hat⟩
  have HM:=Lib.hid hm
  have HC1:=Lib.hid (HC.out.at hm)
  clear hm
  rcases hat with ⟨i,s,hs,hh,rfl⟩ | ⟨hno,rfl⟩
  · obtain ⟨ba,bn,bc,hb⟩:=HC1.out.bvAt hs
    obtain ⟨e0,e1,e2,e3,e4,e5,e6,e7⟩:=HC1.out.cell8 hs hb
    obtain ⟨d0,d1,d2⟩:=HC1.out.c3
    obtain ⟨z0,z1⟩:=HC1.out.frz
    have hlt:i < C.slots.length:=(List.getElem?_eq_some_iff.1 hs).1
    have hn:=HC1.out.n64
    have HS:=Lib.hid hs
    have HH:=Lib.hid hh
    obtain ⟨n,hnn⟩:∃ n,n=C.slots.length:=⟨_,rfl⟩
    rw [← hnn] at hn hlt d1
    have HNN:=Lib.hid hnn
    have h1:(0:Int)≤(i:Int):=by omega
    have h2:(i:Int) < (n:Int):=by omega
    have h3:decide ((0:Int)≤(i:Int))=true:=by simp
    clear hs hh hb hnn
    go_wp2_with fail
    go_ret
    have q2:=HC1.out.slot' HP.out (i:=i) (by rw [← HNN.out];exact hlt) slot0 (.slice none 0 0) (Sl.nil _ _ _ _)
    have q3:Mods (caF c sb Pd) w1 (w1.setCells sb (i * 8) (slotCells slot0 (.slice none 0 0))):=Mods.setMany (.inr (.inr (.inr rfl))) _ _ _ (Mods.refl _ _)
    have n1:=Nxt.ext (P:=caF c sb Pd) HL.out HP.out HM.out
    have n2:=Nxt.same n1.env n1.sub q3
    exact ⟨_,_,_,rfl,q2,n1.trans n2,(inv_clear HI.out HS.out),rfl,rfl,fun G hG=>(rel_drop HI.out hG HS.out HH.out).2⟩
  · have HNO:=Lib.hid hno
    clear hno
    go_wp2_with fail
    go_ret
    exact ⟨_,_,_,rfl,HC1.out,Nxt.ext HL.out HP.out HM.out,HI.out,rfl,rfl,fun G hG=>rel_drop_no hG HNO.out⟩
def ForgetDone (F:Nat→Prop) (ad:Nat→Addr) (w:World) (d c sb:Nat) (Pd:Nat→Prop) (C:CaA) (e:Ending) (w':World):Prop :=
  ∃ (sb':Nat) (bvs':List Value) (F':Nat→Prop),e=.returned (.tuple #[])∧CaR F' w' d c sb' bvs' Pd (forgetC C)∧Nxt (caF c sb Pd) (caF c sb' Pd) F F' ad w w'
set_option maxRecDepth 100000 in
theorem caForget_any (hL:Env F ad w) (hP:∀ k,caF c sb Pd k→F k) (h:CaR F w d c sb bvs Pd C) :
    Calls Tryz.prog 40 #[.pointer (some ⟨c,0,none⟩)] w (ForgetDone F ad w d c sb Pd C):=by
  obtain ⟨d0,d1,d2⟩:=h.c3
  have z0:=h.frz.1
  have hn:=h.n64
  obtain ⟨n,hnn⟩:∃ n,n=C.slots.length:=⟨_,rfl⟩
  rw [← hnn] at hn d1
  have hmk:=Tryz.mkSlots n hn
  have hcl:=cell_lt d0
  have HNN:=Lib.hid hnn
  have HC:=Lib.hid h
  have HL:=Lib.hid hL
  have HP:=Lib.hid hP
  clear h hL hP hnn
  go_enter Tryz.func40, Tryz.ntmps40
  go_wp2_with fail
  go_end0
  have hC:=HC.out
  have hP:=HP.out
  have hsz:((w.setCell ⟨c,1,none⟩ (.slice (some ⟨w.heap.size,0,none⟩) n n)).setCell ⟨c,2,none⟩ (.int .i64 0)).heap.size=w.heap.size:=by simp [World.setCell]
  have m0:Mods (fun k=>k=c) w ((w.setCell ⟨c,1,none⟩ (.slice (some ⟨w.heap.size,0,none⟩) n n)).setCell ⟨c,2,none⟩ (.int .i64 0)):=((Mods.refl (fun k=>k=c) w).setCell (.inr rfl) _).setCell (.inr rfl) _
  have m1:=m0.alloc (.cells (madeCells zeroSlot (n * 8)) 225)
  have hbd:=hC.bdP
  have hB:Blk (((w.setCell ⟨c,1,none⟩ (.slice (some ⟨w.heap.size,0,none⟩) n n)).setCell ⟨c,2,none⟩ (.int .i64 0)).alloc (.cells (madeCells zeroSlot (n * 8)) 225)) w.heap.size (madeCells zeroSlot (n * 8)) 225:=heap_at hsz.symm
  have st:Stp (caF c sb Pd) (caF c w.heap.size Pd) w (((w.setCell ⟨c,1,none⟩ (.slice (some ⟨w.heap.size,0,none⟩) n n)).setCell ⟨c,2,none⟩ (.int .i64 0)).alloc (.cells (madeCells zeroSlot (n * 8)) 225)) :=
    ⟨m1.mono (fun k hk=>.inr (.inl hk)),fun k hk hf=>by
      rcases hf with hf | rfl | rfl
      · exact .inl hf
      · exact .inr (.inl rfl)
      · omega,fun k hf=>by
      rcases hf with hf | rfl | rfl
      · exact Nat.lt_of_lt_of_le (hC.disk.bd k hf) m1.size
      · exact Nat.lt_of_lt_of_le hcl m1.size
      · exact hB.lt⟩
  have nx:=Nxt.of HL.out hP st
  refine ⟨w.heap.size,List.replicate C.slots.length (.slice none 0 0),_,rfl,⟨?_,?_,by simp [forgetC],by simpa [forgetC] using hC.n64,fun i s bv hs hb=>?_,hC.disk.far m1 (fun k hk e=>hC.cd (e ▸ hk)),hC.cd,fun f=>by have:=hC.disk.bd _ f;omega,by omega⟩,nx⟩
  · have:=((hC.own.set 1 (.slice (some ⟨w.heap.size,0,none⟩) n n)).set 2 (.int .i64 0)).alloc (.cells (madeCells zeroSlot (n * 8)) 225)
    simp only [forgetC,List.length_replicate,← HNN.out]
    simpa using this
  · simp only [forgetC,← HNN.out]
    exact slotRow_new hB
  · have hi:i < C.slots.length:=by have:=(List.getElem?_eq_some_iff.1 hs).1;simpa [forgetC] using this
    have e1:=rep_at hs
    have e2:bv=.slice none 0 0:=by rw [List.getElem?_replicate,if_pos hi] at hb;injection hb with hb;exact hb.symm
    subst e1 e2
    exact Sl.nil _ _ _ _

def FlushDone (F:Nat→Prop) (ad:Nat→Addr) (w:World) (d c sb:Nat) (bvs:List Value) (Pd:Nat→Prop) (C:CaA) (e:Ending) (w':World):Prop :=
  ∃ (Pd' F':Nat→Prop) (C':CaA),e=.returned .nilIface∧CaR F' w' d c sb bvs Pd' C'∧Sim C C'∧Nxt (caF c sb Pd) (caF c sb Pd') F F' ad w w'∧∀ (j:Nat) (t:SlotA),C'.slots[j]? = some t→t.wet=false
set_option maxRecDepth 100000 in
theorem caFlush_any (hL:Env F ad w) (hP:∀ k,caF c sb Pd k→F k) (h:CaR F w d c sb bvs Pd C) (hI:CaInv C) (hc:C.cost≤1000000) :
    Calls Tryz.prog 45 #[.pointer (some ⟨c,0,none⟩)] w (FlushDone F ad w d c sb bvs Pd C):=by
  obtain ⟨_,d1,_⟩:=h.c3
  have hn:=h.n64
  obtain ⟨n,hnn⟩:∃ n,n=C.slots.length:=⟨_,rfl⟩
  rw [← hnn] at hn d1
  have HNN:=Lib.hid hnn
  have HC:=Lib.hid h
  have HL:=Lib.hid hL
  have HP:=Lib.hid hP
  have HI:=Lib.hid hI
  have HCO:=Lib.hid hc
  clear h hL hP hnn hI hc
  go_enter Tryz.func45, Tryz.ntmps45
  go_wp2_with fail
  go_loopg [14] n (fun m v wr=>∃ (k:Nat) (Pd1 F1:Nat→Prop) (C1:CaA),k+m=n∧v=.int .i64 k∧Hid (CaR F1 wr d c sb bvs Pd1 C1∧Sim C C1∧Nxt (caF c sb Pd) (caF c sb Pd1) F F1 ad w wr∧C1.slots.length=n∧∀ (j:Nat) (t:SlotA),j < k→C1.slots[j]? = some t→t.wet=false))
  case atStart=>exact ⟨0,Pd,F,C,by omega,rfl,Lib.hid ⟨HC.out,Sim.refl HI.out,Nxt.refl HL.out HP.out,HNN.out.symm,fun j t hj=>by omega⟩⟩
  case round =>
    obtain ⟨k,Pd1,F1,C1,hk,rfl,HW⟩:=hrel
    by_cases hlt:k < n
    · obtain ⟨s,hs⟩:∃ s,C1.slots[k]? = some s:=⟨_,List.getElem?_eq_getElem (by rw [HW.out.2.2.2.1];exact hlt)⟩
      have HS:=Lib.hid hs
      clear hs
      go_wp2_with fail
      refine (caWrite_any HW.out.2.2.1.env HW.out.2.2.1.sub HW.out.1 HW.out.2.1.inv (Nat.le_trans HW.out.2.1.cost HCO.out) HS.out).mono ?_
      rintro e w5 ⟨Pd',F',C2,s2,rfl,hC2,hS2,hX2,hs2,hw2,hl2,hh2,hu2,hsub,ho2⟩
      have HNX:Hid (CaR F' w5 d c sb bvs Pd' C2∧Sim C C2∧Nxt (caF c sb Pd) (caF c sb Pd') F F' ad w w5∧C2.slots.length=n∧∀ (j:Nat) (t:SlotA),j < k+1→C2.slots[j]? = some t→t.wet=false) :=
        Lib.hid ⟨hC2,HW.out.2.1.trans hS2,HW.out.2.2.1.trans hX2,hl2.trans HW.out.2.2.2.1,fun j t hj ht=>by
          by_cases e:j=k
          · subst e;rw [hs2] at ht;injection ht with ht;rw [← ht];exact hw2
          · rw [ho2 j e] at ht;exact HW.out.2.2.2.2 j t (by omega) ht⟩
      clear hC2 hS2 hX2 hs2 hw2 hl2 hh2 hu2 hsub ho2
      go_wp2_with fail
      go_roundg (gk - 1)
      case measure=>omega
      case rel=>exact ⟨k+1,Pd',F',C2,by omega,by go_num,HNX⟩
    · go_wp2_with fail
      go_ret
      exact ⟨Pd1,F1,C1,rfl,HW.out.1,HW.out.2.1,HW.out.2.2.1,fun j t ht=>HW.out.2.2.2.2 j t (by have:=(List.getElem?_eq_some_iff.1 ht).1;have:=HW.out.2.2.2.1;omega) ht⟩

def CaNewDone (F:Nat→Prop) (ad:Nat→Addr) (w:World) (d:Nat) (Pd:Nat→Prop) (D:DiskA) (n:Nat) (e:Ending) (w':World):Prop :=
  ∃ (c sb:Nat) (bvs:List Value) (F':Nat→Prop),e=.returned (.tuple #[.pointer (some ⟨c,0,none⟩),.nilIface])∧CaR F' w' d c sb bvs Pd ⟨D,List.replicate n slot0,0⟩∧Nxt Pd (caF c sb Pd) F F' ad w w'
set_option maxRecDepth 100000 in
theorem caNew_ok (hL:Env F ad w) (hP:∀ k,Pd k→F k) (hD:DkS w Pd d D) (n:Nat) (h3:3≤n) (h64:n≤64) :
    Calls Tryz.prog 71 #[.pointer (some ⟨d,0,none⟩),.int .i64 (n:Int)] w (CaNewDone F ad w d Pd D n):=by
  have hmk:=Tryz.mkSlots n h64
  have a1:decide ((n:Int) < 3)=false:=by simp;omega
  have a2:decide ((64:Int) < (n:Int))=false:=by simp;omega
  have HL:=Lib.hid hL
  have HP:=Lib.hid hP
  have HD:=Lib.hid hD
  clear hL hP hD
  go_enter Tryz.func71, Tryz.ntmps71
  go_wp2_with fail
  go_ret2
  have hD:=HD.out
  have hB:Blk ((w.alloc (.cells (madeCells zeroSlot (n * 8)) 225)).alloc (.cells #[.pointer (some ⟨d,0,none⟩),.slice (some ⟨w.heap.size,0,none⟩) n n,.int .i64 0] 148)) w.heap.size (madeCells zeroSlot (n * 8)) 225:=(Blk.new w _ _).alloc _
  have hB2:Blk ((w.alloc (.cells (madeCells zeroSlot (n * 8)) 225)).alloc (.cells #[.pointer (some ⟨d,0,none⟩),.slice (some ⟨w.heap.size,0,none⟩) n n,.int .i64 0] 148)) (w.heap.size+1) #[.pointer (some ⟨d,0,none⟩),.slice (some ⟨w.heap.size,0,none⟩) n n,.int .i64 0] 148:=heap_at (by simp)
  have m1:Ext w ((w.alloc (.cells (madeCells zeroSlot (n * 8)) 225)).alloc (.cells #[.pointer (some ⟨d,0,none⟩),.slice (some ⟨w.heap.size,0,none⟩) n n,.int .i64 0] 148)):=((Mods.refl _ w).alloc _).alloc _
  have hbd:=hD.bd
  have st:Stp Pd (caF (w.heap.size+1) w.heap.size Pd) w ((w.alloc (.cells (madeCells zeroSlot (n * 8)) 225)).alloc (.cells #[.pointer (some ⟨d,0,none⟩),.slice (some ⟨w.heap.size,0,none⟩) n n,.int .i64 0] 148)) :=
    ⟨m1.ext,fun k hk hf=>by
      rcases hf with hf | rfl | rfl
      · exact hf
      · omega
      · omega,fun k hf=>by
      rcases hf with hf | rfl | rfl
      · exact Nat.lt_of_lt_of_le (hbd k hf) m1.size
      · exact hB2.lt
      · exact hB.lt⟩
  refine ⟨w.heap.size+1,w.heap.size,List.replicate n (.slice none 0 0),_,rfl,⟨by simpa using hB2,slotRow_new hB,by simp,by simpa using h64,fun i s bv hs hb=>?_,hD.at m1,fun f=>by have:=hbd _ f;omega,fun f=>by have:=hbd _ f;omega,by omega⟩,Nxt.of HL.out HP.out st⟩
  have hi:i < n:=by have:=(List.getElem?_eq_some_iff.1 hs).1;simpa using this
  have e1:=rep_at hs
  have e2:bv=.slice none 0 0:=by rw [List.getElem?_replicate,if_pos hi] at hb;injection hb with hb;exact hb.symm
  subst e1 e2
  exact Sl.nil _ _ _ _
end
end Go.Proofs.YtphafjmdhmpkbaaGreatDoor
namespace Go.Proofs.YtphafjmdhmpkbaaGreatDoor
open Go.RowKit
def settleG:List Nat→List (Nat × Nat)→List Nat
  | l,[]=>l
  | l,(i,g) :: r=>settleG (l.set i g) r
theorem settleG_length:∀ (r:List (Nat × Nat)) (l:List Nat),(settleG l r).length=l.length
  | [],_=>rfl
  | (i,g) :: r,l=>by rw [settleG,settleG_length r,List.length_set]
theorem settleG_snoc:∀ (r:List (Nat × Nat)) (l:List Nat) (p:Nat × Nat),settleG l (r ++ [p])=(settleG l r).set p.1 p.2
  | [],_,_=>rfl
  | (i,g) :: r,l,p=>by rw [List.cons_append,settleG,settleG_snoc r,settleG]
theorem mem_set {l:List Nat} {i g k:Nat} (h:k ∈ l.set i g):k ∈ l∨k=g:=by
  obtain ⟨j,hj,e⟩:=List.getElem_of_mem h
  rw [List.getElem_set] at e
  split at e
  · exact .inr e.symm
  · left;rw [← e];exact List.getElem_mem _
theorem settleG_mem:∀ (r:List (Nat × Nat)) (l:List Nat) (k:Nat),k ∈ settleG l r→k ∈ l∨k ∈ r.map (·.2)
  | [],_,_,h=>.inl h
  | (i,g) :: r,l,k,h=>by
    rw [settleG] at h
    rcases settleG_mem r _ k h with h | h
    · rcases mem_set h with h | h
      · exact .inl h
      · exact .inr (by simp [h])
    · exact .inr (by simp [h])
theorem nodup_set:∀ (l:List Nat) (i g:Nat),l.Nodup→g ∉ l→(l.set i g).Nodup
  | [],_,_,_,_=>by simp
  | a :: l,0,g,h,hg=>by
    rw [List.set_cons_zero,List.nodup_cons]
    exact ⟨fun hm=>hg (List.mem_cons_of_mem _ hm),(List.nodup_cons.1 h).2⟩
  | a :: l,i+1,g,h,hg=>by
    rw [List.set_cons_succ,List.nodup_cons]
    refine ⟨fun hm=>?_,nodup_set l i g (List.nodup_cons.1 h).2 (fun hm=>hg (List.mem_cons_of_mem _ hm))⟩
    rcases mem_set hm with hm | rfl
    · exact (List.nodup_cons.1 h).1 hm
    · exact hg List.mem_cons_self
theorem settleG_nodup:∀ (r:List (Nat × Nat)) (l:List Nat),(l ++ r.map (·.2)).Nodup→(settleG l r).Nodup
  | [],l,h=>by simpa [settleG] using h
  | (i,g) :: r,l,h=>by
    rw [settleG]
    rw [List.map_cons,List.nodup_append] at h
    obtain ⟨h1,h2,h3⟩:=h
    rw [List.nodup_cons] at h2
    refine settleG_nodup r _ ?_
    rw [List.nodup_append]
    refine ⟨nodup_set l i g h1 (fun hm=>h3 g hm g List.mem_cons_self rfl),h2.2,fun a ha b hb e=>?_⟩
    subst e
    rcases mem_set ha with ha | rfl
    · exact h3 a ha a (List.mem_cons_of_mem _ hb) rfl
    · exact h2.1 hb
theorem settle_rows (R:Nat→List UInt8→Prop):∀ (W:List (Nat × List UInt8)) (ws:List Nat) (gs:List Nat) (L:List (List UInt8)),ws.length=W.length→gs.length=L.length →
    (∀ (i g:Nat) (b:List UInt8),gs[i]? = some g→L[i]? = some b→R g b)→(∀ (i g:Nat) (p:Nat × List UInt8),ws[i]? = some g→W[i]? = some p→R g p.2) →
    ∀ (i g:Nat) (b:List UInt8),(settleG gs ((W.map (·.1)).zip ws))[i]? = some g→(settle L W)[i]? = some b→R g b
  | [],ws,gs,L,_,_,h1,_,i,g,b,hg,hb=>h1 i g b (by simpa [settleG] using hg) hb
  | (j,c) :: W,[],gs,L,hl,_,_,_,_,_,_,_,_=>by simp at hl
  | (j,c) :: W,x :: ws,gs,L,hl,hl2,h1,h2,i,g,b,hg,hb=>by
    rw [List.map_cons,List.zip_cons_cons,settleG] at hg
    rw [settle] at hb
    refine settle_rows R W ws (gs.set j x) (L.set j c) (by simpa using hl) (by simpa using hl2) (fun i' g' b' hg' hb'=>?_) (fun i' g' p' hg' hp'=>h2 (i'+1) g' p' (by simpa using hg') (by simpa using hp')) i g b hg hb
    rcases set_cases hg' with ⟨rfl,rfl⟩ | ⟨hne,hg'⟩
    · rcases set_cases hb' with ⟨_,rfl⟩ | ⟨hne,_⟩
      · exact h2 0 g' (i',b') (by simp) (by simp)
      · exact absurd rfl hne
    · rcases set_cases hb' with ⟨e,_⟩ | ⟨_,hb'⟩
      · exact absurd e hne
      · exact h1 i' g' b' hg' hb'

section
variable {P F:Nat→Prop} {ad:Nat→Addr} {w w':World} {d bl:Nat} {gs ws:List Nat} {wv kv:Value} {D:DiskA}
theorem zip_snd {l:List Nat} {m:List Nat} (h:l.length=m.length):(l.zip m).map (·.2)=m:=List.map_snd_zip (by omega)
theorem DkR.waitC2 (h:DkR w d bl gs ws wv kv D) (k:Nat) (p:Nat × List UInt8) (hk:D.waiting[k]? = some p):∃ b c g,wv=.slice (some ⟨b,0,none⟩) D.waiting.length c∧ws[k]? = some g ∧
    w.cell? ⟨b,k * 2,none⟩=some (.int .i64 (p.1:Int))∧w.cell? ⟨b,k * 2+1,none⟩=some (rowV D.size g)∧b ∉ d :: bl :: (gs ++ ws)∧p.1 < D.blocks:=by
  obtain ⟨b,off,n,c,g,h1,h2,h3,h4,_,_⟩:=h.waitC k p hk
  have hr:=h.wrow k g p h2 hk
  obtain ⟨_,a',c',hv⟩:=h.wvC
  rcases h.wait.1.2 with ⟨e,_⟩ | ⟨g',cap,cur,e,_⟩
  · rw [h1] at e;cases e
  · rw [h1] at e hv
    simp only [Value.slice.injEq,Option.some.injEq,Addr.mk.injEq] at e hv
    obtain ⟨⟨rfl,rfl,_⟩,_,_⟩:=e
    refine ⟨b,c,g,by rw [h1,hv.2.1],h2,by simpa using h3,by simpa using h4,h.wait.2 b (by rw [h1];rfl),hr.1⟩
theorem DkR.settled {w1 wr:World} (h:DkR w1 d bl gs ws wv kv D) (m:Mods (fun x=>x=bl) w1 wr) {cap:Nat} {rest:List Value} (h1:D.blocks≤cap) (h2:cap≤9223372036854775807)
    (hd:Blk w1 d #[.int .i64 D.blocks,.int .i64 D.size,.slice (some ⟨bl,0,none⟩) D.blocks cap,wv,.bool D.lit,.int .i64 D.after,.int .i64 D.torn,.int .i64 D.cut,kv,.bool D.off,.int .i64 D.count] 163)
    (hb:Blk wr bl (((settleG gs ((D.waiting.map (·.1)).zip ws)).map (rowV D.size)) ++ rest).toArray 110) (hl:gs.length+rest.length=cap) :
    DkR (wr.setCell ⟨d,3,none⟩ (.slice none 0 0)) d bl (settleG gs ((D.waiting.map (·.1)).zip ws)) [] (.slice none 0 0) kv { D with lasting:=settle D.lasting D.waiting,waiting:=[] }:=by
  have hz:((D.waiting.map (·.1)).zip ws).map (·.2)=ws:=zip_snd (by simp [h.lenW])
  have hmem:∀ k,k ∈ settleG gs ((D.waiting.map (·.1)).zip ws)→k ∈ gs ++ ws:=fun k hk=>by
    rcases settleG_mem _ _ k hk with h | h
    · exact List.mem_append_left _ h
    · rw [hz] at h;exact List.mem_append_right _ h
  have hnd:=h.nodup
  have hdb:d ≠ bl:=fun e=>(List.nodup_cons.1 hnd).1 (by rw [e];exact List.mem_cons_self)
  have hng:∀ k,k ∈ gs ++ ws→k ≠ bl∧k ≠ d:=fun k hk=>⟨fun e=>(List.nodup_cons.1 (List.nodup_cons.1 hnd).2).1 (e ▸ hk),fun e=>(List.nodup_cons.1 hnd).1 (e ▸ List.mem_cons_of_mem _ hk)⟩
  have hrow:∀ (g:Nat) (b:List UInt8),(g ∈ gs ++ ws∧b.length=D.size∧Blk w1 g (bytesC b) 5)→Blk (wr.setCell ⟨d,3,none⟩ (.slice none 0 0)) g (bytesC b) 5:=fun g b ⟨k1,_,k3⟩=>(k3.mods m (hng g k1).1).set_other (hng g k1).2 _
  have R:=settle_rows (fun g b=>g ∈ gs ++ ws∧b.length=D.size∧Blk w1 g (bytesC b) 5) D.waiting ws gs D.lasting h.lenW (by rw [h.lenB,h.lenL])
    (fun i g b hg hb=>⟨List.mem_append_left _ (List.mem_of_getElem? hg),h.row i g b hg hb⟩) (fun i g p hg hp=>⟨List.mem_append_right _ (List.mem_of_getElem? hg),(h.wrow i g p hg hp).2⟩)
  have nd:(d :: bl :: (settleG gs ((D.waiting.map (·.1)).zip ws) ++ [])).Nodup:=by
    rw [List.append_nil,List.nodup_cons,List.nodup_cons]
    refine ⟨fun hm=>?_,fun hm=>(hng bl (hmem bl hm)).1 rfl,settleG_nodup _ _ ?_⟩
    · rw [List.mem_cons] at hm
      rcases hm with hm | hm
      · exact hdb hm
      · exact (hng d (hmem d hm)).2 rfl
    · rw [hz];exact (List.nodup_cons.1 (List.nodup_cons.1 hnd).2).2
  have hsub:∀ k,k ∈ d :: bl :: (settleG gs ((D.waiting.map (·.1)).zip ws) ++ [])→k ∈ d :: bl :: (gs ++ ws):=fun k hk=>by
    simp only [List.append_nil,List.mem_cons] at hk ⊢
    rcases hk with hk | hk | hk
    · exact .inl hk
    · exact .inr (.inl hk)
    · exact .inr (.inr (hmem k hk))
  refine ⟨⟨cap,h1,h2,?_,rest,hb.set_other (fun e=>hdb e.symm) _,by rw [settleG_length];exact hl⟩,by rw [settleG_length];exact h.lenB,by rw [settle_length];exact h.lenL,rfl,?_,fun g hg=>by simp [Value.ownBlock],h.few2,Own.nil _ _ _ _ _ _,
    fun i g b hg hb=>⟨(R i g b hg hb).2.1,hrow g b (R i g b hg hb)⟩,fun i g p hg=>by simp at hg,nd,h.b8,h.b256,h.s256,h.s1024,by simp⟩
  · have:=(hd.mods m hdb).set 3 (.slice none 0 0)
    simpa using this
  · have k1:=(h.keep.mods m (fun g hg e=>h.keep.2 g hg (e ▸ List.mem_cons_of_mem _ List.mem_cons_self))).mods (Mods.at (fun k=>k=d) wr d 3 (.slice none 0 0) rfl) (fun g hg e=>h.keep.2 g hg (e ▸ List.mem_cons_self))
    exact ⟨k1.1,fun g hg hm=>k1.2 g hg (hsub g hm)⟩

def DkDone (F P:Nat→Prop) (ad:Nat→Addr) (w:World) (d:Nat) (D':DiskA) (e:Ending) (w':World):Prop:=∃ P' F',e=.returned .nilIface∧DkS w' P' d D'∧Nxt P P' F F' ad w w'
set_option maxRecDepth 100000 in
set_option maxHeartbeats 1000000 in
theorem dkFlush_ok (hL:Env F ad w) (hP:∀ k,P k→F k) (h:DkR w d bl gs ws wv kv D) (hD:∀ k,P k ↔ dkF d bl gs ws wv kv k) (ho:D.off=false) (hl:D.lit=false) :
    Calls Tryz.prog 47 #[.pointer (some ⟨d,0,none⟩)] w (DkDone F P ad w d D.flushed):=by
  have c9:=h.offC
  rw [ho] at c9
  have HL:=Lib.hid hL
  have HD:=Lib.hid h
  have HP:=Lib.hid hP
  have HDD:=Lib.hid hD
  have HO:=Lib.hid ho
  clear h hL hP hD ho
  go_enter Tryz.func47, Tryz.ntmps47
  go_wp2_with fail
  refine (dkBurns_no HD.out hl).mono ?_
  rintro e w1 ⟨rfl,hD1,hm1⟩
  obtain ⟨D1,hDe⟩:∃ x,x=D.burns.2:=⟨_,rfl⟩
  have hfl:D.flushed = { D1 with lasting:=settle D1.lasting D1.waiting,waiting:=[] }:=by rw [hDe];unfold DiskA.burns DiskA.flushed;simp [hl]
  rw [← hDe] at hD1
  have HFL:=Lib.hid hfl
  have HD1:=Lib.hid hD1
  have HM1:=Lib.hid hm1
  obtain ⟨cap,a1,a2,a3,rest,a4,a5⟩:=HD1.out.own
  have hb256:=hD1.b256
  have hn6:=hD1.few
  obtain ⟨n,hn⟩:∃ n,n=D1.waiting.length:=⟨_,rfl⟩
  obtain ⟨c3,av,cv,hv⟩:=hD1.wvC
  rw [hv,← hn] at c3
  rw [← hn] at hn6
  have HV:=Lib.hid hv
  have HN:=Lib.hid hn
  have A3:=Lib.hid a3
  have A4:=Lib.hid a4
  clear hD1 hm1 hfl hDe hv hn a3 a4
  go_wp2_with fail
  go_loopg [24] n (fun m i wr=>∃ k:Nat,k+m=n∧i=.int .i64 k∧Hid (Mods (fun x=>x=bl) w1 wr∧Blk wr bl (((settleG gs (((D1.waiting.map (·.1)).zip ws).take k)).map (rowV D1.size)) ++ rest).toArray 110))
  case atStart=>exact ⟨0,by omega,rfl,Lib.hid ⟨Mods.refl _ _,A4.out⟩⟩
  case round =>
    obtain ⟨k,hk,rfl,HW⟩:=hrel
    have hdb:d ≠ bl:=fun e=>(List.nodup_cons.1 HD1.out.nodup).1 (by rw [e];exact List.mem_cons_self)
    have d3:=((A3.out.mods HW.out.1 hdb).cell (o:=3) (v:=wv) rfl)
    by_cases hlt:k < n
    · obtain ⟨p,hp⟩:∃ p,D1.waiting[k]? = some p:=⟨_,List.getElem?_eq_getElem (by rw [← HN.out];exact hlt)⟩
      obtain ⟨b,c,g,e1,e2,e3,e4,e5,e6⟩:=HD1.out.waitC2 k p hp
      rw [HV.out] at e1
      simp only [Value.slice.injEq] at e1
      obtain ⟨rfl,_,rfl⟩:=e1
      have hbb:b ≠ bl:=fun e=>e5 (e ▸ List.mem_cons_of_mem _ List.mem_cons_self)
      have x0:=(HW.out.1.cell (cell_lt e3) hbb).trans e3
      have x1:=(HW.out.1.cell (cell_lt e4) hbb).trans e4
      simp only [rowV] at x1
      have d2:=((A3.out.mods HW.out.1 hdb).cell (o:=2) (v:=.slice (some ⟨bl,0,none⟩) D1.blocks cap) rfl)
      have hlen:((settleG gs (((D1.waiting.map (·.1)).zip ws).take k)).map (rowV D1.size) ++ rest).length=cap:=by rw [List.length_append,List.length_map,settleG_length];exact a5
      obtain ⟨v0,hv0⟩:∃ v0,wr.cell? ⟨bl,p.1,none⟩=some v0:=⟨_,HW.out.2.cell (by rw [List.getElem?_toArray];exact List.getElem?_eq_getElem (by rw [hlen];omega))⟩
      have fb:=HW.out.2.frozen
      have hdl:d < wr.heap.size:=cell_lt d2
      have hbl:bl < wr.heap.size:=cell_lt hv0
      have hbq:b < wr.heap.size:=cell_lt x0
      have HE2:=Lib.hid e2
      have HPP:=Lib.hid hp
      obtain ⟨pi,pb⟩:=p
      simp only at *
      have h1:(0:Int)≤(pi:Int):=by omega
      have h2:(pi:Int) < (D1.blocks:Int):=by omega
      have HLEN:=Lib.hid hlen
      have HNX:Hid (∀ wz,wz=(wr.setCell ⟨bl,pi,none⟩ (.slice (some ⟨g,0,none⟩) D1.size D1.size)).alloc (.cells #[.int .i64 (pi:Int),.slice (some ⟨g,0,none⟩) D1.size D1.size] 165)→Mods (fun x=>x=bl) w1 wz∧Blk wz bl (((settleG gs (((D1.waiting.map (·.1)).zip ws).take (k+1))).map (rowV D1.size)) ++ rest).toArray 110):=Lib.hid (by
        rintro _ rfl
        refine ⟨(HW.out.1.setCell (.inr rfl) _).alloc _,?_⟩
        have q:=((HW.out.2.set pi (.slice (some ⟨g,0,none⟩) D1.size D1.size)).alloc (.cells #[.int .i64 (pi:Int),.slice (some ⟨g,0,none⟩) D1.size D1.size] 165))
        have e:(((settleG gs (((D1.waiting.map (·.1)).zip ws).take (k+1))).map (rowV D1.size)) ++ rest).toArray=((((settleG gs (((D1.waiting.map (·.1)).zip ws).take k)).map (rowV D1.size)) ++ rest).toArray.setIfInBounds pi (.slice (some ⟨g,0,none⟩) D1.size D1.size)):=by
          rw [take_one _ k (pi,g) (by rw [List.getElem?_zip_eq_some];exact ⟨by simp [HPP.out],HE2.out⟩),settleG_snoc]
          simp only [List.map_set,List.setIfInBounds_toArray]
          rw [List.set_append_left _ _ (by rw [List.length_map,settleG_length,HD1.out.lenB];omega)]
          rfl
        rw [e];exact q)
      clear hp e2 e3 e4 e5 hlen d3
      go_wp2_with fail
      go_region
      go_wp2_with fail
      go_roundg (gk - 1)
      case measure=>omega
      case rel=>exact ⟨k+1,by omega,by go_num,Lib.hid (by have:=HNX.out _ rfl;exact ⟨this.1.drew,this.2⟩)⟩
    · obtain rfl:k=n:=by omega
      have HZ:Hid (((D1.waiting.map (·.1)).zip ws).take k=(D1.waiting.map (·.1)).zip ws):=Lib.hid (List.take_of_length_le (by simp [HD1.out.lenW,HN.out]))
      have f3:wr.frozen? ⟨d,3,none⟩=false:=(A3.out.mods HW.out.1 hdb).frozen 3
      rw [HV.out] at d3
      go_wp2_with fail
      go_ret
      have hW2:=HW.out.2
      rw [HZ.out] at hW2
      have hs:=HD1.out.settled HW.out.1 a1 a2 A3.out hW2 a5
      have hbl:P bl:=(HDD.out bl).2 (.inl (List.mem_cons_of_mem _ List.mem_cons_self))
      have hd:P d:=(HDD.out d).2 (.inl List.mem_cons_self)
      have m1:Mods P w w1:=HM1.out.mono (fun x hx=>hx ▸ hd)
      have m2:Mods P w wr:=m1.trans (HW.out.1.mono (fun x hx=>hx ▸ hbl))
      have m3:=m2.setCell (p:=⟨d,3,none⟩) (.inr hd) (.slice none 0 0)
      have hbd:Bd P w:=fun x hx=>HD.out.bdF x ((HDD.out x).1 hx)
      have st:Stp P (dkF d bl (settleG gs ((D1.waiting.map (·.1)).zip ws)) [] (.slice none 0 0) kv) w (wr.setCell ⟨d,3,none⟩ (.slice none 0 0)):=by
        have hsub:∀ x,dkF d bl (settleG gs ((D1.waiting.map (·.1)).zip ws)) [] (.slice none 0 0) kv x→P x:=fun x hx=>by
          rcases hx with hx | hx | hx
          · simp only [List.append_nil,List.mem_cons] at hx
            rcases hx with rfl | rfl | hx
            · exact hd
            · exact hbl
            · refine (HDD.out x).2 (.inl (List.mem_cons_of_mem _ (List.mem_cons_of_mem _ ?_)))
              rcases settleG_mem _ _ x hx with hx | hx
              · exact List.mem_append_left _ hx
              · rw [zip_snd (by simp [HD1.out.lenW])] at hx;exact List.mem_append_right _ hx
          · simp [Value.ownBlock] at hx
          · exact (HDD.out x).2 (.inr (.inr hx))
        exact ⟨m3,fun x _ hx=>hsub x hx,fun x hx=>Nat.lt_of_lt_of_le (hbd x (hsub x hx)) m3.size⟩
      refine ⟨_,_,rfl,⟨bl,_,_,_,kv,?_,fun k=>Iff.rfl⟩,Nxt.of HL.out HP.out st⟩
      rw [HFL.out];exact hs
end
end Go.Proofs.YtphafjmdhmpkbaaGreatDoor
namespace Go.Proofs.YtphafjmdhmpkbaaGreatDoor
open Go.RowKit
attribute [local go_sem ↓] Go.wp_at_zero Go.wp_at_succ
theorem right_ok (b s:Nat) (h1:8≤b) (h2:b≤256) (h3:256≤s) (h4:s≤1024) (w:World) :
    Calls Tryz.prog 111 #[.agg #[.int .i64 (b:Int),.int .i64 (s:Int)]] w fun e w'=>e=.returned (.bool true)∧Ext w w':=by
  have a1:decide ((8:Int)≤(b:Int))=true:=by simp;omega
  have a2:decide ((b:Int)≤256)=true:=by simp;omega
  have a3:decide ((256:Int)≤(s:Int))=true:=by simp;omega
  have a4:decide ((s:Int)≤1024)=true:=by simp;omega
  clear h1 h2 h3 h4
  go_enter Tryz.func111, Tryz.ntmps111
  go_wp2
  go_ret
  exact ⟨rfl,(Mods.refl _ _).alloc _⟩

def encG (size:Nat) (g:Nat):List Value:=[rowV size g]
theorem encG_ok (size:Nat):EncOk (encG size) 1:=⟨fun _=>rfl,by intro x u hu;simp [encG,rowV] at hu;subst hu;rfl⟩
theorem Tryz.elR:ElT Tryz.prog 157 110 (.slice none 0 0) 1 24:=⟨Tryz.underlying157,by kernel_rfl,rfl,by decide,by decide⟩
section
variable {F:Nat→Prop} {ad:Nat→Addr} {w w':World}
def NewI (w:World) (B0 B1 b s:Nat) (wr:World) (gs:List Nat) (v:Value):Prop :=
  Ext w wr∧B1 < wr.heap.size∧Blk wr B0 #[.int .i64 (b:Int),.int .i64 (s:Int)] 115 ∧ Blk wr B1 #[.int .i64 (b:Int),.int .i64 (s:Int),v,.slice none 0 0,.bool false,.int .i64 0,.int .i64 0,.int .i64 0,.slice none 0 0,.bool false,.int .i64 0] 163 ∧
      Own (fun x=>x ∈ B0 :: B1 :: gs) wr B0 110 1 (encG s) v gs∧(B0 :: B1 :: gs).Nodup∧∀ g,g ∈ gs→B1 < g∧Blk wr g (bytesC (List.replicate s 0)) 5
theorem bytesC_zero (s:Nat):bytesC (List.replicate s 0)=Array.replicate s (.int .u8 0):=by
  rw [bytesC,List.map_replicate,List.toArray_replicate];rfl
theorem NewI.step {B0 B1 b s:Nat} {wr w4:World} {gs:List Nat} {v v':Value} (h:NewI w B0 B1 b s wr gs v) (hw:w.heap.size≤B0) (hB:B0 < B1)
    (hown:Own (fun x=>x ∈ B0 :: B1 :: gs) w4 B0 110 1 (encG s) v' (gs ++ [wr.heap.size])) (hgrow:((wr.drew.alloc (.cells (Array.replicate s (.int .u8 0)) 5)).alloc (.cells #[.slice (some ⟨wr.heap.size,0,none⟩) s s] 110)).grownBy w4 v.ownBlock)
    (hat:v'.ownBlock=v.ownBlock∨v'.ownBlock=some (wr.heap.size+2)):NewI w B0 B1 b s (w4.setCell ⟨B1,2,none⟩ v') (gs ++ [wr.heap.size]) v':=by
  obtain ⟨h1,h2,h3,h4,h6,h7,h8⟩:=h
  have mg:=Mods.of_grown hgrow
  have m0:Ext wr ((wr.drew.alloc (.cells (Array.replicate s (.int .u8 0)) 5)).alloc (.cells #[.slice (some ⟨wr.heap.size,0,none⟩) s s] 110)):=((Mods.refl _ wr).drew.alloc _).alloc _
  have e1:((wr.drew.alloc (.cells (Array.replicate s (.int .u8 0)) 5)).alloc (.cells #[.slice (some ⟨wr.heap.size,0,none⟩) s s] 110)).heap.size=wr.heap.size+2:=by simp
  have hsz:=mg.size
  rw [e1] at hsz
  have e3:wr.drew.heap.size=wr.heap.size:=rfl
  have mA:Mods (fun x=>v.ownBlock=some x) wr w4:=m0.ext.trans mg
  have hv0:∀ x,v.ownBlock=some x→w.heap.size≤x∧x < wr.heap.size:=fun x hx=>by have:=h6.lt x hx;omega
  have hvn:∀ x,x ∈ B0 :: B1 :: gs→¬ v.ownBlock=some x:=fun x hx e=>h6.2 x e hx
  have hlt:∀ x,x ∈ B0 :: B1 :: gs→x < wr.heap.size:=fun x hx=>by
    simp only [List.mem_cons] at hx
    rcases hx with rfl | rfl | hx
    · exact h3.lt
    · exact h4.lt
    · exact (h8 x hx).2.lt
  have far:∀ (x:Nat) (c:Array Value) (t:TypeId),x ∈ B0 :: B1 :: gs→x ≠ B1→Blk wr x c t→Blk (w4.setCell ⟨B1,2,none⟩ v') x c t:=fun x c t hx hne hb=>(hb.mods mA (hvn x hx)).set_other hne _
  have hmem:∀ x,x ∈ B0 :: B1 :: (gs ++ [wr.heap.size])→x ∈ B0 :: B1 :: gs∨x=wr.heap.size:=fun x hx=>by
    simp only [List.mem_cons,List.mem_append,List.not_mem_nil,or_false] at hx ⊢
    rcases hx with h | h | h | h <;> simp [h]
  have hnew:Blk (w4.setCell ⟨B1,2,none⟩ v') wr.heap.size (bytesC (List.replicate s 0)) 5:=by
    rw [bytesC_zero]
    exact (((Blk.new wr.drew _ _).alloc _).mods mg (fun e=>by have:=hv0 _ e;omega)).set_other (by simp only;omega) _
  refine ⟨(h1.trans' mA (fun i hi e=>by have:=(hv0 i e).1;omega)).setCell (.inl (by simp only;omega)) _,?_,far B0 _ _ List.mem_cons_self (by omega) h3,?_,?_,?_,fun g hg=>?_⟩
  · simp only [World.setCell,Array.size_modify];omega
  · have:=(h4.mods mA (hvn B1 (List.mem_cons_of_mem _ List.mem_cons_self))).set 2 v'
    simpa using this
  · have hno:∀ x,v'.ownBlock=some x→x ≠ B1:=fun x hx e=>hown.2 x hx (e ▸ List.mem_cons_of_mem _ List.mem_cons_self)
    have k1:=hown.mods (Mods.at (fun x=>x=B1) w4 B1 2 v' rfl) hno
    refine ⟨k1.1,fun x hx hm=>?_⟩
    rcases hmem x hm with hm | rfl
    · exact k1.2 x hx hm
    · rcases hat with e | e
      · have:=(hv0 _ (e ▸ hx)).2;omega
      · rw [e] at hx;injection hx with hx;omega
  · have e:B0 :: B1 :: (gs ++ [wr.heap.size])=(B0 :: B1 :: gs) ++ [wr.heap.size]:=by simp
    rw [e,List.nodup_append]
    exact ⟨h7,by simp,fun x hx y hy e=>by have:=hlt x hx;simp at hy;omega⟩
  · rw [List.mem_append] at hg
    rcases hg with hg | hg
    · exact ⟨(h8 g hg).1,far g _ _ (List.mem_cons_of_mem _ (List.mem_cons_of_mem _ hg)) (fun e=>by have:=(h8 g hg).1;omega) (h8 g hg).2⟩
    · simp at hg;subst hg;exact ⟨h2,hnew⟩
theorem map_flat (s:Nat):∀ gs:List Nat,gs.map (rowV s)=gs.flatMap (encG s)
  | []=>rfl
  | x :: r=>by rw [List.map_cons,List.flatMap_cons,map_flat s r];rfl
theorem NewI.disk {B0 B1 b s:Nat} {wr:World} {gs:List Nat} {cap:Nat} {a:Option Addr} (h:NewI w B0 B1 b s wr gs (.slice a b cap)) (hl:gs.length=b) (hw:w.heap.size≤B0) (hB:B0 < B1) (h1:8≤b) (h2:b≤256) (h3:256≤s) (h4:s≤1024) :
    ∃ P,DkS wr P B1 (newDisk b s)∧∀ k,P k→w.heap.size≤k:=by
  obtain ⟨k1,k2,k3,k4,k6,k7,k8⟩:=h
  rcases k6.1.2 with ⟨e,_⟩ | ⟨bl,cap',cur,e,hb,hblk,hc,hm,hs,ht⟩
  · cases e;omega
  · simp only [Value.slice.injEq] at e
    obtain ⟨rfl,_,rfl⟩:=e
    have hnb:=k6.2 bl rfl
    simp only [List.mem_cons,not_or] at hnb
    have hnd:=(List.nodup_cons.1 k7).2
    unfold maxLen at hm
    refine ⟨dkF B1 bl gs [] (.slice none 0 0) (.slice none 0 0),⟨bl,gs,[],.slice none 0 0,.slice none 0 0,⟨⟨cap,by show b≤cap;omega,by omega,k4,cur.toList.drop gs.length,?_,?_⟩,hl,by simp [newDisk],rfl,Own.nil _ _ _ _ _ _,fun g hg=>by simp [Value.ownBlock] at hg,by simp [newDisk],Own.nil _ _ _ _ _ _,
      fun i g b' hg hb'=>?_,fun i g p hg=>by simp at hg,?_,h1,h2,h3,h4,by simp [newDisk]⟩,fun k=>Iff.rfl⟩,fun k hk=>?_⟩
    · have e2:(gs.map (rowV (newDisk b s).size) ++ cur.toList.drop gs.length).toArray=cur:=by
        have:gs.map (rowV (newDisk b s).size)=cur.toList.take gs.length:=by
          have h5:cur.toList.take (gs.length * 1)=gs.flatMap (encG s):=by simpa using ht
          rw [Nat.mul_one] at h5
          rw [h5]
          exact map_flat s gs
        rw [this,List.take_append_drop,Array.toArray_toList]
      rw [e2];exact hblk
    · simp;omega
    · rw [show (newDisk b s).lasting=List.replicate b (List.replicate s 0) by rfl,List.getElem?_replicate] at hb'
      split at hb'
      · injection hb' with hb'
        subst hb'
        exact ⟨by simp [newDisk],(k8 g (List.mem_of_getElem? hg)).2⟩
      · cases hb'
    · rw [List.append_nil,List.nodup_cons,List.nodup_cons]
      refine ⟨?_,hnb.2.2,(List.nodup_cons.1 hnd).2⟩
      rw [List.mem_cons]
      rintro (e | e)
      · exact hnb.2.1 e.symm
      · exact (List.nodup_cons.1 hnd).1 e
    · have hB1:w.heap.size≤B1:=by omega
      rcases hk with hk | hk | hk
      · simp only [List.append_nil,List.mem_cons] at hk
        rcases hk with rfl | rfl | hk
        · exact hB1
        · omega
        · have:=(k8 k hk).1;omega
      · simp [Value.ownBlock] at hk
      · simp [Value.ownBlock] at hk
set_option maxRecDepth 100000 in
set_option maxHeartbeats 1000000 in
theorem dkNew_ok (b s:Nat) (h1:8≤b) (h2:b≤256) (h3:256≤s) (h4:s≤1024) :
    Calls Tryz.prog 70 #[.agg #[.int .i64 (b:Int),.int .i64 (s:Int)]] w fun e w'=>∃ d P,e=.returned (.tuple #[.pointer (some ⟨d,0,none⟩),.nilIface])∧DkS w' P d (newDisk b s)∧(∀ k,P k→w.heap.size≤k)∧Ext w w':=by
  have hmk:=run_mk (P:=Tryz.prog) 110 5 (.int .u8 0) 1 Tryz.underlying110 Tryz.mkB rfl s (by omega) (by omega)
  go_enter Tryz.func70, Tryz.ntmps70
  go_wp2_with fail
  refine (right_ok b s h1 h2 h3 h4 _).mono ?_
  rintro e w1 ⟨rfl,hm⟩
  have k0:=(Blk.new w #[.int .i64 (b:Int),.int .i64 (s:Int)] 115).ext hm
  have c0:=k0.cell (o:=0) (v:=.int .i64 (b:Int)) rfl
  have c1:=k0.cell (o:=1) (v:=.int .i64 (s:Int)) rfl
  have HM:Hid (Ext w w1):=Lib.hid (((Mods.refl _ w).alloc _).trans hm)
  have HS:Hid (w.heap.size < w1.heap.size):=Lib.hid k0.lt
  have K0:=Lib.hid k0
  have hsz:=HS.out
  clear k0 hm
  go_wp2_with fail
  go_loopg [15] b (fun m i wr=>∃ (cap:Nat) (gs:List Nat) (a:Option Addr),gs.length+m=b∧i=.int .i64 gs.length∧Hid (NewI w w.heap.size w1.heap.size b s wr gs (.slice a gs.length cap)))
  case atStart=>exact ⟨0,[],none,by simp,rfl,Lib.hid ⟨HM.out.alloc _,by simp,K0.out.alloc _,Blk.new w1 _ _,Own.nil _ _ _ _ _ _,by simp;omega,by simp⟩⟩
  case round =>
    obtain ⟨cap,gs,a,hk,rfl,HW⟩:=hrel
    obtain ⟨hW1,hW2,hW3,hW4,hW6,hW7,hW8⟩:=HW.out
    have d2:=hW4.cell (o:=2) (v:=.slice a gs.length cap) rfl
    have f2:=hW4.frozen 2
    have g0:=hW3.cell (o:=0) (v:=.int .i64 (b:Int)) rfl
    have g1:=hW3.cell (o:=1) (v:=.int .i64 (s:Int)) rfl
    have l0:=cell_lt g0
    have l1:=cell_lt d2
    have HO:Hid (Own (fun x=>x ∈ w.heap.size :: w1.heap.size :: gs) wr.drew w.heap.size 110 1 (encG s) (.slice a gs.length cap) gs):=Lib.hid (hW6.ext (Mods.refl _ _).drew)
    have HLT:Hid (∀ x,x ∈ w.heap.size :: w1.heap.size :: gs→x < wr.heap.size):=Lib.hid (fun x hx=>by
      simp only [List.mem_cons] at hx
      rcases hx with rfl | rfl | hx
      · exact l0
      · exact l1
      · exact (hW8 x hx).2.lt)
    have HDN:Hid (¬ (Value.slice a gs.length cap).ownBlock=some w1.heap.size):=Lib.hid (fun e=>hW6.2 _ e (by simp))
    have HDB:Hid (w.heap.size≤wr.heap.size):=Lib.hid hW1.size
    obtain ⟨k,hkk⟩:∃ k,k=gs.length:=⟨_,rfl⟩
    have HGL:=Lib.hid hkk
    have hmkd:∀ x:Obj,((wr.alloc x).cell? ⟨w1.heap.size,2,none⟩=some (.slice a gs.length cap)∧(wr.alloc x).cell? ⟨w.heap.size,1,none⟩=some (.int .i64 (s:Int))):=fun x=>⟨cell_alloc d2 x,cell_alloc g1 x⟩
    have hmkd2:∀ x y:Obj,((wr.alloc x).alloc y).cell? ⟨w1.heap.size,2,none⟩=some (.slice a gs.length cap):=fun x y=>cell_alloc (cell_alloc d2 x) y
    clear hW1 hW2 hW3 hW4 hW6 hW7 hW8 hkk
    by_cases hlt:gs.length < b
    · go_wp2_with fail
      go_region_law
        ((refine step_app (enc:=encG s) (F:=fun x=>x ∈ w.heap.size :: w1.heap.size :: gs) (G:=fun _=>False) Tryz.elR (encG_ok s) (by rfl) _ _ (by rfl) w.heap.size (.slice a gs.length cap) (.slice (some ⟨wr.heap.size+1,0,none⟩) 1 1) gs [wr.heap.size] (by rfl) (by rfl) (HO.out.ext (((Mods.refl _ wr.drew).alloc _).alloc _)) (Sl.one (x:=wr.heap.size) (t := 110) (fz:=(0,0)) (heap_at (by simp)) (fun f=>f)) (by simp;omega) (by have:=HDB.out;simp;omega) (fun f=>by have:=HLT.out _ f;simp at this;omega) ?_;intro a' c' w4 hown hgrow hat;obtain ⟨k4,k5⟩:=keepC (Mods.of_grown hgrow) (keepA (keepA (w:=wr.drew) ⟨d2,f2⟩ _) _) HDN.out))
      all_goals
        have HNX:=Lib.hid (HW.out.step (Nat.le_refl _) hsz hown hgrow (by simpa using hat))
        clear hown hgrow hat k4 k5
        go_wp2_with fail
        go_roundg (gk - 1)
        case measure=>omega
        case rel=>exact ⟨c',gs ++ [wr.heap.size],a',by simp;omega,by simp,by simpa using HNX⟩
    · have hkb:gs.length=b:=by omega
      have HKB:=Lib.hid hkb
      clear hkb
      go_wp2_with fail
      go_ret2
      have hN:=HW.out
      rw [HKB.out] at hN
      obtain ⟨P,q1,q2⟩:=hN.disk HKB.out (Nat.le_refl _) hsz h1 h2 h3 h4
      exact ⟨w1.heap.size,P,rfl,q1,q2,hN.1⟩
end
end Go.Proofs.YtphafjmdhmpkbaaGreatDoor
