/- ref07.Right. -/
import Derived.Test.YtphafjmdhmpkbaaGreatDoorC21
import Derived.Test.YtphafjmdhmpkbaaGreatDoorC18
import Derived.Deep.RegionHeld3
namespace Go.Proofs.YtphafjmdhmpkbaaGreatDoor
open Go.RowKit
attribute [local go_sem ↓] Go.wp_at_zero Go.wp_at_succ
section
variable {F:Nat→Prop} {w w' wr w2:World}
def EntTo (l:List EntryA) (k:Nat):Prop:=(∀ x ∈ l.take k,rightE x=true)∧upTo (l.map (·.key)) k
theorem EntTo.first {l:List EntryA} {x:EntryA} (hx:l[0]? = some x) (hr:rightE x=true):EntTo l 1:=by
  refine ⟨fun y hy=>?_,fun i a b hi=>by omega⟩
  rw [take_one l 0 x hx] at hy
  simp at hy;subst hy;exact hr
theorem EntTo.next {l:List EntryA} {k:Nat} {x y:EntryA} (h:EntTo l (k+1)) (hx:l[k]? = some x) (hy:l[k+1]? = some y) (hr:rightE y=true) (hl:leS y.key x.key=false):EntTo l (k+2):=by
  refine ⟨fun z hz=>?_,upTo_step h.2 (a:=x.key) (b:=y.key) (by rw [List.getElem?_map,hx];rfl) (by rw [List.getElem?_map,hy];rfl) hl⟩
  rw [show k+2=k+1+1 from rfl,take_one l (k+1) y hy] at hz
  rcases List.mem_append.1 hz with hz | hz
  · exact h.1 z hz
  · rw [List.mem_singleton.1 hz];exact hr
theorem leaf_wrong {n:NodeA} (h:n.leaf=true) (hb:n.entries.all rightE=false∨risingS (n.entries.map (·.key))=false):rightN n=false:=by
  rw [right_leaf h]
  unfold leafB
  rcases hb with hb | hb <;> rw [hb] <;> simp
set_option maxRecDepth 100000 in
set_option maxHeartbeats 4000000 in
theorem right07L_any (n:NodeA) (hlf:n.leaf=true) (ve vk vi:Value) (hve:Sl F w 4 encE ve n.entries) (hvk:Sl F w 1 encS vk n.keys) (hvi:Sl F w 1 encI vi n.kids) :
    Calls Tryz.prog 15 #[.agg #[.bool true,ve,vk,vi]] w fun x w'=>x=.returned (.bool (rightN n))∧Ext w w':=by
  obtain ⟨ea,ec,rfl,e1,e2,e3,hee⟩:=hve
  obtain ⟨ka,kc,rfl,k1,k2,k3,_⟩:=hvk
  obtain ⟨ia,ic,rfl,i1,i2,i3,_⟩:=hvi
  unfold maxLen at e2 k2 i2
  have HE:=Lib.hid hee
  have HW:Hid (Ext w (w.alloc (.cells #[.bool true,.slice ea n.entries.length ec,.slice ka n.keys.length kc,.slice ia n.kids.length ic] 26))∧Blk (w.alloc (.cells #[.bool true,.slice ea n.entries.length ec,.slice ka n.keys.length kc,.slice ia n.kids.length ic] 26)) w.heap.size #[.bool true,.slice ea n.entries.length ec,.slice ka n.keys.length kc,.slice ia n.kids.length ic] 26):=Lib.hid ⟨(Mods.refl _ w).alloc _,Blk.new w _ _⟩
  have HLF:=Lib.hid hlf
  clear hee hlf
  go_enter Tryz.func15, Tryz.ntmps15
  go_wp2_with fail
  go_loopg [3] n.entries.length (fun m v3 wr=>∃ (k:Nat),k+m=n.entries.length∧v3=.int .i64 (k:Int)∧Hid (EntTo n.entries k)∧Hid (Ext w wr∧Blk wr w.heap.size #[.bool true,.slice ea n.entries.length ec,.slice ka n.keys.length kc,.slice ia n.kids.length ic] 26))
  case atStart=>exact ⟨0,by omega,rfl,Lib.hid ⟨fun x hx=>by simp at hx,fun i a b hi=>by omega⟩,HW⟩
  case round =>
    obtain ⟨k,hkm,rfl,HS,HW⟩:=hrel
    have hbl:=HW.out.2.lt
    have b1:=HW.out.2.cell (o:=1) (v:=.slice ea n.entries.length ec) rfl
    by_cases hlt:k < n.entries.length
    · obtain ⟨b,off,rfl,hb,hF,hc⟩:=Sl.at HE.out HW.out.1 (fun _ _ f=>f.elim) k hlt
      obtain ⟨x,hx⟩:∃ x,n.entries[k]? = some x:=⟨_,List.getElem?_eq_getElem hlt⟩
      have hx':n.entries[k]=x:=by rw [List.getElem?_eq_getElem hlt] at hx;exact Option.some.inj hx
      rw [hx'] at hc
      have c0:wr.cell? ⟨b,off+k * 4,none⟩=some (.string x.key):=hc 0 _ rfl
      have c1:wr.cell? ⟨b,off+k * 4+1,none⟩=some (.string x.value):=hc 1 _ rfl
      have c2:wr.cell? ⟨b,off+k * 4+2,none⟩=some (.int .i64 x.chain):=hc 2 _ rfl
      have c3:wr.cell? ⟨b,off+k * 4+3,none⟩=some (.int .i64 x.size):=hc 3 _ rfl
      have HX:=Lib.hid hx
      clear hc hx hx'
      have j1:(0:Int)≤(k:Int):=by omega
      have j2:(k:Int) < (n.entries.length:Int):=by omega
      cases hr:rightE x with
      | false =>
        have HEN:=Lib.hid (entry07_t x wr.drew false hr)
        have HR:Hid (rightN n=false):=Lib.hid (leaf_wrong HLF.out (.inl (all_not hlt (by
          have:=HX.out;rw [List.getElem?_eq_getElem hlt] at this;rw [Option.some.inj this];exact hr))))
        clear hr
        go_wp2_with fail
        refine wp_region_held_drew (S:=fun w'=>w'.cell? ⟨w.heap.size,1,none⟩=some (.slice (some ⟨b,off,none⟩) n.entries.length ec)∧w'.cell? ⟨b,off+k * 4,none⟩=some (.string x.key)∧w'.cell? ⟨b,off+k * 4+1,none⟩=some (.string x.value)∧w'.cell? ⟨b,off+k * 4+2,none⟩=some (.int .i64 x.chain)∧w'.cell? ⟨b,off+k * 4+3,none⟩=some (.int .i64 x.size)) (by kernel_rfl) (by first | exact ⟨b1,c0,c1,c2,c3⟩ | go_keep) (fun hHeld=>?_)
        refine wpAnyH_take (i:=0) (oi:={ dst:=some 15,op:=_,type:=_,pos:=_,after:=_,guard:=_ }) (v:=?_) rfl (by kernel_rfl) (by kernel_rfl) (by kernel_rfl) (fun _ _ _ h=>h) (Or.inl ⟨by rfl,?_⟩) (by assumption) ?_
        rotate_left
        · intro w hSw;(try dsimp only at hSw);go_simp;(try (with_reducible rfl))
        rotate_left
        try simp only [Act.put,List.setIfInBounds_toArray,List.set_cons_zero,List.set_cons_succ]
        refine wpAnyH_take (i:=1) (oi:={ dst:=some 16,op:=_,type:=_,pos:=_,after:=_,guard:=_ }) (v:=?_) rfl (by kernel_rfl) (by kernel_rfl) (by kernel_rfl) (fun _ _ _ h=>h) (Or.inl ⟨by rfl,?_⟩) (by assumption) ?_
        rotate_left
        · intro w hSw;(try dsimp only at hSw);go_simp;(try (with_reducible rfl))
        rotate_left
        try simp only [Act.put,List.setIfInBounds_toArray,List.set_cons_zero,List.set_cons_succ]
        refine wpAnyH_take (i:=2) (oi:={ dst:=some 17,op:=_,type:=_,pos:=_,after:=_,guard:=_ }) (v:=?_) rfl (by kernel_rfl) (by kernel_rfl) (by kernel_rfl) (fun _ _ _ h=>h) (Or.inl ⟨by rfl,?_⟩) (by assumption) ?_
        rotate_left
        · intro w hSw;(try dsimp only at hSw);go_simp;(try (with_reducible rfl))
        rotate_left
        try simp only [Act.put,List.setIfInBounds_toArray,List.set_cons_zero,List.set_cons_succ]
        refine wpAnyH_take (i:=3) (oi:={ dst:=some 18,op:=_,type:=_,pos:=_,after:=_,guard:=_ }) (v:=?_) rfl (by kernel_rfl) (by kernel_rfl) (by kernel_rfl) (fun _ _ _ h=>h) (Or.inl ⟨by rfl,?_⟩) (by assumption) ?_
        rotate_left
        · intro w hSw;(try dsimp only at hSw);go_simp;(try (with_reducible rfl))
        rotate_left
        try simp only [Act.put,List.setIfInBounds_toArray,List.set_cons_zero,List.set_cons_succ]
        refine wpAnyH_take (i:=4) (oi:={ dst:=some 19,op:=_,type:=_,pos:=_,after:=_,guard:=_ }) (v:=?_) rfl (by kernel_rfl) (by kernel_rfl) (by kernel_rfl) (fun _ _ _ h=>h) (Or.inl ⟨by rfl,?_⟩) (by assumption) ?_
        rotate_left
        · intro w hSw;(try dsimp only at hSw);go_simp;(try (with_reducible rfl))
        rotate_left
        try simp only [Act.put,List.setIfInBounds_toArray,List.set_cons_zero,List.set_cons_succ]
        refine wpAnyH_ready (rs:=[5]) (by kernel_rfl) (by simp) ?_
        refine AllReadyH.cons (o:={ dst:=some 20,op:=_,type:=_,pos:=_,after:=_,guard:=_ }) rfl (fun K hK=>?_) AllReadyH.nil
        go_simp
        (go_at_call 65;refine (HEN.out).mono ?_;rintro e w4 ⟨rfl,hm4⟩;have y1:=cellE (w:=wr.drew) hm4 b1;have z0:=cellE (w:=wr.drew) hm4 c0;have z1:=cellE (w:=wr.drew) hm4 c1;have z2:=cellE (w:=wr.drew) hm4 c2;have z3:=cellE (w:=wr.drew) hm4 c3)
        refine hK.out _ _ ⟨y1,z0,z1,z2,z3⟩ (fun hHeld=>?_)
        clear hK
        try simp only [Act.put,List.setIfInBounds_toArray,List.set_cons_zero,List.set_cons_succ]
        refine wpAnyH_take (i:=6) (oi:={ dst:=some 21,op:=_,type:=_,pos:=_,after:=_,guard:=_ }) (v:=?_) rfl (by kernel_rfl) (by kernel_rfl) (by kernel_rfl) (fun _ _ _ h=>h) (Or.inl ⟨by rfl,?_⟩) (by assumption) ?_
        rotate_left
        · intro w hSw;(try dsimp only at hSw);go_simp;(try (with_reducible rfl))
        rotate_left
        try simp only [Act.put,List.setIfInBounds_toArray,List.set_cons_zero,List.set_cons_succ]
        refine wpAnyH_take (i:=7) (oi:={ dst:=some 22,op:=_,type:=_,pos:=_,after:=_,guard:=_ }) (v:=?_) rfl (by kernel_rfl) (by kernel_rfl) (by kernel_rfl) (fun _ _ _ h=>h) (Or.inl ⟨by rfl,?_⟩) (by assumption) ?_
        rotate_left
        · intro w hSw;(try dsimp only at hSw);go_simp;(try (with_reducible rfl))
        rotate_left
        try simp only [Act.put,List.setIfInBounds_toArray,List.set_cons_zero,List.set_cons_succ]
        refine wpAnyH_take (i:=8) (oi:={ dst:=some 23,op:=_,type:=_,pos:=_,after:=_,guard:=_ }) (v:=undef) rfl (by kernel_rfl) (by kernel_rfl) (by kernel_rfl) (fun _ _ _ h=>h) (Or.inr ⟨by rfl,rfl⟩) (by assumption) ?_
        try simp only [Act.put,List.setIfInBounds_toArray,List.set_cons_zero,List.set_cons_succ]
        refine wpAnyH_take (i:=9) (oi:={ dst:=some 24,op:=_,type:=_,pos:=_,after:=_,guard:=_ }) (v:=undef) rfl (by kernel_rfl) (by kernel_rfl) (by kernel_rfl) (fun _ _ _ h=>h) (Or.inr ⟨by rfl,rfl⟩) (by assumption) ?_
        try simp only [Act.put,List.setIfInBounds_toArray,List.set_cons_zero,List.set_cons_succ]
        refine wpAnyH_take (i:=10) (oi:={ dst:=some 25,op:=_,type:=_,pos:=_,after:=_,guard:=_ }) (v:=undef) rfl (by kernel_rfl) (by kernel_rfl) (by kernel_rfl) (fun _ _ _ h=>h) (Or.inr ⟨by rfl,rfl⟩) (by assumption) ?_
        try simp only [Act.put,List.setIfInBounds_toArray,List.set_cons_zero,List.set_cons_succ]
        refine wpAnyH_take (i:=11) (oi:={ dst:=some 26,op:=_,type:=_,pos:=_,after:=_,guard:=_ }) (v:=undef) rfl (by kernel_rfl) (by kernel_rfl) (by kernel_rfl) (fun _ _ _ h=>h) (Or.inr ⟨by rfl,rfl⟩) (by assumption) ?_
        try simp only [Act.put,List.setIfInBounds_toArray,List.set_cons_zero,List.set_cons_succ]
        refine wpAnyH_take (i:=12) (oi:={ dst:=some 27,op:=_,type:=_,pos:=_,after:=_,guard:=_ }) (v:=undef) rfl (by kernel_rfl) (by kernel_rfl) (by kernel_rfl) (fun _ _ _ h=>h) (Or.inr ⟨by rfl,rfl⟩) (by assumption) ?_
        try simp only [Act.put,List.setIfInBounds_toArray,List.set_cons_zero,List.set_cons_succ]
        refine wpAnyH_take (i:=13) (oi:={ dst:=some 28,op:=_,type:=_,pos:=_,after:=_,guard:=_ }) (v:=undef) rfl (by kernel_rfl) (by kernel_rfl) (by kernel_rfl) (fun _ _ _ h=>h) (Or.inr ⟨by rfl,rfl⟩) (by assumption) ?_
        try simp only [Act.put,List.setIfInBounds_toArray,List.set_cons_zero,List.set_cons_succ]
        refine wpAnyH_take (i:=14) (oi:={ dst:=some 29,op:=_,type:=_,pos:=_,after:=_,guard:=_ }) (v:=undef) rfl (by kernel_rfl) (by kernel_rfl) (by kernel_rfl) (fun _ _ _ h=>h) (Or.inr ⟨by rfl,rfl⟩) (by assumption) ?_
        try simp only [Act.put,List.setIfInBounds_toArray,List.set_cons_zero,List.set_cons_succ]
        refine wpAnyH_take (i:=15) (oi:={ dst:=some 30,op:=_,type:=_,pos:=_,after:=_,guard:=_ }) (v:=undef) rfl (by kernel_rfl) (by kernel_rfl) (by kernel_rfl) (fun _ _ _ h=>h) (Or.inr ⟨by rfl,rfl⟩) (by assumption) ?_
        try simp only [Act.put,List.setIfInBounds_toArray,List.set_cons_zero,List.set_cons_succ]
        refine wpAnyH_take (i:=16) (oi:={ dst:=some 31,op:=_,type:=_,pos:=_,after:=_,guard:=_ }) (v:=undef) rfl (by kernel_rfl) (by kernel_rfl) (by kernel_rfl) (fun _ _ _ h=>h) (Or.inr ⟨by rfl,rfl⟩) (by assumption) ?_
        try simp only [Act.put,List.setIfInBounds_toArray,List.set_cons_zero,List.set_cons_succ]
        refine wpAnyH_take (i:=17) (oi:={ dst:=some 32,op:=_,type:=_,pos:=_,after:=_,guard:=_ }) (v:=undef) rfl (by kernel_rfl) (by kernel_rfl) (by kernel_rfl) (fun _ _ _ h=>h) (Or.inr ⟨by rfl,rfl⟩) (by assumption) ?_
        try simp only [Act.put,List.setIfInBounds_toArray,List.set_cons_zero,List.set_cons_succ]
        refine wpAnyH_take (i:=18) (oi:={ dst:=some 33,op:=_,type:=_,pos:=_,after:=_,guard:=_ }) (v:=undef) rfl (by kernel_rfl) (by kernel_rfl) (by kernel_rfl) (fun _ _ _ h=>h) (Or.inr ⟨by rfl,rfl⟩) (by assumption) ?_
        try simp only [Act.put,List.setIfInBounds_toArray,List.set_cons_zero,List.set_cons_succ]
        refine wpAnyH_take (i:=19) (oi:={ dst:=some 34,op:=_,type:=_,pos:=_,after:=_,guard:=_ }) (v:=undef) rfl (by kernel_rfl) (by kernel_rfl) (by kernel_rfl) (fun _ _ _ h=>h) (Or.inr ⟨by rfl,rfl⟩) (by assumption) ?_
        try simp only [Act.put,List.setIfInBounds_toArray,List.set_cons_zero,List.set_cons_succ]
        refine wpAnyH_take (i:=20) (oi:={ dst:=some 35,op:=_,type:=_,pos:=_,after:=_,guard:=_ }) (v:=undef) rfl (by kernel_rfl) (by kernel_rfl) (by kernel_rfl) (fun _ _ _ h=>h) (Or.inr ⟨by rfl,rfl⟩) (by assumption) ?_
        try simp only [Act.put,List.setIfInBounds_toArray,List.set_cons_zero,List.set_cons_succ]
        refine wpAnyH_take (i:=21) (oi:={ dst:=some 36,op:=_,type:=_,pos:=_,after:=_,guard:=_ }) (v:=undef) rfl (by kernel_rfl) (by kernel_rfl) (by kernel_rfl) (fun _ _ _ h=>h) (Or.inr ⟨by rfl,rfl⟩) (by assumption) ?_
        try simp only [Act.put,List.setIfInBounds_toArray,List.set_cons_zero,List.set_cons_succ]
        refine wpAnyH_take (i:=22) (oi:={ dst:=some 37,op:=_,type:=_,pos:=_,after:=_,guard:=_ }) (v:=undef) rfl (by kernel_rfl) (by kernel_rfl) (by kernel_rfl) (fun _ _ _ h=>h) (Or.inr ⟨by rfl,rfl⟩) (by assumption) ?_
        try simp only [Act.put,List.setIfInBounds_toArray,List.set_cons_zero,List.set_cons_succ]
        refine wpAnyH_take (i:=23) (oi:={ dst:=some 38,op:=_,type:=_,pos:=_,after:=_,guard:=_ }) (v:=undef) rfl (by kernel_rfl) (by kernel_rfl) (by kernel_rfl) (fun _ _ _ h=>h) (Or.inr ⟨by rfl,rfl⟩) (by assumption) ?_
        try simp only [Act.put,List.setIfInBounds_toArray,List.set_cons_zero,List.set_cons_succ]
        refine wpAnyH_take (i:=24) (oi:={ dst:=some 39,op:=_,type:=_,pos:=_,after:=_,guard:=_ }) (v:=undef) rfl (by kernel_rfl) (by kernel_rfl) (by kernel_rfl) (fun _ _ _ h=>h) (Or.inr ⟨by rfl,rfl⟩) (by assumption) ?_
        try simp only [Act.put,List.setIfInBounds_toArray,List.set_cons_zero,List.set_cons_succ]
        refine wpAnyH_take (i:=25) (oi:={ dst:=some 40,op:=_,type:=_,pos:=_,after:=_,guard:=_ }) (v:=undef) rfl (by kernel_rfl) (by kernel_rfl) (by kernel_rfl) (fun _ _ _ h=>h) (Or.inr ⟨by rfl,rfl⟩) (by assumption) ?_
        try simp only [Act.put,List.setIfInBounds_toArray,List.set_cons_zero,List.set_cons_succ]
        refine wpAnyH_take (i:=26) (oi:={ dst:=some 41,op:=_,type:=_,pos:=_,after:=_,guard:=_ }) (v:=?_) rfl (by kernel_rfl) (by kernel_rfl) (by kernel_rfl) (fun _ _ _ h=>h) (Or.inl ⟨by rfl,?_⟩) (by assumption) ?_
        rotate_left
        · intro w hSw;(try dsimp only at hSw);go_simp;(try (with_reducible rfl))
        rotate_left
        try simp only [Act.put,List.setIfInBounds_toArray,List.set_cons_zero,List.set_cons_succ]
        refine wpAnyH_done (by kernel_rfl) ?_ _
        have HM4:=Lib.hid (HW.out.1.drew.trans hm4)
        clear hm4 y1 z0 z1 z2 z3 b1 c0 c1 c2 c3 hHeld
        go_wp2_with fail
        go_ret
        exact ⟨by rw [HR.out];rfl,HM4.out⟩
      | true =>
        have HEN:=Lib.hid (entry07_t x wr.drew true hr)
        have HRX:=Lib.hid hr
        clear hr
        by_cases hk0:k=0
        · have d1:decide ((0:Int) < (k:Int))=false:=decide_eq_false (by omega)
          have d2:decide (0 < k)=false:=decide_eq_false (by omega)
          have HS2:Hid (EntTo n.entries (k+1)):=Lib.hid (by
            have h0:=HX.out
            rw [hk0] at h0 ⊢
            exact EntTo.first h0 HRX.out)
          have HK0:=Lib.hid hk0
          clear hk0
          go_wp2_with fail
          refine wp_region_held_drew (S:=fun w'=>w'.cell? ⟨w.heap.size,1,none⟩=some (.slice (some ⟨b,off,none⟩) n.entries.length ec)∧w'.cell? ⟨b,off+k * 4,none⟩=some (.string x.key)∧w'.cell? ⟨b,off+k * 4+1,none⟩=some (.string x.value)∧w'.cell? ⟨b,off+k * 4+2,none⟩=some (.int .i64 x.chain)∧w'.cell? ⟨b,off+k * 4+3,none⟩=some (.int .i64 x.size)) (by kernel_rfl) (by first | exact ⟨b1,c0,c1,c2,c3⟩ | go_keep) (fun hHeld=>?_)
          refine wpAnyH_take (i:=0) (oi:={ dst:=some 15,op:=_,type:=_,pos:=_,after:=_,guard:=_ }) (v:=?_) rfl (by kernel_rfl) (by kernel_rfl) (by kernel_rfl) (fun _ _ _ h=>h) (Or.inl ⟨by rfl,?_⟩) (by assumption) ?_
          rotate_left
          · intro w hSw;(try dsimp only at hSw);go_simp;(try (with_reducible rfl))
          rotate_left
          try simp only [Act.put,List.setIfInBounds_toArray,List.set_cons_zero,List.set_cons_succ]
          refine wpAnyH_take (i:=1) (oi:={ dst:=some 16,op:=_,type:=_,pos:=_,after:=_,guard:=_ }) (v:=?_) rfl (by kernel_rfl) (by kernel_rfl) (by kernel_rfl) (fun _ _ _ h=>h) (Or.inl ⟨by rfl,?_⟩) (by assumption) ?_
          rotate_left
          · intro w hSw;(try dsimp only at hSw);go_simp;(try (with_reducible rfl))
          rotate_left
          try simp only [Act.put,List.setIfInBounds_toArray,List.set_cons_zero,List.set_cons_succ]
          refine wpAnyH_take (i:=2) (oi:={ dst:=some 17,op:=_,type:=_,pos:=_,after:=_,guard:=_ }) (v:=?_) rfl (by kernel_rfl) (by kernel_rfl) (by kernel_rfl) (fun _ _ _ h=>h) (Or.inl ⟨by rfl,?_⟩) (by assumption) ?_
          rotate_left
          · intro w hSw;(try dsimp only at hSw);go_simp;(try (with_reducible rfl))
          rotate_left
          try simp only [Act.put,List.setIfInBounds_toArray,List.set_cons_zero,List.set_cons_succ]
          refine wpAnyH_take (i:=3) (oi:={ dst:=some 18,op:=_,type:=_,pos:=_,after:=_,guard:=_ }) (v:=?_) rfl (by kernel_rfl) (by kernel_rfl) (by kernel_rfl) (fun _ _ _ h=>h) (Or.inl ⟨by rfl,?_⟩) (by assumption) ?_
          rotate_left
          · intro w hSw;(try dsimp only at hSw);go_simp;(try (with_reducible rfl))
          rotate_left
          try simp only [Act.put,List.setIfInBounds_toArray,List.set_cons_zero,List.set_cons_succ]
          refine wpAnyH_take (i:=4) (oi:={ dst:=some 19,op:=_,type:=_,pos:=_,after:=_,guard:=_ }) (v:=?_) rfl (by kernel_rfl) (by kernel_rfl) (by kernel_rfl) (fun _ _ _ h=>h) (Or.inl ⟨by rfl,?_⟩) (by assumption) ?_
          rotate_left
          · intro w hSw;(try dsimp only at hSw);go_simp;(try (with_reducible rfl))
          rotate_left
          try simp only [Act.put,List.setIfInBounds_toArray,List.set_cons_zero,List.set_cons_succ]
          refine wpAnyH_ready (rs:=[5]) (by kernel_rfl) (by simp) ?_
          refine AllReadyH.cons (o:={ dst:=some 20,op:=_,type:=_,pos:=_,after:=_,guard:=_ }) rfl (fun K hK=>?_) AllReadyH.nil
          go_simp
          (go_at_call 65;refine (HEN.out).mono ?_;rintro e w4 ⟨rfl,hm4⟩;have y1:=cellE (w:=wr.drew) hm4 b1;have z0:=cellE (w:=wr.drew) hm4 c0;have z1:=cellE (w:=wr.drew) hm4 c1;have z2:=cellE (w:=wr.drew) hm4 c2;have z3:=cellE (w:=wr.drew) hm4 c3)
          refine hK.out _ _ ⟨y1,z0,z1,z2,z3⟩ (fun hHeld=>?_)
          clear hK
          try simp only [Act.put,List.setIfInBounds_toArray,List.set_cons_zero,List.set_cons_succ]
          refine wpAnyH_take (i:=6) (oi:={ dst:=some 21,op:=_,type:=_,pos:=_,after:=_,guard:=_ }) (v:=?_) rfl (by kernel_rfl) (by kernel_rfl) (by kernel_rfl) (fun _ _ _ h=>h) (Or.inl ⟨by rfl,?_⟩) (by assumption) ?_
          rotate_left
          · intro w hSw;(try dsimp only at hSw);go_simp;(try (with_reducible rfl))
          rotate_left
          try simp only [Act.put,List.setIfInBounds_toArray,List.set_cons_zero,List.set_cons_succ]
          refine wpAnyH_take (i:=7) (oi:={ dst:=some 22,op:=_,type:=_,pos:=_,after:=_,guard:=_ }) (v:=?_) rfl (by kernel_rfl) (by kernel_rfl) (by kernel_rfl) (fun _ _ _ h=>h) (Or.inl ⟨by rfl,?_⟩) (by assumption) ?_
          rotate_left
          · intro w hSw;(try dsimp only at hSw);go_simp;(try (with_reducible rfl))
          rotate_left
          try simp only [Act.put,List.setIfInBounds_toArray,List.set_cons_zero,List.set_cons_succ]
          refine wpAnyH_take (i:=8) (oi:={ dst:=some 23,op:=_,type:=_,pos:=_,after:=_,guard:=_ }) (v:=?_) rfl (by kernel_rfl) (by kernel_rfl) (by kernel_rfl) (fun _ _ _ h=>h) (Or.inl ⟨by rfl,?_⟩) (by assumption) ?_
          rotate_left
          · intro w hSw;(try dsimp only at hSw);go_simp;(try (with_reducible rfl))
          rotate_left
          try simp only [Act.put,List.setIfInBounds_toArray,List.set_cons_zero,List.set_cons_succ]
          refine wpAnyH_take (i:=9) (oi:={ dst:=some 24,op:=_,type:=_,pos:=_,after:=_,guard:=_ }) (v:=?_) rfl (by kernel_rfl) (by kernel_rfl) (by kernel_rfl) (fun _ _ _ h=>h) (Or.inl ⟨by rfl,?_⟩) (by assumption) ?_
          rotate_left
          · intro w hSw;(try dsimp only at hSw);go_simp;(try (with_reducible rfl))
          rotate_left
          try simp only [Act.put,List.setIfInBounds_toArray,List.set_cons_zero,List.set_cons_succ]
          refine wpAnyH_take (i:=10) (oi:={ dst:=some 25,op:=_,type:=_,pos:=_,after:=_,guard:=_ }) (v:=?_) rfl (by kernel_rfl) (by kernel_rfl) (by kernel_rfl) (fun _ _ _ h=>h) (Or.inl ⟨by rfl,?_⟩) (by assumption) ?_
          rotate_left
          · intro w hSw;(try dsimp only at hSw);go_simp;(try (with_reducible rfl))
          rotate_left
          try simp only [Act.put,List.setIfInBounds_toArray,List.set_cons_zero,List.set_cons_succ]
          refine wpAnyH_take (i:=11) (oi:={ dst:=some 26,op:=_,type:=_,pos:=_,after:=_,guard:=_ }) (v:=undef) rfl (by kernel_rfl) (by kernel_rfl) (by kernel_rfl) (fun _ _ _ h=>h) (Or.inr ⟨by rfl,rfl⟩) (by assumption) ?_
          try simp only [Act.put,List.setIfInBounds_toArray,List.set_cons_zero,List.set_cons_succ]
          refine wpAnyH_take (i:=12) (oi:={ dst:=some 27,op:=_,type:=_,pos:=_,after:=_,guard:=_ }) (v:=undef) rfl (by kernel_rfl) (by kernel_rfl) (by kernel_rfl) (fun _ _ _ h=>h) (Or.inr ⟨by rfl,rfl⟩) (by assumption) ?_
          try simp only [Act.put,List.setIfInBounds_toArray,List.set_cons_zero,List.set_cons_succ]
          refine wpAnyH_take (i:=13) (oi:={ dst:=some 28,op:=_,type:=_,pos:=_,after:=_,guard:=_ }) (v:=undef) rfl (by kernel_rfl) (by kernel_rfl) (by kernel_rfl) (fun _ _ _ h=>h) (Or.inr ⟨by rfl,rfl⟩) (by assumption) ?_
          try simp only [Act.put,List.setIfInBounds_toArray,List.set_cons_zero,List.set_cons_succ]
          refine wpAnyH_take (i:=14) (oi:={ dst:=some 29,op:=_,type:=_,pos:=_,after:=_,guard:=_ }) (v:=undef) rfl (by kernel_rfl) (by kernel_rfl) (by kernel_rfl) (fun _ _ _ h=>h) (Or.inr ⟨by rfl,rfl⟩) (by assumption) ?_
          try simp only [Act.put,List.setIfInBounds_toArray,List.set_cons_zero,List.set_cons_succ]
          refine wpAnyH_take (i:=15) (oi:={ dst:=some 30,op:=_,type:=_,pos:=_,after:=_,guard:=_ }) (v:=undef) rfl (by kernel_rfl) (by kernel_rfl) (by kernel_rfl) (fun _ _ _ h=>h) (Or.inr ⟨by rfl,rfl⟩) (by assumption) ?_
          try simp only [Act.put,List.setIfInBounds_toArray,List.set_cons_zero,List.set_cons_succ]
          refine wpAnyH_take (i:=16) (oi:={ dst:=some 31,op:=_,type:=_,pos:=_,after:=_,guard:=_ }) (v:=undef) rfl (by kernel_rfl) (by kernel_rfl) (by kernel_rfl) (fun _ _ _ h=>h) (Or.inr ⟨by rfl,rfl⟩) (by assumption) ?_
          try simp only [Act.put,List.setIfInBounds_toArray,List.set_cons_zero,List.set_cons_succ]
          refine wpAnyH_take (i:=17) (oi:={ dst:=some 32,op:=_,type:=_,pos:=_,after:=_,guard:=_ }) (v:=undef) rfl (by kernel_rfl) (by kernel_rfl) (by kernel_rfl) (fun _ _ _ h=>h) (Or.inr ⟨by rfl,rfl⟩) (by assumption) ?_
          try simp only [Act.put,List.setIfInBounds_toArray,List.set_cons_zero,List.set_cons_succ]
          refine wpAnyH_take (i:=18) (oi:={ dst:=some 33,op:=_,type:=_,pos:=_,after:=_,guard:=_ }) (v:=undef) rfl (by kernel_rfl) (by kernel_rfl) (by kernel_rfl) (fun _ _ _ h=>h) (Or.inr ⟨by rfl,rfl⟩) (by assumption) ?_
          try simp only [Act.put,List.setIfInBounds_toArray,List.set_cons_zero,List.set_cons_succ]
          refine wpAnyH_take (i:=19) (oi:={ dst:=some 34,op:=_,type:=_,pos:=_,after:=_,guard:=_ }) (v:=undef) rfl (by kernel_rfl) (by kernel_rfl) (by kernel_rfl) (fun _ _ _ h=>h) (Or.inr ⟨by rfl,rfl⟩) (by assumption) ?_
          try simp only [Act.put,List.setIfInBounds_toArray,List.set_cons_zero,List.set_cons_succ]
          refine wpAnyH_take (i:=20) (oi:={ dst:=some 35,op:=_,type:=_,pos:=_,after:=_,guard:=_ }) (v:=undef) rfl (by kernel_rfl) (by kernel_rfl) (by kernel_rfl) (fun _ _ _ h=>h) (Or.inr ⟨by rfl,rfl⟩) (by assumption) ?_
          try simp only [Act.put,List.setIfInBounds_toArray,List.set_cons_zero,List.set_cons_succ]
          refine wpAnyH_take (i:=21) (oi:={ dst:=some 36,op:=_,type:=_,pos:=_,after:=_,guard:=_ }) (v:=undef) rfl (by kernel_rfl) (by kernel_rfl) (by kernel_rfl) (fun _ _ _ h=>h) (Or.inr ⟨by rfl,rfl⟩) (by assumption) ?_
          try simp only [Act.put,List.setIfInBounds_toArray,List.set_cons_zero,List.set_cons_succ]
          refine wpAnyH_take (i:=22) (oi:={ dst:=some 37,op:=_,type:=_,pos:=_,after:=_,guard:=_ }) (v:=undef) rfl (by kernel_rfl) (by kernel_rfl) (by kernel_rfl) (fun _ _ _ h=>h) (Or.inr ⟨by rfl,rfl⟩) (by assumption) ?_
          try simp only [Act.put,List.setIfInBounds_toArray,List.set_cons_zero,List.set_cons_succ]
          refine wpAnyH_take (i:=23) (oi:={ dst:=some 38,op:=_,type:=_,pos:=_,after:=_,guard:=_ }) (v:=undef) rfl (by kernel_rfl) (by kernel_rfl) (by kernel_rfl) (fun _ _ _ h=>h) (Or.inr ⟨by rfl,rfl⟩) (by assumption) ?_
          try simp only [Act.put,List.setIfInBounds_toArray,List.set_cons_zero,List.set_cons_succ]
          refine wpAnyH_take (i:=24) (oi:={ dst:=some 39,op:=_,type:=_,pos:=_,after:=_,guard:=_ }) (v:=undef) rfl (by kernel_rfl) (by kernel_rfl) (by kernel_rfl) (fun _ _ _ h=>h) (Or.inr ⟨by rfl,rfl⟩) (by assumption) ?_
          try simp only [Act.put,List.setIfInBounds_toArray,List.set_cons_zero,List.set_cons_succ]
          refine wpAnyH_take (i:=25) (oi:={ dst:=some 40,op:=_,type:=_,pos:=_,after:=_,guard:=_ }) (v:=?_) rfl (by kernel_rfl) (by kernel_rfl) (by kernel_rfl) (fun _ _ _ h=>h) (Or.inl ⟨by rfl,?_⟩) (by assumption) ?_
          rotate_left
          · intro w hSw;(try dsimp only at hSw);go_simp;(try (with_reducible rfl))
          rotate_left
          try simp only [Act.put,List.setIfInBounds_toArray,List.set_cons_zero,List.set_cons_succ]
          refine wpAnyH_take (i:=26) (oi:={ dst:=some 41,op:=_,type:=_,pos:=_,after:=_,guard:=_ }) (v:=?_) rfl (by kernel_rfl) (by kernel_rfl) (by kernel_rfl) (fun _ _ _ h=>h) (Or.inl ⟨by rfl,?_⟩) (by assumption) ?_
          rotate_left
          · intro w hSw;(try dsimp only at hSw);go_simp;(try (with_reducible rfl))
          rotate_left
          try simp only [Act.put,List.setIfInBounds_toArray,List.set_cons_zero,List.set_cons_succ]
          refine wpAnyH_done (by kernel_rfl) ?_ _
          have HW4:Hid (Ext w w4∧Blk w4 w.heap.size #[.bool true,.slice (some ⟨b,off,none⟩) n.entries.length ec,.slice ka n.keys.length kc,.slice ia n.kids.length ic] 26):=Lib.hid ⟨HW.out.1.drew.trans hm4,HW.out.2.drew.ext hm4⟩
          clear hm4 y1 z0 z1 z2 z3 b1 c0 c1 c2 c3 hHeld
          go_wp2_with fail
          go_roundg (gk - 1)
          case measure=>omega
          case rel=>exact ⟨k+1,by omega,by go_num,HS2,HW4⟩
        · obtain ⟨q,hkq⟩:∃ q,k=q+1:=⟨k - 1,by omega⟩
          have HKQ:=Lib.hid hkq
          have d1:decide ((0:Int) < (k:Int))=true:=decide_eq_true (by omega)
          have d2:decide (0 < k)=true:=decide_eq_true (by omega)
          obtain ⟨b',off',hbb,_,_,hd⟩:=Sl.at HE.out HW.out.1 (fun _ _ f=>f.elim) q (by omega)
          injection hbb with hbb
          injection hbb with hbb1 hbb2
          subst hbb1 hbb2
          obtain ⟨y,hy⟩:∃ y,n.entries[q]? = some y:=⟨_,List.getElem?_eq_getElem (by omega)⟩
          have hy':n.entries[q]=y:=by rw [List.getElem?_eq_getElem (by omega)] at hy;exact Option.some.inj hy
          rw [hy'] at hd
          have g0:wr.cell? ⟨b,off+q * 4,none⟩=some (.string y.key):=hd 0 _ rfl
          have HY:=Lib.hid hy
          have j3:(0:Int)≤(q:Int):=by omega
          have j4:(q:Int) < (n.entries.length:Int):=by omega
          have hw0:(k:Int) - 1=(q:Int):=by omega
          have hw1:IntKind.i64.wrap ((k:Int) - 1)=(q:Int):=by rw [hw0];exact IntWalk.i64_in _ (by omega)
          have hw2:IntKind.i64.wrap (q:Int)=(q:Int):=IntWalk.i64_in _ (by omega)
          have HX1:Hid (n.entries[q+1]? = some x):=Lib.hid (by rw [← hkq];exact HX.out)
          clear hd hy hy' hk0 hkq
          cases hle:leS x.key y.key with
          | true =>
            have HR:Hid (rightN n=false):=Lib.hid (leaf_wrong HLF.out (.inr (not_rising (k:=q) (a:=y.key) (b:=x.key) (by rw [List.getElem?_map,HY.out];rfl) (by rw [List.getElem?_map,HX1.out];rfl) hle)))
            have t2:(Op.bytesLess x.key.toList y.key.toList || x.key.toList == y.key.toList)=true:=hle
            clear hle
            go_wp2_with fail
            refine wp_region_held_drew (S:=fun w'=>w'.cell? ⟨w.heap.size,1,none⟩=some (.slice (some ⟨b,off,none⟩) n.entries.length ec)∧w'.cell? ⟨b,off+k * 4,none⟩=some (.string x.key)∧w'.cell? ⟨b,off+k * 4+1,none⟩=some (.string x.value)∧w'.cell? ⟨b,off+k * 4+2,none⟩=some (.int .i64 x.chain)∧w'.cell? ⟨b,off+k * 4+3,none⟩=some (.int .i64 x.size)∧w'.cell? ⟨b,off+q * 4,none⟩=some (.string y.key)) (by kernel_rfl) (by first | exact ⟨b1,c0,c1,c2,c3,g0⟩ | go_keep) (fun hHeld=>?_)
            refine wpAnyH_take (i:=0) (oi:={ dst:=some 15,op:=_,type:=_,pos:=_,after:=_,guard:=_ }) (v:=?_) rfl (by kernel_rfl) (by kernel_rfl) (by kernel_rfl) (fun _ _ _ h=>h) (Or.inl ⟨by rfl,?_⟩) (by assumption) ?_
            rotate_left
            · intro w hSw;(try dsimp only at hSw);go_simp;(try (with_reducible rfl))
            rotate_left
            try simp only [Act.put,List.setIfInBounds_toArray,List.set_cons_zero,List.set_cons_succ]
            refine wpAnyH_take (i:=1) (oi:={ dst:=some 16,op:=_,type:=_,pos:=_,after:=_,guard:=_ }) (v:=?_) rfl (by kernel_rfl) (by kernel_rfl) (by kernel_rfl) (fun _ _ _ h=>h) (Or.inl ⟨by rfl,?_⟩) (by assumption) ?_
            rotate_left
            · intro w hSw;(try dsimp only at hSw);go_simp;(try (with_reducible rfl))
            rotate_left
            try simp only [Act.put,List.setIfInBounds_toArray,List.set_cons_zero,List.set_cons_succ]
            refine wpAnyH_take (i:=2) (oi:={ dst:=some 17,op:=_,type:=_,pos:=_,after:=_,guard:=_ }) (v:=?_) rfl (by kernel_rfl) (by kernel_rfl) (by kernel_rfl) (fun _ _ _ h=>h) (Or.inl ⟨by rfl,?_⟩) (by assumption) ?_
            rotate_left
            · intro w hSw;(try dsimp only at hSw);go_simp;(try (with_reducible rfl))
            rotate_left
            try simp only [Act.put,List.setIfInBounds_toArray,List.set_cons_zero,List.set_cons_succ]
            refine wpAnyH_take (i:=3) (oi:={ dst:=some 18,op:=_,type:=_,pos:=_,after:=_,guard:=_ }) (v:=?_) rfl (by kernel_rfl) (by kernel_rfl) (by kernel_rfl) (fun _ _ _ h=>h) (Or.inl ⟨by rfl,?_⟩) (by assumption) ?_
            rotate_left
            · intro w hSw;(try dsimp only at hSw);go_simp;(try (with_reducible rfl))
            rotate_left
            try simp only [Act.put,List.setIfInBounds_toArray,List.set_cons_zero,List.set_cons_succ]
            refine wpAnyH_take (i:=4) (oi:={ dst:=some 19,op:=_,type:=_,pos:=_,after:=_,guard:=_ }) (v:=?_) rfl (by kernel_rfl) (by kernel_rfl) (by kernel_rfl) (fun _ _ _ h=>h) (Or.inl ⟨by rfl,?_⟩) (by assumption) ?_
            rotate_left
            · intro w hSw;(try dsimp only at hSw);go_simp;(try (with_reducible rfl))
            rotate_left
            try simp only [Act.put,List.setIfInBounds_toArray,List.set_cons_zero,List.set_cons_succ]
            refine wpAnyH_ready (rs:=[5]) (by kernel_rfl) (by simp) ?_
            refine AllReadyH.cons (o:={ dst:=some 20,op:=_,type:=_,pos:=_,after:=_,guard:=_ }) rfl (fun K hK=>?_) AllReadyH.nil
            go_simp
            (go_at_call 65;refine (HEN.out).mono ?_;rintro e w4 ⟨rfl,hm4⟩;have y1:=cellE (w:=wr.drew) hm4 b1;have z0:=cellE (w:=wr.drew) hm4 c0;have z1:=cellE (w:=wr.drew) hm4 c1;have z2:=cellE (w:=wr.drew) hm4 c2;have z3:=cellE (w:=wr.drew) hm4 c3;have v0:=cellE (w:=wr.drew) hm4 g0)
            refine hK.out _ _ ⟨y1,z0,z1,z2,z3,v0⟩ (fun hHeld=>?_)
            clear hK
            try simp only [Act.put,List.setIfInBounds_toArray,List.set_cons_zero,List.set_cons_succ]
            refine wpAnyH_take (i:=6) (oi:={ dst:=some 21,op:=_,type:=_,pos:=_,after:=_,guard:=_ }) (v:=?_) rfl (by kernel_rfl) (by kernel_rfl) (by kernel_rfl) (fun _ _ _ h=>h) (Or.inl ⟨by rfl,?_⟩) (by assumption) ?_
            rotate_left
            · intro w hSw;(try dsimp only at hSw);go_simp;(try (with_reducible rfl))
            rotate_left
            try simp only [Act.put,List.setIfInBounds_toArray,List.set_cons_zero,List.set_cons_succ]
            refine wpAnyH_take (i:=7) (oi:={ dst:=some 22,op:=_,type:=_,pos:=_,after:=_,guard:=_ }) (v:=?_) rfl (by kernel_rfl) (by kernel_rfl) (by kernel_rfl) (fun _ _ _ h=>h) (Or.inl ⟨by rfl,?_⟩) (by assumption) ?_
            rotate_left
            · intro w hSw;(try dsimp only at hSw);go_simp;(try (with_reducible rfl))
            rotate_left
            try simp only [Act.put,List.setIfInBounds_toArray,List.set_cons_zero,List.set_cons_succ]
            refine wpAnyH_take (i:=8) (oi:={ dst:=some 23,op:=_,type:=_,pos:=_,after:=_,guard:=_ }) (v:=?_) rfl (by kernel_rfl) (by kernel_rfl) (by kernel_rfl) (fun _ _ _ h=>h) (Or.inl ⟨by rfl,?_⟩) (by assumption) ?_
            rotate_left
            · intro w hSw;(try dsimp only at hSw);go_simp;(try (with_reducible rfl))
            rotate_left
            try simp only [Act.put,List.setIfInBounds_toArray,List.set_cons_zero,List.set_cons_succ]
            refine wpAnyH_take (i:=9) (oi:={ dst:=some 24,op:=_,type:=_,pos:=_,after:=_,guard:=_ }) (v:=?_) rfl (by kernel_rfl) (by kernel_rfl) (by kernel_rfl) (fun _ _ _ h=>h) (Or.inl ⟨by rfl,?_⟩) (by assumption) ?_
            rotate_left
            · intro w hSw;(try dsimp only at hSw);go_simp;(try (with_reducible rfl))
            rotate_left
            try simp only [Act.put,List.setIfInBounds_toArray,List.set_cons_zero,List.set_cons_succ]
            refine wpAnyH_take (i:=10) (oi:={ dst:=some 25,op:=_,type:=_,pos:=_,after:=_,guard:=_ }) (v:=?_) rfl (by kernel_rfl) (by kernel_rfl) (by kernel_rfl) (fun _ _ _ h=>h) (Or.inl ⟨by rfl,?_⟩) (by assumption) ?_
            rotate_left
            · intro w hSw;(try dsimp only at hSw);go_simp;(try (with_reducible rfl))
            rotate_left
            try simp only [Act.put,List.setIfInBounds_toArray,List.set_cons_zero,List.set_cons_succ]
            refine wpAnyH_take (i:=11) (oi:={ dst:=some 26,op:=_,type:=_,pos:=_,after:=_,guard:=_ }) (v:=?_) rfl (by kernel_rfl) (by kernel_rfl) (by kernel_rfl) (fun _ _ _ h=>h) (Or.inl ⟨by rfl,?_⟩) (by assumption) ?_
            rotate_left
            · intro w hSw;(try dsimp only at hSw);go_simp;(try (with_reducible rfl))
            rotate_left
            try simp only [Act.put,List.setIfInBounds_toArray,List.set_cons_zero,List.set_cons_succ]
            refine wpAnyH_take (i:=12) (oi:={ dst:=some 27,op:=_,type:=_,pos:=_,after:=_,guard:=_ }) (v:=?_) rfl (by kernel_rfl) (by kernel_rfl) (by kernel_rfl) (fun _ _ _ h=>h) (Or.inl ⟨by rfl,?_⟩) (by assumption) ?_
            rotate_left
            · intro w hSw;(try dsimp only at hSw);go_simp;(try (with_reducible rfl))
            rotate_left
            try simp only [Act.put,List.setIfInBounds_toArray,List.set_cons_zero,List.set_cons_succ]
            refine wpAnyH_take (i:=13) (oi:={ dst:=some 28,op:=_,type:=_,pos:=_,after:=_,guard:=_ }) (v:=?_) rfl (by kernel_rfl) (by kernel_rfl) (by kernel_rfl) (fun _ _ _ h=>h) (Or.inl ⟨by rfl,?_⟩) (by assumption) ?_
            rotate_left
            · intro w hSw;(try dsimp only at hSw);go_simp;(try (with_reducible rfl))
            rotate_left
            try simp only [Act.put,List.setIfInBounds_toArray,List.set_cons_zero,List.set_cons_succ]
            refine wpAnyH_take (i:=14) (oi:={ dst:=some 29,op:=_,type:=_,pos:=_,after:=_,guard:=_ }) (v:=?_) rfl (by kernel_rfl) (by kernel_rfl) (by kernel_rfl) (fun _ _ _ h=>h) (Or.inl ⟨by rfl,?_⟩) (by assumption) ?_
            rotate_left
            · intro w hSw;(try dsimp only at hSw);go_simp;(try (with_reducible rfl))
            rotate_left
            try simp only [Act.put,List.setIfInBounds_toArray,List.set_cons_zero,List.set_cons_succ]
            refine wpAnyH_take (i:=15) (oi:={ dst:=some 30,op:=_,type:=_,pos:=_,after:=_,guard:=_ }) (v:=?_) rfl (by kernel_rfl) (by kernel_rfl) (by kernel_rfl) (fun _ _ _ h=>h) (Or.inl ⟨by rfl,?_⟩) (by assumption) ?_
            rotate_left
            · intro w hSw;(try dsimp only at hSw);go_simp;(try (with_reducible rfl))
            rotate_left
            try simp only [Act.put,List.setIfInBounds_toArray,List.set_cons_zero,List.set_cons_succ]
            refine wpAnyH_take (i:=16) (oi:={ dst:=some 31,op:=_,type:=_,pos:=_,after:=_,guard:=_ }) (v:=?_) rfl (by kernel_rfl) (by kernel_rfl) (by kernel_rfl) (fun _ _ _ h=>h) (Or.inl ⟨by rfl,?_⟩) (by assumption) ?_
            rotate_left
            · intro w hSw;(try dsimp only at hSw);go_simp;(try (with_reducible rfl))
            rotate_left
            try simp only [Act.put,List.setIfInBounds_toArray,List.set_cons_zero,List.set_cons_succ]
            refine wpAnyH_take (i:=17) (oi:={ dst:=some 32,op:=_,type:=_,pos:=_,after:=_,guard:=_ }) (v:=?_) rfl (by kernel_rfl) (by kernel_rfl) (by kernel_rfl) (fun _ _ _ h=>h) (Or.inl ⟨by rfl,?_⟩) (by assumption) ?_
            rotate_left
            · intro w hSw;(try dsimp only at hSw);go_simp;(try (with_reducible rfl))
            rotate_left
            try simp only [Act.put,List.setIfInBounds_toArray,List.set_cons_zero,List.set_cons_succ]
            refine wpAnyH_take (i:=18) (oi:={ dst:=some 33,op:=_,type:=_,pos:=_,after:=_,guard:=_ }) (v:=?_) rfl (by kernel_rfl) (by kernel_rfl) (by kernel_rfl) (fun _ _ _ h=>h) (Or.inl ⟨by rfl,?_⟩) (by assumption) ?_
            rotate_left
            · intro w hSw;(try dsimp only at hSw);go_simp;(try (with_reducible rfl))
            rotate_left
            try simp only [Act.put,List.setIfInBounds_toArray,List.set_cons_zero,List.set_cons_succ]
            refine wpAnyH_take (i:=19) (oi:={ dst:=some 34,op:=_,type:=_,pos:=_,after:=_,guard:=_ }) (v:=?_) rfl (by kernel_rfl) (by kernel_rfl) (by kernel_rfl) (fun _ _ _ h=>h) (Or.inl ⟨by rfl,?_⟩) (by assumption) ?_
            rotate_left
            · intro w hSw;(try dsimp only at hSw);go_simp;(try (with_reducible rfl))
            rotate_left
            try simp only [Act.put,List.setIfInBounds_toArray,List.set_cons_zero,List.set_cons_succ]
            refine wpAnyH_take (i:=20) (oi:={ dst:=some 35,op:=_,type:=_,pos:=_,after:=_,guard:=_ }) (v:=?_) rfl (by kernel_rfl) (by kernel_rfl) (by kernel_rfl) (fun _ _ _ h=>h) (Or.inl ⟨by rfl,?_⟩) (by assumption) ?_
            rotate_left
            · intro w hSw;(try dsimp only at hSw);go_simp;(try (with_reducible rfl))
            rotate_left
            try simp only [Act.put,List.setIfInBounds_toArray,List.set_cons_zero,List.set_cons_succ]
            refine wpAnyH_take (i:=21) (oi:={ dst:=some 36,op:=_,type:=_,pos:=_,after:=_,guard:=_ }) (v:=?_) rfl (by kernel_rfl) (by kernel_rfl) (by kernel_rfl) (fun _ _ _ h=>h) (Or.inl ⟨by rfl,?_⟩) (by assumption) ?_
            rotate_left
            · intro w hSw;(try dsimp only at hSw);go_simp;(try (with_reducible rfl))
            rotate_left
            try simp only [Act.put,List.setIfInBounds_toArray,List.set_cons_zero,List.set_cons_succ]
            refine wpAnyH_take (i:=22) (oi:={ dst:=some 37,op:=_,type:=_,pos:=_,after:=_,guard:=_ }) (v:=?_) rfl (by kernel_rfl) (by kernel_rfl) (by kernel_rfl) (fun _ _ _ h=>h) (Or.inl ⟨by rfl,?_⟩) (by assumption) ?_
            rotate_left
            · intro w hSw;(try dsimp only at hSw);go_simp;(try (with_reducible rfl))
            rotate_left
            try simp only [Act.put,List.setIfInBounds_toArray,List.set_cons_zero,List.set_cons_succ]
            refine wpAnyH_take (i:=23) (oi:={ dst:=some 38,op:=_,type:=_,pos:=_,after:=_,guard:=_ }) (v:=?_) rfl (by kernel_rfl) (by kernel_rfl) (by kernel_rfl) (fun _ _ _ h=>h) (Or.inl ⟨by rfl,?_⟩) (by assumption) ?_
            rotate_left
            · intro w hSw;(try dsimp only at hSw);go_simp;(try (with_reducible rfl))
            rotate_left
            try simp only [Act.put,List.setIfInBounds_toArray,List.set_cons_zero,List.set_cons_succ]
            refine wpAnyH_take (i:=24) (oi:={ dst:=some 39,op:=_,type:=_,pos:=_,after:=_,guard:=_ }) (v:=?_) rfl (by kernel_rfl) (by kernel_rfl) (by kernel_rfl) (fun _ _ _ h=>h) (Or.inl ⟨by rfl,?_⟩) (by assumption) ?_
            rotate_left
            · intro w hSw;(try dsimp only at hSw);go_simp;(try (with_reducible rfl))
            rotate_left
            try simp only [Act.put,List.setIfInBounds_toArray,List.set_cons_zero,List.set_cons_succ]
            refine wpAnyH_take (i:=25) (oi:={ dst:=some 40,op:=_,type:=_,pos:=_,after:=_,guard:=_ }) (v:=?_) rfl (by kernel_rfl) (by kernel_rfl) (by kernel_rfl) (fun _ _ _ h=>h) (Or.inl ⟨by rfl,?_⟩) (by assumption) ?_
            rotate_left
            · intro w hSw;(try dsimp only at hSw);go_simp;(try (with_reducible rfl))
            rotate_left
            try simp only [Act.put,List.setIfInBounds_toArray,List.set_cons_zero,List.set_cons_succ]
            refine wpAnyH_take (i:=26) (oi:={ dst:=some 41,op:=_,type:=_,pos:=_,after:=_,guard:=_ }) (v:=?_) rfl (by kernel_rfl) (by kernel_rfl) (by kernel_rfl) (fun _ _ _ h=>h) (Or.inl ⟨by rfl,?_⟩) (by assumption) ?_
            rotate_left
            · intro w hSw;(try dsimp only at hSw);go_simp;(try (with_reducible rfl))
            rotate_left
            try simp only [Act.put,List.setIfInBounds_toArray,List.set_cons_zero,List.set_cons_succ]
            refine wpAnyH_done (by kernel_rfl) ?_ _
            have HM4:=Lib.hid (HW.out.1.drew.trans hm4)
            clear hm4 y1 z0 z1 z2 z3 b1 c0 c1 c2 c3 hHeld
            go_wp2_with fail
            go_ret
            exact ⟨by rw [HR.out];rfl,HM4.out⟩
          | false =>
            have HS2:Hid (EntTo n.entries (k+1)):=Lib.hid (by
              have h0:=HS.out
              rw [HKQ.out] at h0 ⊢
              exact h0.next HY.out HX1.out HRX.out hle)
            have t2:(Op.bytesLess x.key.toList y.key.toList || x.key.toList == y.key.toList)=false:=hle
            clear hle
            go_wp2_with fail
            refine wp_region_held_drew (S:=fun w'=>w'.cell? ⟨w.heap.size,1,none⟩=some (.slice (some ⟨b,off,none⟩) n.entries.length ec)∧w'.cell? ⟨b,off+k * 4,none⟩=some (.string x.key)∧w'.cell? ⟨b,off+k * 4+1,none⟩=some (.string x.value)∧w'.cell? ⟨b,off+k * 4+2,none⟩=some (.int .i64 x.chain)∧w'.cell? ⟨b,off+k * 4+3,none⟩=some (.int .i64 x.size)∧w'.cell? ⟨b,off+q * 4,none⟩=some (.string y.key)) (by kernel_rfl) (by first | exact ⟨b1,c0,c1,c2,c3,g0⟩ | go_keep) (fun hHeld=>?_)
            refine wpAnyH_take (i:=0) (oi:={ dst:=some 15,op:=_,type:=_,pos:=_,after:=_,guard:=_ }) (v:=?_) rfl (by kernel_rfl) (by kernel_rfl) (by kernel_rfl) (fun _ _ _ h=>h) (Or.inl ⟨by rfl,?_⟩) (by assumption) ?_
            rotate_left
            · intro w hSw;(try dsimp only at hSw);go_simp;(try (with_reducible rfl))
            rotate_left
            try simp only [Act.put,List.setIfInBounds_toArray,List.set_cons_zero,List.set_cons_succ]
            refine wpAnyH_take (i:=1) (oi:={ dst:=some 16,op:=_,type:=_,pos:=_,after:=_,guard:=_ }) (v:=?_) rfl (by kernel_rfl) (by kernel_rfl) (by kernel_rfl) (fun _ _ _ h=>h) (Or.inl ⟨by rfl,?_⟩) (by assumption) ?_
            rotate_left
            · intro w hSw;(try dsimp only at hSw);go_simp;(try (with_reducible rfl))
            rotate_left
            try simp only [Act.put,List.setIfInBounds_toArray,List.set_cons_zero,List.set_cons_succ]
            refine wpAnyH_take (i:=2) (oi:={ dst:=some 17,op:=_,type:=_,pos:=_,after:=_,guard:=_ }) (v:=?_) rfl (by kernel_rfl) (by kernel_rfl) (by kernel_rfl) (fun _ _ _ h=>h) (Or.inl ⟨by rfl,?_⟩) (by assumption) ?_
            rotate_left
            · intro w hSw;(try dsimp only at hSw);go_simp;(try (with_reducible rfl))
            rotate_left
            try simp only [Act.put,List.setIfInBounds_toArray,List.set_cons_zero,List.set_cons_succ]
            refine wpAnyH_take (i:=3) (oi:={ dst:=some 18,op:=_,type:=_,pos:=_,after:=_,guard:=_ }) (v:=?_) rfl (by kernel_rfl) (by kernel_rfl) (by kernel_rfl) (fun _ _ _ h=>h) (Or.inl ⟨by rfl,?_⟩) (by assumption) ?_
            rotate_left
            · intro w hSw;(try dsimp only at hSw);go_simp;(try (with_reducible rfl))
            rotate_left
            try simp only [Act.put,List.setIfInBounds_toArray,List.set_cons_zero,List.set_cons_succ]
            refine wpAnyH_take (i:=4) (oi:={ dst:=some 19,op:=_,type:=_,pos:=_,after:=_,guard:=_ }) (v:=?_) rfl (by kernel_rfl) (by kernel_rfl) (by kernel_rfl) (fun _ _ _ h=>h) (Or.inl ⟨by rfl,?_⟩) (by assumption) ?_
            rotate_left
            · intro w hSw;(try dsimp only at hSw);go_simp;(try (with_reducible rfl))
            rotate_left
            try simp only [Act.put,List.setIfInBounds_toArray,List.set_cons_zero,List.set_cons_succ]
            refine wpAnyH_ready (rs:=[5]) (by kernel_rfl) (by simp) ?_
            refine AllReadyH.cons (o:={ dst:=some 20,op:=_,type:=_,pos:=_,after:=_,guard:=_ }) rfl (fun K hK=>?_) AllReadyH.nil
            go_simp
            (go_at_call 65;refine (HEN.out).mono ?_;rintro e w4 ⟨rfl,hm4⟩;have y1:=cellE (w:=wr.drew) hm4 b1;have z0:=cellE (w:=wr.drew) hm4 c0;have z1:=cellE (w:=wr.drew) hm4 c1;have z2:=cellE (w:=wr.drew) hm4 c2;have z3:=cellE (w:=wr.drew) hm4 c3;have v0:=cellE (w:=wr.drew) hm4 g0)
            refine hK.out _ _ ⟨y1,z0,z1,z2,z3,v0⟩ (fun hHeld=>?_)
            clear hK
            try simp only [Act.put,List.setIfInBounds_toArray,List.set_cons_zero,List.set_cons_succ]
            refine wpAnyH_take (i:=6) (oi:={ dst:=some 21,op:=_,type:=_,pos:=_,after:=_,guard:=_ }) (v:=?_) rfl (by kernel_rfl) (by kernel_rfl) (by kernel_rfl) (fun _ _ _ h=>h) (Or.inl ⟨by rfl,?_⟩) (by assumption) ?_
            rotate_left
            · intro w hSw;(try dsimp only at hSw);go_simp;(try (with_reducible rfl))
            rotate_left
            try simp only [Act.put,List.setIfInBounds_toArray,List.set_cons_zero,List.set_cons_succ]
            refine wpAnyH_take (i:=7) (oi:={ dst:=some 22,op:=_,type:=_,pos:=_,after:=_,guard:=_ }) (v:=?_) rfl (by kernel_rfl) (by kernel_rfl) (by kernel_rfl) (fun _ _ _ h=>h) (Or.inl ⟨by rfl,?_⟩) (by assumption) ?_
            rotate_left
            · intro w hSw;(try dsimp only at hSw);go_simp;(try (with_reducible rfl))
            rotate_left
            try simp only [Act.put,List.setIfInBounds_toArray,List.set_cons_zero,List.set_cons_succ]
            refine wpAnyH_take (i:=8) (oi:={ dst:=some 23,op:=_,type:=_,pos:=_,after:=_,guard:=_ }) (v:=?_) rfl (by kernel_rfl) (by kernel_rfl) (by kernel_rfl) (fun _ _ _ h=>h) (Or.inl ⟨by rfl,?_⟩) (by assumption) ?_
            rotate_left
            · intro w hSw;(try dsimp only at hSw);go_simp;(try (with_reducible rfl))
            rotate_left
            try simp only [Act.put,List.setIfInBounds_toArray,List.set_cons_zero,List.set_cons_succ]
            refine wpAnyH_take (i:=9) (oi:={ dst:=some 24,op:=_,type:=_,pos:=_,after:=_,guard:=_ }) (v:=?_) rfl (by kernel_rfl) (by kernel_rfl) (by kernel_rfl) (fun _ _ _ h=>h) (Or.inl ⟨by rfl,?_⟩) (by assumption) ?_
            rotate_left
            · intro w hSw;(try dsimp only at hSw);go_simp;(try (with_reducible rfl))
            rotate_left
            try simp only [Act.put,List.setIfInBounds_toArray,List.set_cons_zero,List.set_cons_succ]
            refine wpAnyH_take (i:=10) (oi:={ dst:=some 25,op:=_,type:=_,pos:=_,after:=_,guard:=_ }) (v:=?_) rfl (by kernel_rfl) (by kernel_rfl) (by kernel_rfl) (fun _ _ _ h=>h) (Or.inl ⟨by rfl,?_⟩) (by assumption) ?_
            rotate_left
            · intro w hSw;(try dsimp only at hSw);go_simp;(try (with_reducible rfl))
            rotate_left
            try simp only [Act.put,List.setIfInBounds_toArray,List.set_cons_zero,List.set_cons_succ]
            refine wpAnyH_take (i:=11) (oi:={ dst:=some 26,op:=_,type:=_,pos:=_,after:=_,guard:=_ }) (v:=?_) rfl (by kernel_rfl) (by kernel_rfl) (by kernel_rfl) (fun _ _ _ h=>h) (Or.inl ⟨by rfl,?_⟩) (by assumption) ?_
            rotate_left
            · intro w hSw;(try dsimp only at hSw);go_simp;(try (with_reducible rfl))
            rotate_left
            try simp only [Act.put,List.setIfInBounds_toArray,List.set_cons_zero,List.set_cons_succ]
            refine wpAnyH_take (i:=12) (oi:={ dst:=some 27,op:=_,type:=_,pos:=_,after:=_,guard:=_ }) (v:=?_) rfl (by kernel_rfl) (by kernel_rfl) (by kernel_rfl) (fun _ _ _ h=>h) (Or.inl ⟨by rfl,?_⟩) (by assumption) ?_
            rotate_left
            · intro w hSw;(try dsimp only at hSw);go_simp;(try (with_reducible rfl))
            rotate_left
            try simp only [Act.put,List.setIfInBounds_toArray,List.set_cons_zero,List.set_cons_succ]
            refine wpAnyH_take (i:=13) (oi:={ dst:=some 28,op:=_,type:=_,pos:=_,after:=_,guard:=_ }) (v:=?_) rfl (by kernel_rfl) (by kernel_rfl) (by kernel_rfl) (fun _ _ _ h=>h) (Or.inl ⟨by rfl,?_⟩) (by assumption) ?_
            rotate_left
            · intro w hSw;(try dsimp only at hSw);go_simp;(try (with_reducible rfl))
            rotate_left
            try simp only [Act.put,List.setIfInBounds_toArray,List.set_cons_zero,List.set_cons_succ]
            refine wpAnyH_take (i:=14) (oi:={ dst:=some 29,op:=_,type:=_,pos:=_,after:=_,guard:=_ }) (v:=?_) rfl (by kernel_rfl) (by kernel_rfl) (by kernel_rfl) (fun _ _ _ h=>h) (Or.inl ⟨by rfl,?_⟩) (by assumption) ?_
            rotate_left
            · intro w hSw;(try dsimp only at hSw);go_simp;(try (with_reducible rfl))
            rotate_left
            try simp only [Act.put,List.setIfInBounds_toArray,List.set_cons_zero,List.set_cons_succ]
            refine wpAnyH_take (i:=15) (oi:={ dst:=some 30,op:=_,type:=_,pos:=_,after:=_,guard:=_ }) (v:=?_) rfl (by kernel_rfl) (by kernel_rfl) (by kernel_rfl) (fun _ _ _ h=>h) (Or.inl ⟨by rfl,?_⟩) (by assumption) ?_
            rotate_left
            · intro w hSw;(try dsimp only at hSw);go_simp;(try (with_reducible rfl))
            rotate_left
            try simp only [Act.put,List.setIfInBounds_toArray,List.set_cons_zero,List.set_cons_succ]
            refine wpAnyH_take (i:=16) (oi:={ dst:=some 31,op:=_,type:=_,pos:=_,after:=_,guard:=_ }) (v:=?_) rfl (by kernel_rfl) (by kernel_rfl) (by kernel_rfl) (fun _ _ _ h=>h) (Or.inl ⟨by rfl,?_⟩) (by assumption) ?_
            rotate_left
            · intro w hSw;(try dsimp only at hSw);go_simp;(try (with_reducible rfl))
            rotate_left
            try simp only [Act.put,List.setIfInBounds_toArray,List.set_cons_zero,List.set_cons_succ]
            refine wpAnyH_take (i:=17) (oi:={ dst:=some 32,op:=_,type:=_,pos:=_,after:=_,guard:=_ }) (v:=?_) rfl (by kernel_rfl) (by kernel_rfl) (by kernel_rfl) (fun _ _ _ h=>h) (Or.inl ⟨by rfl,?_⟩) (by assumption) ?_
            rotate_left
            · intro w hSw;(try dsimp only at hSw);go_simp;(try (with_reducible rfl))
            rotate_left
            try simp only [Act.put,List.setIfInBounds_toArray,List.set_cons_zero,List.set_cons_succ]
            refine wpAnyH_take (i:=18) (oi:={ dst:=some 33,op:=_,type:=_,pos:=_,after:=_,guard:=_ }) (v:=?_) rfl (by kernel_rfl) (by kernel_rfl) (by kernel_rfl) (fun _ _ _ h=>h) (Or.inl ⟨by rfl,?_⟩) (by assumption) ?_
            rotate_left
            · intro w hSw;(try dsimp only at hSw);go_simp;(try (with_reducible rfl))
            rotate_left
            try simp only [Act.put,List.setIfInBounds_toArray,List.set_cons_zero,List.set_cons_succ]
            refine wpAnyH_take (i:=19) (oi:={ dst:=some 34,op:=_,type:=_,pos:=_,after:=_,guard:=_ }) (v:=?_) rfl (by kernel_rfl) (by kernel_rfl) (by kernel_rfl) (fun _ _ _ h=>h) (Or.inl ⟨by rfl,?_⟩) (by assumption) ?_
            rotate_left
            · intro w hSw;(try dsimp only at hSw);go_simp;(try (with_reducible rfl))
            rotate_left
            try simp only [Act.put,List.setIfInBounds_toArray,List.set_cons_zero,List.set_cons_succ]
            refine wpAnyH_take (i:=20) (oi:={ dst:=some 35,op:=_,type:=_,pos:=_,after:=_,guard:=_ }) (v:=?_) rfl (by kernel_rfl) (by kernel_rfl) (by kernel_rfl) (fun _ _ _ h=>h) (Or.inl ⟨by rfl,?_⟩) (by assumption) ?_
            rotate_left
            · intro w hSw;(try dsimp only at hSw);go_simp;(try (with_reducible rfl))
            rotate_left
            try simp only [Act.put,List.setIfInBounds_toArray,List.set_cons_zero,List.set_cons_succ]
            refine wpAnyH_take (i:=21) (oi:={ dst:=some 36,op:=_,type:=_,pos:=_,after:=_,guard:=_ }) (v:=?_) rfl (by kernel_rfl) (by kernel_rfl) (by kernel_rfl) (fun _ _ _ h=>h) (Or.inl ⟨by rfl,?_⟩) (by assumption) ?_
            rotate_left
            · intro w hSw;(try dsimp only at hSw);go_simp;(try (with_reducible rfl))
            rotate_left
            try simp only [Act.put,List.setIfInBounds_toArray,List.set_cons_zero,List.set_cons_succ]
            refine wpAnyH_take (i:=22) (oi:={ dst:=some 37,op:=_,type:=_,pos:=_,after:=_,guard:=_ }) (v:=?_) rfl (by kernel_rfl) (by kernel_rfl) (by kernel_rfl) (fun _ _ _ h=>h) (Or.inl ⟨by rfl,?_⟩) (by assumption) ?_
            rotate_left
            · intro w hSw;(try dsimp only at hSw);go_simp;(try (with_reducible rfl))
            rotate_left
            try simp only [Act.put,List.setIfInBounds_toArray,List.set_cons_zero,List.set_cons_succ]
            refine wpAnyH_take (i:=23) (oi:={ dst:=some 38,op:=_,type:=_,pos:=_,after:=_,guard:=_ }) (v:=?_) rfl (by kernel_rfl) (by kernel_rfl) (by kernel_rfl) (fun _ _ _ h=>h) (Or.inl ⟨by rfl,?_⟩) (by assumption) ?_
            rotate_left
            · intro w hSw;(try dsimp only at hSw);go_simp;(try (with_reducible rfl))
            rotate_left
            try simp only [Act.put,List.setIfInBounds_toArray,List.set_cons_zero,List.set_cons_succ]
            refine wpAnyH_take (i:=24) (oi:={ dst:=some 39,op:=_,type:=_,pos:=_,after:=_,guard:=_ }) (v:=?_) rfl (by kernel_rfl) (by kernel_rfl) (by kernel_rfl) (fun _ _ _ h=>h) (Or.inl ⟨by rfl,?_⟩) (by assumption) ?_
            rotate_left
            · intro w hSw;(try dsimp only at hSw);go_simp;(try (with_reducible rfl))
            rotate_left
            try simp only [Act.put,List.setIfInBounds_toArray,List.set_cons_zero,List.set_cons_succ]
            refine wpAnyH_take (i:=25) (oi:={ dst:=some 40,op:=_,type:=_,pos:=_,after:=_,guard:=_ }) (v:=?_) rfl (by kernel_rfl) (by kernel_rfl) (by kernel_rfl) (fun _ _ _ h=>h) (Or.inl ⟨by rfl,?_⟩) (by assumption) ?_
            rotate_left
            · intro w hSw;(try dsimp only at hSw);go_simp;(try (with_reducible rfl))
            rotate_left
            try simp only [Act.put,List.setIfInBounds_toArray,List.set_cons_zero,List.set_cons_succ]
            refine wpAnyH_take (i:=26) (oi:={ dst:=some 41,op:=_,type:=_,pos:=_,after:=_,guard:=_ }) (v:=?_) rfl (by kernel_rfl) (by kernel_rfl) (by kernel_rfl) (fun _ _ _ h=>h) (Or.inl ⟨by rfl,?_⟩) (by assumption) ?_
            rotate_left
            · intro w hSw;(try dsimp only at hSw);go_simp;(try (with_reducible rfl))
            rotate_left
            try simp only [Act.put,List.setIfInBounds_toArray,List.set_cons_zero,List.set_cons_succ]
            refine wpAnyH_done (by kernel_rfl) ?_ _
            have HW4:Hid (Ext w w4∧Blk w4 w.heap.size #[.bool true,.slice (some ⟨b,off,none⟩) n.entries.length ec,.slice ka n.keys.length kc,.slice ia n.kids.length ic] 26):=Lib.hid ⟨HW.out.1.drew.trans hm4,HW.out.2.drew.ext hm4⟩
            clear hm4 y1 z0 z1 z2 z3 b1 c0 c1 c2 c3 hHeld
            go_wp2_with fail
            go_roundg (gk - 1)
            case measure=>omega
            case rel=>exact ⟨k+1,by omega,by go_num,HS2,HW4⟩
    · have b2:=HW.out.2.cell (o:=2) (v:=.slice ka n.keys.length kc) rfl
      have b3:=HW.out.2.cell (o:=3) (v:=.slice ia n.kids.length ic) rfl
      have HKL:Hid (k=n.entries.length):=Lib.hid (by omega)
      have HR:Hid (rightN n=((n.keys.isEmpty && n.kids.isEmpty) && decide (n.entries.length≤65535))):=Lib.hid (by
        rw [right_leaf HLF.out]
        unfold leafB
        have h1:n.entries.all rightE=true:=all_done HKL.out HS.out.1
        have h2:risingS (n.entries.map (·.key))=true:=upTo_all (k:=k) HS.out.2 (by rw [List.length_map,HKL.out];exact Nat.le_refl _)
        rw [h1,h2]
        simp)
      by_cases h1:n.keys.length=0
      · have h1b:((n.keys.length:Int) == 0)=true:=by rw [beq_iff_eq];omega
        have h1e:n.keys.isEmpty=true:=by rw [List.isEmpty_iff];exact List.eq_nil_of_length_eq_zero h1
        by_cases h2:n.kids.length=0
        · have h2b:((n.kids.length:Int) == 0)=true:=by rw [beq_iff_eq];omega
          have h2e:n.kids.isEmpty=true:=by rw [List.isEmpty_iff];exact List.eq_nil_of_length_eq_zero h2
          have HR2:Hid (rightN n=decide ((n.entries.length:Int)≤65535)):=Lib.hid (by
            rw [HR.out,h1e,h2e]
            simp
            omega)
          clear h1 h2 h1e h2e
          go_wp2_with fail
          go_ret
          exact ⟨by rw [HR2.out];rfl,HW.out.1⟩
        · have h2b:((n.kids.length:Int) == 0)=false:=by rw [beq_eq_false_iff_ne];omega
          have h2e:n.kids.isEmpty=false:=by
            cases hk:n.kids with
            | nil=>rw [hk] at h2;exact absurd rfl h2
            | cons _ _=>rfl
          have HR2:Hid (rightN n=false):=Lib.hid (by rw [HR.out,h2e];simp)
          clear h1 h2 h1e h2e
          go_wp2_with fail
          go_ret
          exact ⟨by rw [HR2.out];rfl,HW.out.1⟩
      · have h1b:((n.keys.length:Int) == 0)=false:=by rw [beq_eq_false_iff_ne];omega
        have h1e:n.keys.isEmpty=false:=by
          cases hk:n.keys with
          | nil=>rw [hk] at h1;exact absurd rfl h1
          | cons _ _=>rfl
        have HR2:Hid (rightN n=false):=Lib.hid (by rw [HR.out,h1e];simp)
        clear h1 h1e
        go_wp2_with fail
        go_ret
        exact ⟨by rw [HR2.out];rfl,HW.out.1⟩
end
end Go.Proofs.YtphafjmdhmpkbaaGreatDoor
