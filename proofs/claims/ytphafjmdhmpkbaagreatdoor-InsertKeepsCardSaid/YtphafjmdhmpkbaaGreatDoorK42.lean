/- A pager of which all pages are known: a tree's own are. lookup.Get and lookup.Walk of a tree. | law13.short, pairs, whole. | law13.pairs. | law13.whole. | InsertPlays holds. -/
import Derived.Test.YtphafjmdhmpkbaaGreatDoorK36
import Derived.Test.YtphafjmdhmpkbaaGreatDoorK37
import Derived.Test.YtphafjmdhmpkbaaGreatDoorK41
import Derived.Test.YtphafjmdhmpkbaaGreatDoorK24
import Derived.Test.YtphafjmdhmpkbaaGreatDoorK38
import Derived.Test.YtphafjmdhmpkbaaGreatDoorK05
import Derived.Deep.RegionHeld3
import Derived.Test.YtphafjmdhmpkbaaGreatDoorK25
import Derived.Test.YtphafjmdhmpkbaaGreatDoorK19
import Derived.Test.YtphafjmdhmpkbaaGreatDoorK39
namespace Go.Proofs.YtphafjmdhmpkbaaGreatDoor
open Go.RowKit
structure GLe (G H:GA):Prop where
  blocks:H.blocks=G.blocks
  size:H.size=G.size
  cost:H.cost=G.cost
  look:H.look=G.look
  last:H.last=G.last
  view:∀ id r,G.view id=some r→H.view id=some r
section
variable {P F:Nat→Prop} {ad:Nat→Addr} {w:World} {c s:Nat} {G H:GA} {l:List Nat}
theorem PgR.tot (h:PgR F w P c s G l):∃ H,GLe G H∧H.total∧PgR F w P c s H l:=by
  obtain ⟨d,sb,bvs,Pd,b2,C,h1,h2,h3,h4,h5,h6,h7⟩:=h
  exact ⟨{ G with view:=fun id=>some (C.vw id) },⟨rfl,rfl,rfl,rfl,rfl,fun id r hr=>congrArg some (h3.view id r hr)⟩,fun i _=>⟨_,rfl⟩,d,sb,bvs,Pd,b2,C,h1,h2,⟨h3.blocks,h3.size,fun id r hr=>Option.some.inj hr,h3.look,h3.last,h3.cost⟩,h4,h5,h6,h7⟩
theorem PgR.le (hl:GLe G H) (h:PgR F w P c s H l):PgR F w P c s G l:=by
  obtain ⟨d,sb,bvs,Pd,b2,C,h1,h2,h3,h4,h5,h6,h7⟩:=h
  exact ⟨d,sb,bvs,Pd,b2,C,h1,h2,⟨h3.blocks.trans hl.blocks,h3.size.trans hl.size,fun id r hr=>h3.view id r (hl.view id r hr),fun id b hb=>h3.look id b (by rw [hl.look];exact hb),fun id b hb=>h3.last id b (by rw [hl.last];exact hb),by rw [← hl.cost];exact h3.cost⟩,by rw [← hl.cost];exact h4,h5,h6,h7⟩
end
section
variable {G H:GA} {gen:Nat}
theorem EntC.known {e:EntryA} {v:ByteArray} {ids:List Nat} (h:EntC G gen e v ids):∀ i ∈ ids,∃ r,G.view i=some r:=by
  intro i hi
  rcases h with ⟨_,_,rfl⟩ | ⟨_,h⟩
  · simp at hi
  · obtain ⟨g,_,hp⟩:=h.page
    obtain ⟨k,hk,rfl⟩:=List.getElem_of_mem hi
    have:=hp k hk
    rw [show ids.getD k 0=ids[k] by simp [List.getD,hk]] at this
    exact ⟨_,this⟩
theorem Ents.known {es:List EntryA} {ps:List PairS} {q:List Nat} (h:Ents G gen es ps q):∀ i ∈ q,∃ r,G.view i=some r:=by
  induction h with
  | nil=>intro i hi;simp at hi
  | cons _ h2 _ ih=>intro i hi;exact (List.mem_append.1 hi).elim (h2.known i) (ih i)
theorem Kids.known {T:TreeT} {lo:ByteArray} {hi:Option ByteArray} {kk:List ByteArray} {cc:List Int} {ps:List PairS} {q:List Nat} (hT:∀ lo hi c ps q,T lo hi c ps q→∀ i ∈ q,∃ r,G.view i=some r) (h:Kids T lo hi kk cc ps q):∀ i ∈ q,∃ r,G.view i=some r:=by
  induction h with
  | one h=>exact hT _ _ _ _ _ h
  | cons h1 _ _ ih=>intro i hi;exact (List.mem_append.1 hi).elim (hT _ _ _ _ _ h1 i) (ih i)
theorem TrD.known:∀ (d:Nat) (lo:ByteArray) (hi:Option ByteArray) (id:Nat) (ps:List PairS) (q:List Nat),TrD G gen d lo hi id ps q→∀ i ∈ q,∃ r,G.view i=some r
  | 0,_,_,_,_,_,h=>h.elim
  | d+1,lo,hi,id,ps,pgs,h=>by
    obtain ⟨n,q,h1,_,rfl,h3⟩:=h
    intro i hi
    rcases List.mem_cons.1 hi with rfl | hi
    · obtain ⟨p,hp,_⟩:=h1.page;exact ⟨_,hp⟩
    · rcases h3 with ⟨_,_,_,h4,_⟩ | ⟨_,h4⟩
      · exact h4.known i hi
      · exact h4.known (TrD.known d) i hi
theorem TD.known {root d:Nat} {ps:List PairS} {pgs:List Nat} (h:TD G gen root d ps pgs):∀ i ∈ pgs,∃ r,G.view i=some r:=by
  rcases h.tree with ⟨_,_,_,rfl⟩ | ⟨_,h⟩
  · intro i hi;simp at hi
  · exact TrD.known _ _ _ _ _ _ h
theorem TD.up {root d:Nat} {ps:List PairS} {pgs:List Nat} (h:TD G gen root d ps pgs) (hl:GLe G H):TD H gen root d ps pgs :=
  h.mono (Nat.le_refl _) hl.blocks hl.size (fun i hi=>by obtain ⟨r,hr⟩:=h.known i hi;rw [hl.view i r hr,hr])
end
section
variable {P F:Nat→Prop} {ad:Nat→Addr} {w:World} {c s:Nat} {G H:GA} {l:List Nat} {gen root d:Nat} {ps:List PairS} {pgs:List Nat}
theorem TD.rootlt (h:TD G gen root d ps pgs) (hb:G.blocks≤256):root < 256:=by
  rcases h.tree with ⟨rfl,_,_,_⟩ | ⟨_,hT⟩
  · omega
  · obtain ⟨r,hr⟩:=TrD.head _ _ _ _ _ _ hT
    have:=h.lt root (by rw [hr];simp)
    omega
theorem walkT_any (hL:Env F ad w) (hP:∀ k,P k→F k) (h:PgR F w P c s G l) (g:Nat) (hT:TD G gen root d ps pgs) (hg:gen≤g) (hs:256≤G.size) (hb:G.blocks≤256) :
    Calls Tryz.prog 41 #[pgV c s g,.int .i64 (root:Int)] w (PgDone F P ad w c s G l (fun F' w' e=>WalkRes F' ad w' (.inl ⟨iL pgs,ps.map (·.1),d⟩) e)):=by
  obtain ⟨H,hl,ht,hH⟩:=h.tot
  have hr:=hT.rootlt hb
  have hT2:=(hT.up hl).mono hg rfl rfl (fun _ _=>rfl)
  have hW:=lookWalk_any hL hP hH g (root:Int) ((Lit.wf_int_iff .i64 _).2 ⟨by show -9223372036854775808≤(root:Int);omega,by show (root:Int)≤9223372036854775807;omega⟩) (by rw [hl.blocks];exact hb) ht
  rw [hT2.walk (by rw [hl.size];exact hs) (by rw [hl.blocks];exact hb)] at hW
  refine hW.mono ?_
  rintro e w' ⟨P',F',hG,hN,hr⟩
  exact ⟨P',F',hG.le hl,hN,hr⟩
theorem getT_any (hL:Env F ad w) (hP:∀ k,P k→F k) (h:PgR F w P c s G l) (g:Nat) (hT:TD G gen root d ps pgs) (hs:256≤G.size) (hb:G.blocks≤256) (key:ByteArray) (hk:keyB key=true) :
    Calls Tryz.prog 58 #[pgV c s g,.int .i64 (root:Int),.string key] w (PgDone F P ad w c s G l (fun F' w' e=>LookRes F' ad w' (.inl (findP key ps)) e)):=by
  obtain ⟨H,hl,ht,hH⟩:=h.tot
  have hW:=look_any hL hP hH g (root:Int) key (ht.look _ _)
  rw [((hT.up hl).treeG (by rw [hl.size];exact hs) (by rw [hl.blocks];exact hb)).look hk] at hW
  refine hW.mono ?_
  rintro e w' ⟨P',F',hG,hN,hr⟩
  exact ⟨P',F',hG.le hl,hN,hr⟩
end
end Go.Proofs.YtphafjmdhmpkbaaGreatDoor
namespace Go.Proofs.YtphafjmdhmpkbaaGreatDoor
open Go.RowKit
attribute [local go_sem ↓] Go.wp_at_zero Go.wp_at_succ
def shortV (v:ByteArray):ByteArray:=v.extract 0 (min v.size 400)
theorem shortV_le (v:ByteArray):(shortV v).size≤400:=by unfold shortV;rw [ByteArray.size_extract];omega
theorem Tryz.pairSz:(Tryz.prog.info? 40).map (·.size)=some 2:=by kernel_rfl
set_option maxRecDepth 100000 in
set_option maxHeartbeats 1000000 in
theorem short13_any (w:World) (k v:ByteArray) :
    Calls Tryz.prog 25 #[.agg #[.string k,.string v]] w fun e w'=>e=.returned (.agg #[.string k,.string (shortV v)])∧Ext w w':=by
  obtain ⟨w1,hw1⟩:∃ w1,w1=(w.alloc (.cells #[.string k,.string v] 40)).alloc (.cells #[.string ⟨#[]⟩,.string ⟨#[]⟩] 40):=⟨_,rfl⟩
  have hA:Blk w1 w.heap.size #[.string k,.string v] 40:=by rw [hw1];exact (Blk.new w _ _).alloc _
  have hB:Blk w1 (w.heap.size+1) #[.string ⟨#[]⟩,.string ⟨#[]⟩] 40:=by rw [hw1];exact heap_at (by simp)
  have hm:Ext w w1:=by rw [hw1];exact ((Mods.refl _ w).alloc _).alloc _
  have hz:w1.heap.size=w.heap.size+2:=by rw [hw1];simp
  obtain ⟨z,hzz⟩:∃ z,z=min v.size 400:=⟨_,rfl⟩
  have hmin:min (v.size:Int) 400=(z:Int):=by omega
  have hz1:(0:Int)≤(z:Int):=by omega
  have hz2:(z:Int)≤(v.size:Int):=by omega
  have a0:=hA.cell (o:=0) rfl
  have a1:=hA.cell (o:=1) rfl
  have b0:=hB.cell (o:=0) rfl
  have b1:=hB.cell (o:=1) rfl
  have bf:=hB.frozen
  have HA:=Lib.hid hA
  have HB:=Lib.hid hB
  have HM:=Lib.hid hm
  have HZ:Hid (shortV v=v.extract 0 z):=Lib.hid (by unfold shortV;rw [hzz])
  have HW:=Lib.hid hw1
  have HF:Hid (Blk ((w1.setCell ⟨w.heap.size+1,0,none⟩ (.string k)).setCell ⟨w.heap.size+1,1,none⟩ (.string (v.extract 0 z))).drew (w.heap.size+1) #[.string k,.string (v.extract 0 z)] 40):=Lib.hid (by simpa using ((hB.set 0 (.string k)).set 1 (.string (v.extract 0 z))).drew)
  have HX:Hid (Ext w ((w1.setCell ⟨w.heap.size+1,0,none⟩ (.string k)).setCell ⟨w.heap.size+1,1,none⟩ (.string (v.extract 0 z))).drew):=Lib.hid (((hm.setCell (.inl (by show w.heap.size≤w.heap.size+1;omega)) _).setCell (.inl (by show w.heap.size≤w.heap.size+1;omega)) _).drew)
  clear hA hB hm hzz hw1
  go_enter Tryz.func25, Tryz.ntmps25
  go_wp2_with fail
  rw [← HW.out]
  go_region_law (fail)
  all_goals
    go_wp2_with fail
    refine bodyPost_ret (results_cell_row rfl _ _ (w.heap.size+1) 40 #[.string k,.string (v.extract 0 z)] (0,0) _ rfl HF.out Tryz.underlying40 rfl Tryz.pairSz) rfl ?_
    exact ⟨by rw [HZ.out],HX.out⟩
section
variable {P F:Nat→Prop} {ad:Nat→Addr} {w:World} {c s:Nat} {G:GA} {l:List Nat} {gen root d:Nat} {ps:List PairS} {pgs:List Nat}
set_option maxRecDepth 100000 in
set_option maxHeartbeats 4000000 in
theorem pairs13_any (hL:Env F ad w) (hP:∀ k,P k→F k) (h:PgR F w P c s G l) (g:Nat) (hT:TD G gen root d ps pgs) (hs:256≤G.size) (hb:G.blocks≤256) (m:List PairS) (mv:Value) (hm:Sl F w 2 encP mv m) (hk:∀ x ∈ m,keyB x.1=true∧findP x.1 ps=some x.2) :
    Calls Tryz.prog 38 #[pgV c s g,.int .i64 (root:Int),mv] w (PgDone F P ad w c s G l (fun _ _ e=>e=.returned (.bool true))):=by
  obtain ⟨w1,hw1⟩:∃ w1,w1=w.alloc (.cells #[.pointer (some ⟨c,0,none⟩),.pointer (some ⟨s,0,none⟩),.int .u64 (g:Int)] 45):=⟨_,rfl⟩
  have m0:Ext w w1:=by rw [hw1];exact (Mods.refl _ w).alloc _
  have HN:=Lib.hid (Nxt.ext hL hP m0)
  have HB:=Lib.hid (show Blk w1 w.heap.size #[.pointer (some ⟨c,0,none⟩),.pointer (some ⟨s,0,none⟩),.int .u64 (g:Int)] 45 by rw [hw1];exact Blk.new w _ _)
  have HBP:Hid (¬ P w.heap.size):=Lib.hid (fun hp=>by have:=h.bd _ hp;omega)
  have HG:=Lib.hid (h.at m0)
  have HM:=Lib.hid (hm.ext m0)
  have HW1:=Lib.hid hw1
  have HT:=Lib.hid hT
  have HK:=Lib.hid hk
  obtain ⟨ma,mc,rfl,h1,h2,h3, -⟩:=hm
  unfold maxLen at h2
  clear hL hP h m0 hw1 hT hk
  unfold pgV
  go_enter Tryz.func38, Tryz.ntmps38
  go_wp2_with fail
  rw [← HW1.out]
  go_loopg [7] m.length (fun z v7 wr=>∃ (i:Nat) (P1 F1:Nat→Prop),i+z=m.length∧v7=.int .i64 (i:Int)∧Hid (PgR F1 wr P1 c s G l∧Nxt P P1 F F1 ad w wr∧Blk wr w.heap.size #[.pointer (some ⟨c,0,none⟩),.pointer (some ⟨s,0,none⟩),.int .u64 (g:Int)] 45 ∧ ¬ P1 w.heap.size∧Sl F1 wr 2 encP (.slice ma m.length mc) m))
  case atStart=>exact ⟨0,P,F,by omega,rfl,Lib.hid ⟨HG.out,HN.out,HB.out,HBP.out,HM.out⟩⟩
  case round =>
    obtain ⟨i,P1,F1,hiz,rfl,HS⟩:=hrel
    by_cases hlt:i < m.length
    · obtain ⟨q1,q2,q3,q4,q5⟩:=HS.out
      obtain ⟨x,hx⟩:∃ x,x=m[i]:=⟨_,rfl⟩
      have hkx:=HK.out x (by rw [hx];exact List.getElem_mem hlt)
      obtain ⟨qb,qoff,hqa,hqF,hc⟩:=q5.elemF hlt
      have d0:=hc 0 (.string x.1) (by rw [hx];rfl)
      have d1:=hc 1 (.string x.2) (by rw [hx];rfl)
      simp only [Nat.add_zero] at d0
      have hqP:¬ P1 qb:=fun hp=>hqF (q2.sub qb hp)
      have b0:=q3.cell (o:=0) rfl
      have b1:=q3.cell (o:=1) rfl
      have b2:=q3.cell (o:=2) rfl
      have hd:=(Mods.refl (fun _=>False) wr).drew
      have HGT:=getT_any (w:=wr.drew) (q2.env.mods hd.ext) q2.sub (q1.at hd) g HT.out hs hb x.1 hkx.1
      rw [hkx.2] at HGT
      unfold pgV at HGT
      have HGT:=Lib.hid HGT
      have Q1:=Lib.hid q1
      have Q2:=Lib.hid q2
      have Q3:=Lib.hid q3
      have Q4:=Lib.hid q4
      have Q5:=Lib.hid q5
      have QP:=Lib.hid hqP
      have i1:(0:Int)≤(i:Int):=by omega
      have i2:(i:Int) < (m.length:Int):=by omega
      subst hqa
      clear q1 q2 q3 q4 q5 hkx hc hx hqF hqP hd
      go_wp2_with fail
      go_region_held3 (fun w'=>w'.cell? ⟨w.heap.size,0,none⟩=some (.pointer (some ⟨c,0,none⟩))∧w'.cell? ⟨w.heap.size,1,none⟩=some (.pointer (some ⟨s,0,none⟩))∧w'.cell? ⟨w.heap.size,2,none⟩=some (.int .u64 (g:Int))∧w'.cell? ⟨qb,qoff+i * 2,none⟩=some (.string x.1))
        (first | (with_reducible exact ⟨b0,b1,b2,d0⟩) | (with_reducible exact ⟨y0,y1,y2,y3⟩) | go_keep)
        (first
          | (go_at_call 58;refine (HGT.out).mono ?_;rintro e w9 ⟨P9,F9,hG9,hN9,he⟩;unfold LookRes at he;subst he;have y0:=cellP hN9.stp.mods (w:=wr.drew) b0 Q4.out;have y1:=cellP hN9.stp.mods (w:=wr.drew) b1 Q4.out;have y2:=cellP hN9.stp.mods (w:=wr.drew) b2 Q4.out;have y3:=cellP hN9.stp.mods (w:=wr.drew) d0 QP.out;have y4:=cellP hN9.stp.mods (w:=wr.drew) d1 QP.out)
          | fail)
      go_wp2_with fail
      have hd:=(Mods.refl (fun _=>False) wr).drew
      have HR9:Hid (PgR F9 w9 P9 c s G l∧Nxt P P9 F F9 ad w w9∧Blk w9 w.heap.size #[.pointer (some ⟨c,0,none⟩),.pointer (some ⟨s,0,none⟩),.int .u64 (g:Int)] 45 ∧ ¬ P9 w.heap.size∧Sl F9 w9 2 encP (.slice (some ⟨qb,qoff,none⟩) m.length mc) m):=Lib.hid ⟨hG9,(Q2.out.trans (Nxt.ext Q2.out.env Q2.out.sub hd)).trans hN9,hN9.blk (Q3.out.ext hd) Q4.out,hN9.not (Q3.out.ext hd).lt Q4.out,hN9.sl Q2.out.sub (Q5.out.ext hd)⟩
      go_roundg (gk - 1)
      case measure=>omega
      case rel=>exact ⟨i+1,P9,F9,by omega,by go_num,HR9⟩
    · go_wp2_with fail
      go_ret
      exact ⟨P1,F1,HS.out.1,HS.out.2.1,rfl⟩
end
theorem findP_mem:∀ {l:List PairS},SortedP l→∀ x ∈ l,findP x.1 l=some x.2
  | [],_,x,h=>by simp at h
  | y :: l,hs,x,h=>by
    have h1:=List.pairwise_cons.1 hs
    rw [findP_cons]
    rcases List.mem_cons.1 h with rfl | h
    · rw [if_pos rfl]
    · rw [if_neg (ltS_ne (h1.1 x h)),findP_mem h1.2 x h]
theorem sameInts_t {F G:Nat→Prop} {w:World} (av bv:Value) (l:List Int) (ha:Sl F w 1 encI av l) (hb:Sl G w 1 encI bv l) :
    Calls Tryz.prog 44 #[av,bv] w fun e w'=>e=.returned (.bool true)∧Ext w w':=by
  have:=SameInts_any av bv l l ha hb
  rw [decide_eq_true rfl] at this
  exact this
section
variable {P F:Nat→Prop} {ad:Nat→Addr} {w:World} {c s:Nat} {G:GA} {l:List Nat} {root d n:Nat} {ps:List PairS} {pgs:List Nat}
set_option maxRecDepth 100000 in
set_option maxHeartbeats 4000000 in
theorem whole13_any (hL:Env F ad w) (hP:∀ k,P k→F k) (h:PgR F w P c s G l) (hW:Lot n G l root d ps pgs) (hn:n≤256) (hlen:ps.length≤1000) (pv:Value) (hm:Sl F w 2 encP pv ps) :
    Calls Tryz.prog 31 #[pgV c s 5,.int .i64 (root:Int),pv,.int .i64 (n:Int)] w (PgDone F P ad w c s G l (fun _ _ e=>e=.returned (.bool true))):=by
  obtain ⟨w1,hw1⟩:∃ w1,w1=w.alloc (.cells #[.pointer (some ⟨c,0,none⟩),.pointer (some ⟨s,0,none⟩),.int .u64 5] 45):=⟨_,rfl⟩
  have m0:Ext w w1:=by rw [hw1];exact (Mods.refl _ w).alloc _
  have HN:=Lib.hid (Nxt.ext hL hP m0)
  have HB:=Lib.hid (show Blk w1 w.heap.size #[.pointer (some ⟨c,0,none⟩),.pointer (some ⟨s,0,none⟩),.int .u64 5] 45 by rw [hw1];exact Blk.new w _ _)
  have HBP:Hid (¬ P w.heap.size):=Lib.hid (fun hp=>by have:=h.bd _ hp;omega)
  have HG:=Lib.hid (h.at m0)
  have HM:=Lib.hid (hm.ext m0)
  have HW:=Lib.hid hW
  have hs:256≤G.size:=hW.ctx.s256
  have hb:G.blocks≤256:=hW.ctx.b256
  have HWK:=walkT_any HN.out.env HN.out.sub HG.out 5 hW.td (Nat.le_refl _) hs hb
  rw [pgV5] at HWK ⊢
  have HWK:=Lib.hid HWK
  have HW1:=Lib.hid hw1
  have HS:=Lib.hid (And.intro hs hb)
  obtain ⟨ma,mc,rfl,h1,h2,h3, -⟩:=hm
  unfold maxLen at h2
  clear hL hP h m0 hw1 hW hs hb
  go_enter Tryz.func31, Tryz.ntmps31
  go_wp2_with fail
  rw [← HW1.out]
  refine HWK.out.mono ?_
  rintro e w2 ⟨P2,F2,hG2,hN2,kpv,kkv,rfl,hsp,hsk⟩
  have HSP:=Lib.hid hsp
  have HSK:=Lib.hid hsk
  obtain ⟨ra,rc,rfl, -, -, -, -⟩:=hsp
  obtain ⟨ka,kc,rfl, -, -, -, -⟩:=hsk
  have HG2:=Lib.hid hG2
  have HN2:=Lib.hid hN2
  have HB2:=Lib.hid (hN2.blk HB.out HBP.out)
  have HBP2:=Lib.hid (hN2.not HB.out.lt HBP.out)
  have HM2:=Lib.hid (hN2.sl HN.out.sub HM.out)
  simp only at HSP HSK ⊢
  obtain ⟨np,hnp⟩:∃ np,np=(iL pgs).length:=⟨_,rfl⟩
  obtain ⟨nk,hnk⟩:∃ nk,nk=(ps.map (·.1)).length:=⟨_,rfl⟩
  rw [← hnp] at HSP ⊢
  rw [← hnk] at HSK ⊢
  have m3:Ext w2 (w2.alloc (.cells #[.slice ra np rc,.slice ka nk kc,.int .i64 (d:Int)] 78)):=(Mods.refl _ w2).alloc _
  have M3:=Lib.hid m3
  have hRB:=Blk.new w2 #[.slice ra np rc,.slice ka nk kc,.int .i64 (d:Int)] 78
  have y0:=hRB.cell (o:=0) (v:=.slice ra np rc) rfl
  have y1:=hRB.cell (o:=1) (v:=.slice ka nk kc) rfl
  have HRB:=Lib.hid hRB
  obtain ⟨w3,hw3⟩:∃ w3,w3=w2.alloc (.cells #[.slice ra np rc,.slice ka nk kc,.int .i64 (d:Int)] 78):=⟨_,rfl⟩
  rw [← hw3] at m3 M3 hRB HRB y0 y1
  have hd:=(Mods.refl (fun _=>False) w3).drew
  have HKY:=Lib.hid (keys11_any (w:=w3.drew) ps (.slice ma ps.length mc) ((HM2.out.ext m3).ext hd) (by omega))
  have HSTX:Hid (∀ (w5:World) (kv5:Value),Ext w3.drew w5→Own (fun _=>False) w5 w3.drew.heap.size 9 1 encS kv5 (ps.map (·.1)) → Calls Tryz.prog 42 #[.slice ka nk kc,kv5] w5 fun e w'=>e=.returned (.bool true)∧Ext w5 w'):=Lib.hid (fun w5 kv5 hm hO=>sameTexts_t (F:=F2) (G:=F2) (.slice ka nk kc) kv5 (ps.map (·.1)) ((HSK.out.ext m3).ext (hd.trans hm)) (hO.slF (fun k hk=>Nat.lt_of_lt_of_le (HN2.out.env.lt k hk) m3.size) encS_ok.len (by rw [List.length_map];omega)))
  have HWW:=Lib.hid hw3
  clear hG2 hN2 hnp hnk m3 hRB hd hw3
  go_wp2_with fail
  rw [← HWW.out]
  go_region_held3 (fun w'=>w'.cell? ⟨w2.heap.size,0,none⟩=some (.slice ra np rc)∧w'.cell? ⟨w2.heap.size,1,none⟩=some (.slice ka nk kc))
    (first | (with_reducible exact ⟨y0,y1⟩) | (with_reducible exact ⟨c0,c1⟩) | (with_reducible exact ⟨d0,d1⟩) | go_keep)
    (first
      | (go_at_call 43;(with_reducible refine (HKY.out).mono ?_);rintro x w5 ⟨kv5,rfl,hO5,hm5⟩;have c0:=cellE (w:=w3.drew) hm5 y0;have c1:=cellE (w:=w3.drew) hm5 y1)
      | (go_at_call 42;(with_reducible refine (HSTX.out _ _ hm5 hO5).mono ?_);rintro x w6 ⟨rfl,hm6⟩;have d0:=cellE hm6 c0;have d1:=cellE hm6 c1)
      | fail)
  have HX6:=Lib.hid (((M3.out.trans (Mods.refl _ w3).drew).trans hm5).trans hm6)
  have HS6:=Lib.hid (HSP.out.ext HX6.out)
  have HM6:=Lib.hid (HM2.out.ext HX6.out)
  have hB6:=HB2.out.ext HX6.out
  have b0:=hB6.cell (o:=0) (v:=.pointer (some ⟨c,0,none⟩)) rfl
  have b1:=hB6.cell (o:=1) (v:=.pointer (some ⟨s,0,none⟩)) rfl
  have b2:=hB6.cell (o:=2) (v:=.int .u64 5) rfl
  have HB6:=Lib.hid hB6
  have HG6:=Lib.hid (HG2.out.at HX6.out)
  have HN6:=Lib.hid ((HN.out.trans HN2.out).trans (Nxt.ext HN2.out.env HN2.out.sub HX6.out))
  have hd:=(Mods.refl (fun _=>False) w6).drew
  have hUS:=pgUsed (w:=w6.drew) (HG6.out.at hd)
  rw [HW.out.used] at hUS
  have HUS:=Lib.hid hUS
  have HRP:Hid (¬ P2 w2.heap.size):=Lib.hid (fun hp=>Nat.lt_irrefl _ (HN2.out.env.lt _ (HN2.out.sub _ hp)))
  have HFB:=Lib.hid (fun k (hk:F2 k)=>HN6.out.env.lt k hk)
  have HU13:=Lib.hid (fun W (hm:Ext w6.drew W)=>Used13_any (w:=W) (iL pgs) (.slice ra np rc) ((HS6.out.ext hd).ext hm) n hn)
  have HSI:=Lib.hid (fun (W1 W2:World) (u1 u2:Value) (hm1:Ext w6.drew W1) (hO1:Own (fun _=>False) W1 w6.drew.heap.size 3 1 encI u1 (usedP (iL pgs) n)) (hm2:Ext W1 W2) (hO2:Own (fun _=>False) W2 W1.heap.size 3 1 encI u2 (usedP (iL pgs) n))=>sameInts_t (F:=F2) (G:=F2) (w:=W2) u1 u2 (usedP (iL pgs) n) ((hO1.slF (fun k hk=>HFB.out k hk) encI_ok.len (by have:=usedP_len (iL pgs) n;omega)).ext hm2) (hO2.slF (fun k hk=>Nat.lt_of_lt_of_le (HFB.out k hk) hm1.size) encI_ok.len (by have:=usedP_len (iL pgs) n;omega)))
  have HPR:=Lib.hid (fun W (hm:Ext w6.drew W)=>pairs13_any (w:=W) ((HN6.out.env.mods hd.ext).mods hm.ext) HN6.out.sub ((HG6.out.at hd).at hm) 5 HW.out.td HS.out.1 HS.out.2 ps (.slice ma ps.length mc) ((HM6.out.ext hd).ext hm) (fun x hx=>⟨(HW.out.td.ok x hx).1,findP_mem HW.out.td.sorted x hx⟩))
  rw [pgV5] at HPR
  clear hm5 hm6 hO5 y0 y1 c0 c1 hB6 hd hUS
  go_wp2_with fail
  go_region_held3 (fun w'=>w'.cell? ⟨w.heap.size,0,none⟩=some (.pointer (some ⟨c,0,none⟩))∧w'.cell? ⟨w.heap.size,1,none⟩=some (.pointer (some ⟨s,0,none⟩))∧w'.cell? ⟨w.heap.size,2,none⟩=some (.int .u64 5)∧w'.cell? ⟨w2.heap.size,0,none⟩=some (.slice ra np rc))
    (first | (with_reducible exact ⟨b0,b1,b2,d0⟩) | (with_reducible exact ⟨x0,x1,x2,x3⟩) | (with_reducible exact ⟨y0,y1,y2,y3⟩) | (with_reducible exact ⟨z0,z1,z2,z3⟩) | (with_reducible exact ⟨a0,a1,a2,a3⟩) | go_keep)
    (first
      | (go_at_call 37;(with_reducible refine (HUS.out).mono ?_);rintro x w7 ⟨u7,rfl,hO7,hm7⟩;have x0:=cellE (w:=w6.drew) hm7 b0;have x1:=cellE (w:=w6.drew) hm7 b1;have x2:=cellE (w:=w6.drew) hm7 b2;have x3:=cellE (w:=w6.drew) hm7 d0)
      | (go_at_call 52;(with_reducible refine (HU13.out _ hm7).mono ?_);rintro x w8 ⟨u8,rfl,hO8,hm8⟩;have y0:=cellE hm8 x0;have y1:=cellE hm8 x1;have y2:=cellE hm8 x2;have y3:=cellE hm8 x3)
      | (go_at_call 44;(with_reducible refine (HSI.out _ _ _ _ hm7 hO7 hm8 hO8).mono ?_);rintro x w9 ⟨rfl,hm9⟩;have z0:=cellE hm9 y0;have z1:=cellE hm9 y1;have z2:=cellE hm9 y2;have z3:=cellE hm9 y3)
      | (go_at_call 38;(with_reducible refine (HPR.out _ ((hm7.trans hm8).trans hm9)).mono ?_);rintro x w10 ⟨P10,F10,hG10,hN10,rfl⟩;have a0:=cellP hN10.stp.mods z0 HBP2.out;have a1:=cellP hN10.stp.mods z1 HBP2.out;have a2:=cellP hN10.stp.mods z2 HBP2.out;have a3:=cellP hN10.stp.mods z3 HRP.out)
      | fail)
  go_wp2_with fail
  go_ret
  exact ⟨P10,F10,hG10,(HN6.out.trans (Nxt.ext HN6.out.env HN6.out.sub ((((Mods.refl _ w6).drew.trans hm7).trans hm8).trans hm9))).trans hN10,rfl⟩
end
def PlS (ad:Nat→Addr) (w wr:World) (B c s k root:Nat) (wv:Value):Prop :=
  ∃ (P F:Nat→Prop) (G:GA) (l:List Nat) (d:Nat) (ps:List PairS) (pgs:List Nat),LG ad w wr B c s 5 P F G l∧Lawn 250 G l root d ps pgs∧G.cost≤61 * k∧ps.length≤k∧Sl F wr 2 encP wv ps
set_option maxRecDepth 100000 in
set_option maxHeartbeats 4000000 in
theorem InsertPlays_any {ad:Nat→Addr} {w:World} (hL:Env NoB ad w) (hfu:Full ad) (m:List PairS) (mv:Value) (hm:Sl NoB w 2 encP mv m) :
    Calls Tryz.prog 5 #[mv] w fun e w'=>e=.returned (.bool true)∧Ext w w':=by
  have HM:=Lib.hid hm

  have HL:=Lib.hid hL
  have HFU:=Lib.hid hfu
  obtain ⟨ma,mc,rfl,h1,h2,h3, -⟩:=hm
  unfold maxLen at h2
  clear hL hfu
  go_enter Tryz.func5, Tryz.ntmps5
  go_wp2_with fail
  refine (pager13_any HL.out 250 (by omega) (by omega)).mono ?_
  rintro e w1 ⟨c,s,P,F,rfl,hG,hN⟩
  have hS:=LG.startZ (gen:=5) hG hN 5 rfl
  have t0:=hS.c0
  have t1:=hS.c1
  have t2:_=some (Value.int .u64 5):=hS.c2
  have HS:=Lib.hid hS
  have HN1:=Lib.hid hN
  rw [pgV5]
  clear hG hN hS
  go_wp2_with fail
  have HS1:=Lib.hid (HS.out.ext ((Mods.refl _ _).alloc (.cells #[] 40)))
  go_loopg [5,6,7] 30 (fun z v5 v6 v7 wr=>∃ (k root:Nat) (wv:Value),k+z=30∧v5=.int .i64 (root:Int)∧wv=v6∧v7=.int .i64 (k:Int)∧Hid (PlS ad w wr w1.heap.size c s k root wv))
  case atStart=>exact ⟨0,0,_,by omega,rfl,rfl,rfl,Lib.hid ⟨P,F,_,_,0,[],[],HS1.out,Lawn.new 250 (.inl rfl),by show (0:Nat)≤_;omega,by simp,⟨_,_,rfl,Nat.le_refl _,by simp [maxLen],by simp,.inl rfl⟩⟩⟩
  case round =>
    obtain ⟨k,root,wv,hk,rfl,rfl,rfl,HP⟩:=hrel
    by_cases hgo:k < m.length∧k < 30
    · obtain ⟨g1,g2⟩:=hgo
      obtain ⟨P1,F1,G1,l1,d1,ps1,pgs1,hS1,hW1,hc1,hl1,hs1⟩:=HP.out
      obtain ⟨x,hx⟩:∃ x,x=m[k]:=⟨_,rfl⟩
      obtain ⟨qb,qoff,hqa,hc⟩:=HM.out.elem g1 hS1.ext0
      have e0:=hc 0 (.string x.1) (by rw [hx];rfl)
      have e1:=hc 1 (.string x.2) (by rw [hx];rfl)
      simp only [Nat.add_zero] at e0
      have i1:(0:Int)≤(k:Int):=by omega
      have i2:(k:Int) < (m.length:Int):=by omega
      have i3:(k:Int) < 30:=by omega
      subst hqa
      have HXM:Hid (x ∈ m):=Lib.hid (by rw [hx];exact List.getElem_mem g1)
      have HSH:=Lib.hid (short13_any wr x.1 x.2)
      obtain ⟨key,v0⟩:=x
      obtain ⟨v,hv⟩:∃ v,v=shortV v0:=⟨_,rfl⟩
      have HVV:Hid (v.size≤400):=Lib.hid (by rw [hv];exact shortV_le v0)
      simp only at HSH e0 e1
      rw [← hv] at HSH
      clear hS1 hW1 hc1 hl1 hs1 hc hx hv
      go_wp2_with fail
      refine HSH.out.mono ?_
      rintro e w2 ⟨rfl,hm2⟩
      obtain ⟨P1,F1,G1,l1,d1,ps1,pgs1,hS1,hW1,hc1,hl1,hs1⟩:=HP.out
      have hS2:=hS1.ext hm2
      have b0:=hS2.c0
      have b1:=hS2.c1
      have b2:_=some (Value.int .u64 5):=hS2.c2
      have HS2:=Lib.hid hS2
      have HSL:=Lib.hid (hs1.ext hm2)
      have HLW:=Lib.hid hW1
      have HCO:=Lib.hid hc1
      have HLN:=Lib.hid hl1
      have b0:=cell_alloc b0 (.cells #[.string key,.string v] 40)
      have b1:=cell_alloc b1 (.cells #[.string key,.string v] 40)
      have b2:=cell_alloc b2 (.cells #[.string key,.string v] 40)
      have hS3:=HS2.out.ext ((Mods.refl _ w2).alloc (.cells #[.string key,.string v] 40))
      have HS3:=Lib.hid hS3
      have HSL3:=Lib.hid (HSL.out.ext ((Mods.refl _ w2).alloc (.cells #[.string key,.string v] 40)))
      have HPN:=Lib.hid (fun hkb:keyB key=false=>putNo_any (P:=P1) (c:=c) (s:=s) hS3.env 5 (root:Int) key v (.inl HFU.out) [-1] 2 (by unfold checkK;rw [if_pos hkb]))
      clear hS1 hW1 hc1 hl1 hs1 hS2 hm2 hS3
      go_wp2_with fail
      cases hkb:keyB key with
      | false =>
        have HPN:=Lib.hid (HPN.out hkb)
        rw [pgV5] at HPN
        have HK:=Lib.hid (fun W=>key07_t key W false hkb)
        clear hkb
        refine HPN.out.mono ?_
        rintro e w4 ⟨f,el,rfl,hE4,hm4⟩
        have HS4:=Lib.hid (HS3.out.ext hm4)
        have HSL4:=Lib.hid (HSL3.out.ext hm4)
        have HE4:=Lib.hid hE4
        have hX:=Blk.new w2 #[.string key,.string v] 40
        have x0:=(hX.ext hm4).cell (o:=0) (v:=.string key) rfl
        clear hE4 hm4 hX
        go_wp2_with fail
        refine (HK.out _).mono ?_
        rintro e w5 ⟨rfl,rfl⟩
        go_wp2_with fail
        refine (tells13_k HS4.out.env HFU.out HE4.out 2 (by omega) rfl).mono ?_
        rintro e w5 ⟨rfl,rfl⟩
        go_wp2_with fail
        go_roundg (gk - 1)
        case measure=>omega
        case rel=>exact ⟨k+1,root,_,by omega,rfl,rfl,by go_num,Lib.hid ⟨P1,F1,G1,l1,d1,ps1,pgs1,HS4.out,HLW.out,by have:=HCO.out;omega,by have:=HLN.out;omega,HSL4.out⟩⟩
      | true =>
        obtain ⟨G2,l2,root2,d2,pgs2,hpr,hlw2,hco2,hr2⟩:=HLW.out.fits (by have:=HLN.out;omega) hkb HVV.out
        have HPT:=insPutR_any (v:=v) (gen:=5) (w:=w2.alloc (.cells #[.string key,.string v] 40)) HS3.out.env HS3.out.sub HS3.out.pg (by omega) HLW.out.ctx HLW.out.td HLW.out.use hkb (by have:=HVV.out;omega) (by have:=HCO.out;omega)
        rw [hpr,pgV5] at HPT
        have HPT:=Lib.hid HPT
        have HLW2:=Lib.hid hlw2
        have HCO2:=Lib.hid hco2
        have HK:=Lib.hid (fun W=>key07_t key W true hkb)
        clear hkb hpr hlw2 hco2 hr2 HPN
        refine HPT.out.mono ?_
        rintro e w4 ⟨P4,F4,G4,l4,hG4,hN4,⟨i4,nw4,hr4,rfl⟩ | ⟨k4,f4,el4,hr4,_⟩⟩
        · simp only [Sum.inl.injEq,Prod.mk.injEq] at hr4
          obtain ⟨rfl,rfl,rfl,rfl⟩:=hr4
          have HS4:=Lib.hid (HS3.out.step hN4 hG4)
          have HSL4:=Lib.hid (hN4.sl HS3.out.sub HSL3.out)
          have HFD:=Lib.hid (fun W (hx:Ext w4 W)=>find11_any ps1 wv (HSL4.out.ext hx) (by have:=HLN.out;omega) key)
          have HWT:=Lib.hid (fun W (hx:Ext w4 W)=>with_any ps1 wv (HSL4.out.ext hx) (by have:=HLN.out;omega) key v true)
          have hX:=(Blk.new w2 #[.string key,.string v] 40).mods hN4.stp.mods (fun hp=>Nat.lt_irrefl _ (HS2.out.pg.bd _ hp))
          have x0:=hX.cell (o:=0) (v:=.string key) rfl
          have x1:=hX.cell (o:=1) (v:=.string v) rfl
          clear hG4 hN4 hX
          obtain ⟨o,ho⟩:∃ o,o=findP key ps1:=⟨_,rfl⟩
          rw [← ho] at HFD ⊢
          clear ho
          cases o
          all_goals
            go_wp2_with fail
            refine (HK.out _).mono ?_
            rintro e w5 ⟨rfl,rfl⟩
            go_wp2_with fail
            refine (HFD.out _ (Mods.refl _ w4)).mono ?_
            rintro e w5 ⟨rfl,rfl⟩
            go_wp2_with fail
            refine (HWT.out _ (Mods.refl _ w4)).mono ?_
            rintro e w5 ⟨v5,rfl,hO5,hm5⟩
            have hS5:=HS4.out.ext hm5
            have HSL5:=Lib.hid (hO5.slF (F:=F4) (fun k hk=>HS4.out.env.lt k hk) encP_ok.len (by have:=withP_len key v true ps1;have:=HLN.out;omega))
            have b0:=hS5.c0
            have b1:=hS5.c1
            have b2:_=some (Value.int .u64 5):=hS5.c2
            have HS5:=Lib.hid hS5
            clear hO5 hm5 hS5
            have HRR:Hid (∀ wz P9 F9,LG ad w wz w1.heap.size c s 5 P9 F9 G2 l2→Sl F9 wz 2 encP v5 (withP key v true ps1)→PlS ad w wz w1.heap.size c s (k+1) root2 v5):=Lib.hid (fun wz P9 F9 h1 h2=>⟨P9,F9,G2,l2,d2,_,pgs2,h1,HLW2.out,by have:=HCO.out;have:=HCO2.out;omega,by have:=withP_len key v true ps1;have:=HLN.out;omega,h2⟩)
            by_cases h4:(k:Int).tmod 4=0
            · have HWH:=whole13_any (w:=w5) HS5.out.env HS5.out.sub HS5.out.pg HLW2.out.lot (by omega) (by have:=withP_len key v true ps1;have:=HLN.out;omega) v5 HSL5.out
              rw [pgV5] at HWH
              rw [show ((250:Nat):Int)=250 from rfl] at HWH
              have HWH:=Lib.hid HWH
              go_wp2_with fail
              refine HWH.out.mono ?_
              rintro e w6 ⟨P6,F6,hG6,hN6,rfl⟩
              have HS6:=Lib.hid (HS5.out.step hN6 hG6)
              have HSL6:=Lib.hid (hN6.sl HS5.out.sub HSL5.out)
              clear hG6 hN6
              go_wp2_with fail
              go_roundg (gk - 1)
              case measure=>omega
              case rel=>exact ⟨k+1,root2,_,by omega,rfl,rfl,by go_num,Lib.hid (HRR.out _ _ _ HS6.out HSL6.out)⟩
            · go_wp2_with fail
              go_roundg (gk - 1)
              case measure=>omega
              case rel=>exact ⟨k+1,root2,_,by omega,rfl,rfl,by go_num,Lib.hid (HRR.out _ _ _ HS5.out HSL5.out)⟩
        · cases hr4
    · have HF:=Lib.hid HP.out
      obtain ⟨P1,F1,G1,l1,d1,ps1,pgs1,hS1,hW1,hc1,hl1,hs1⟩:=HP.out
      have HWH:=whole13_any (w:=wr) hS1.env hS1.sub hS1.pg hW1.lot (by omega) (by omega) wv hs1
      rw [pgV5] at HWH
      rw [show ((250:Nat):Int)=250 from rfl] at HWH
      have HWH:=Lib.hid HWH
      have b0:=hS1.c0
      have b1:=hS1.c1
      have b2:_=some (Value.int .u64 5):=hS1.c2
      have HS1:=Lib.hid hS1
      have hend:¬ ((k:Int) < (m.length:Int))∨((k:Int) < (m.length:Int)∧¬ (k:Int) < 30):=by omega
      clear hS1 hW1 hc1 hl1 hs1 hgo
      rcases hend with hend | ⟨hend,hend2⟩
      all_goals
        go_wp2_with fail
        refine HWH.out.mono ?_
        rintro e w2 hq
        obtain ⟨P2,F2,hS2,rfl⟩:=HS1.out.done hq
        have HX2:=Lib.hid hS2.ext0
        clear hq hS2
        go_wp2_with fail
        refine (awake13_any (HL.out.mods HX2.out.ext)).mono ?_
        rintro e w3 ⟨rfl,hm3⟩
        have HX3:=Lib.hid (HX2.out.trans hm3)
        clear hm3
        go_wp2_with fail
        go_ret
        exact ⟨rfl,HX3.out⟩
end Go.Proofs.YtphafjmdhmpkbaaGreatDoor
