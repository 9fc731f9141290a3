/- What was committed stays, whatever is put behind it. Plain. | InsertFull holds. -/
import Derived.Test.YtphafjmdhmpkbaaGreatDoorK36
import Derived.Test.YtphafjmdhmpkbaaGreatDoorK42
import Derived.Test.YtphafjmdhmpkbaaGreatDoorK45
import Derived.Test.YtphafjmdhmpkbaaGreatDoorK20
import Derived.Test.YtphafjmdhmpkbaaGreatDoorK39
import Derived.Test.YtphafjmdhmpkbaaGreatDoorK05
import Derived.Deep.RegionHeld3
import Derived.Deep.CutBlock
import Derived.Deep.DeepCutAuto
namespace Go.Proofs.YtphafjmdhmpkbaaGreatDoor
open Go.RowKit
section
variable {G H:GA} {gen:Nat}
theorem EntC.seen {e:EntryA} {v:ByteArray} {ids:List Nat} (h:EntC G gen e v ids):∀ i ∈ ids,∃ p,G.view i=some (.inl p):=by
  intro i hi
  rcases h with ⟨_,_,rfl⟩ | ⟨_,h⟩
  · simp at hi
  · obtain ⟨g,_,hp⟩:=h.page
    obtain ⟨k,hk,rfl⟩:=List.getElem_of_mem hi
    have:=hp k hk
    rw [show ids.getD k 0=ids[k] by simp [List.getD,hk]] at this
    exact ⟨_,this⟩
theorem Ents.seen {es:List EntryA} {ps:List PairS} {q:List Nat} (h:Ents G gen es ps q):∀ i ∈ q,∃ p,G.view i=some (.inl p):=by
  induction h with
  | nil=>intro i hi;simp at hi
  | cons _ h2 _ ih=>intro i hi;exact (List.mem_append.1 hi).elim (h2.seen i) (ih i)
theorem Kids.seen {T:TreeT} {lo:ByteArray} {hi:Option ByteArray} {kk:List ByteArray} {cc:List Int} {ps:List PairS} {q:List Nat} (hT:∀ lo hi c ps q,T lo hi c ps q→∀ i ∈ q,∃ p,G.view i=some (.inl p)) (h:Kids T lo hi kk cc ps q):∀ i ∈ q,∃ p,G.view i=some (.inl p):=by
  induction h with
  | one h=>exact hT _ _ _ _ _ h
  | cons h1 _ _ ih=>intro i hi;exact (List.mem_append.1 hi).elim (hT _ _ _ _ _ h1 i) (ih i)
theorem TrD.seen:∀ (d:Nat) (lo:ByteArray) (hi:Option ByteArray) (id:Nat) (ps:List PairS) (q:List Nat),TrD G gen d lo hi id ps q→∀ i ∈ q,∃ p,G.view i=some (.inl p)
  | 0,_,_,_,_,_,h=>h.elim
  | d+1,lo,hi,id,ps,pgs,h=>by
    obtain ⟨n,q,h1,_,rfl,h3⟩:=h
    intro i hi
    rcases List.mem_cons.1 hi with rfl | hi
    · obtain ⟨p,hp,_⟩:=h1.page;exact ⟨_,hp⟩
    · rcases h3 with ⟨_,_,_,h4,_⟩ | ⟨_,h4⟩
      · exact h4.seen i hi
      · exact h4.seen (TrD.seen d) i hi
theorem TD.seen {root d:Nat} {ps:List PairS} {pgs:List Nat} (h:TD G gen root d ps pgs):∀ i ∈ pgs,∃ p,G.view i=some (.inl p):=by
  rcases h.tree with ⟨_,_,_,rfl⟩ | ⟨_,h⟩
  · intro i hi;simp at hi
  · exact TrD.seen _ _ _ _ _ _ h
end
theorem sealed_flush {F P:Nat→Prop} {w:World} {c s:Nat} {G:GA} {l:List Nat} {gen root d:Nat} {ps:List PairS} {pgs:List Nat} (h:PgR F w P c s G l) (hT:TD G gen root d ps pgs):∀ i ∈ pgs,openO (G.flushC.flushD.look i) i=G.view i:=by
  intro i hi
  obtain ⟨p,hp⟩:=hT.seen i hi
  obtain ⟨h1,h2,h3⟩:=h.page (hT.lt i hi).2 hp
  have e:G.flushC.flushD.look i=some (sealP p G.size):=by
    show (match G.view i with | some (.inl p)=>some (sealP p G.size) | _=>G.look i)=_
    rw [hp]
  rw [e,hp]
  unfold openO
  rw [Option.map_some,← h1,seal_openAt h2 h3]
def markL (n:Nat):List Nat→List Nat
  | []=>spNew n
  | i :: q=>(markL n q).set i 1
theorem markL_len (n:Nat):∀ q,(markL n q).length=n
  | []=>by simp [markL,spNew]
  | i :: q=>by simp [markL,markL_len n q]
theorem markL_at (n:Nat):∀ (q:List Nat) (i:Nat),i < n→(markL n q)[i]? = some (if i < 2∨i ∈ q then 1 else 0)
  | [],i,hi=>by
    unfold markL spNew
    rw [List.getElem?_set,List.getElem?_set]
    simp only [List.length_set,List.length_replicate,List.getElem?_replicate]
    by_cases h1:1=i
    · subst h1;simp [hi]
    · rw [if_neg h1]
      by_cases h0:0=i
      · subst h0;simp [hi]
      · rw [if_neg h0,if_pos hi,if_neg (by simp;omega)]
  | j :: q,i,hi=>by
    unfold markL
    rw [List.getElem?_set,markL_len]
    by_cases h:j=i
    · subst h;simp [hi]
    · rw [if_neg h,markL_at n q i hi]
      have:(i < 2∨i ∈ q) ↔ (i < 2∨i ∈ j :: q):=by
        rw [List.mem_cons]
        exact or_congr Iff.rfl ⟨.inr,fun h2=>h2.elim (fun e=>absurd e.symm h) id⟩
      simp only [this]
theorem markL_phi (n:Nat) (h0:phiL (spNew n)=(n:Int) - 4):∀ (q:List Nat),q.Nodup→(∀ i ∈ q,2≤i∧i < n)→phiL (markL n q)+2 * (q.length:Int)=(n:Int) - 4
  | [],_,_=>by simpa [markL] using h0
  | i :: q,hn,hq=>by
    have hn2:=List.nodup_cons.1 hn
    have hi:=hq i List.mem_cons_self
    have ih:=markL_phi n h0 q hn2.2 (fun k hk=>hq k (List.mem_cons_of_mem _ hk))
    have h1:(markL n q)[i]? = some 0:=by
      rw [markL_at n q i hi.2,if_neg (fun h=>h.elim (fun h=>by omega) hn2.1)]
    unfold markL
    rw [phi_set h1]
    simp only [List.length_cons]
    simp
    omega
theorem used_of {n:Nat} {l pgs:List Nat} (hl:l.length=n) (h:∀ i,i < n→spIn (l.getD i 0)=decide (i < 2∨i ∈ pgs)):usedTo l l.length=usedP (iL pgs) n:=by
  unfold usedTo usedP
  rw [hl]
  congr 1
  refine List.filter_congr (fun i hi=>?_)
  rw [h i (List.mem_range.1 hi)]
  have hc:(iL pgs).contains (i:Int)=decide (i ∈ pgs):=by
    rw [Bool.eq_iff_iff,List.contains_iff_mem,decide_eq_true_iff]
    unfold iL
    rw [List.mem_map]
    exact ⟨fun ⟨a, h1, h2⟩ => by have : a = i := by omega
                                 exact this ▸ h1,fun h=>⟨i,h,rfl⟩⟩
  rw [hc,Bool.decide_or]
structure Held (n:Nat) (G:GA) (l:List Nat) (root d:Nat) (ps:List PairS) (pgs:List Nat):Prop where
  ctx:CtxG G l
  td:TD G 5 root d ps pgs
  blk:G.blocks=n
  size:G.size=256
  lay:l=markL n pgs
  val:∀ x ∈ ps,x.2.size≤400
  shut:∀ i ∈ pgs,openO (G.look i) i=G.view i
section
variable {n:Nat} {G G1 G2:GA} {l l1 l2:List Nat} {root d:Nat} {ps:List PairS} {pgs:List Nat}
theorem Lawn.commitL (h:Lawn n G l root d ps pgs):spCommit l=markL n pgs:=by
  have hl:l.length=n:=by rw [h.ctx.len,h.blk]
  apply List.ext_getElem?
  intro i
  by_cases hi:i < n
  · rw [markL_at n pgs i hi]
    unfold spCommit turnL
    rw [List.getElem?_map,List.getElem?_map,h.lay i hi]
    by_cases h2:i < 2
    · simp [h2]
    · by_cases h3:i ∈ pgs
      · simp [h2,h3]
      · simp [h2,h3]
  · rw [List.getElem?_eq_none (show (spCommit l).length≤i by simp [spCommit,turnL];omega),List.getElem?_eq_none (show (markL n pgs).length≤i by rw [markL_len];omega)]
theorem Lawn.held {F P:Nat→Prop} {w:World} {c s:Nat} (h:Lawn n G l root d ps pgs) (hG:PgR F w P c s G l):Held n G.flushC.flushD (spCommit l) root d ps pgs:=by
  have hl:l.length=n:=by rw [h.ctx.len,h.blk]
  have hm:=h.commitL
  have hn8:=hG.lim.1
  have h2:∀ i,i < 2→(spCommit l)[i]? = some 1:=fun i hi=>by rw [hm,markL_at n pgs i (by have:=h.blk;omega),if_pos (.inl hi)]
  exact ⟨⟨⟨h2 0 (by omega),h2 1 (by omega)⟩,by rw [hm,markL_len];exact h.blk.symm,h.ctx.b256,h.ctx.s256,h.ctx.s1024⟩,
    h.td.mono (Nat.le_refl _) rfl rfl (fun _ _=>rfl),h.blk,h.size,hm,h.val,fun i hi=>sealed_flush hG h.td i hi⟩
theorem Held.use (h:Held n G l root d ps pgs):UseL l (fun k=>k ∈ pgs):=fun i hi=>by
  have hb:=h.td.lt i hi
  rw [h.lay,markL_at n pgs i (by have:=h.blk;omega),if_pos (.inr hi)]
  exact .inl rfl
theorem Held.seen (h:Held n G l root d ps pgs) (hf:FrG G l G1 l1):TD G1 5 root d ps pgs:=by
  refine h.td.mono (Nat.le_refl _) hf.bl hf.sz (fun i hi=>?_)
  have hb:=h.td.lt i hi
  have h1:l[i]? = some 1:=by rw [h.lay,markL_at n pgs i (by have:=h.blk;omega),if_pos (.inr hi)]
  obtain ⟨_,_,k3⟩:=hf.keep i (.inl h1)
  rcases k3 with k3 | k3
  · exact k3
  · rw [k3,h.shut i hi]
theorem Held.backL (h:Held n G l root d ps pgs) (hf:FrG G l G1 l1):spBack l1=l:=by
  have hl:l.length=n:=by rw [h.lay,markL_len]
  apply List.ext_getElem?
  intro i
  by_cases hi:i < n
  · have hm:l[i]? = some (if i < 2∨i ∈ pgs then 1 else 0):=by rw [h.lay];exact markL_at n pgs i hi
    unfold spBack turnL
    rw [List.getElem?_map,List.getElem?_map]
    by_cases h2:i < 2∨i ∈ pgs
    · rw [if_pos h2] at hm
      rw [hm]
      rcases (hf.keep i (.inl hm)).1 with h3 | h3
      · rw [h3];rfl
      · rw [h3];rfl
    · rw [if_neg h2] at hm
      rw [hm]
      rcases hf.other i (.inl hm) with h3 | h3
      · rw [h3];rfl
      · rw [h3];rfl
  · rw [List.getElem?_eq_none (show (spBack l1).length≤i by simp [spBack,turnL];rw [hf.len];omega),List.getElem?_eq_none (show l.length≤i by omega)]
theorem Held.back (h:Held n G l root d ps pgs) (hf:FrG G l G1 l1):Held n G1.forget (spBack l1) root d ps pgs:=by
  rw [h.backL hf]
  have hlook:∀ i ∈ pgs,G1.look i=G.look i:=fun i hi=>by
    have hb:=h.td.lt i hi
    have h1:l[i]? = some 1:=by rw [h.lay,markL_at n pgs i (by have:=h.blk;omega),if_pos (.inr hi)]
    exact (hf.keep i (.inl h1)).2.1
  refine ⟨⟨h.ctx.low,by rw [h.ctx.len];exact hf.bl.symm,by rw [show G1.forget.blocks=G.blocks from hf.bl];exact h.ctx.b256,by rw [show G1.forget.size=G.size from hf.sz];exact h.ctx.s256,by rw [show G1.forget.size=G.size from hf.sz];exact h.ctx.s1024⟩,
    h.td.mono (Nat.le_refl _) hf.bl hf.sz (fun i hi=>?_),hf.bl.trans h.blk,hf.sz.trans h.size,h.lay,h.val,fun i hi=>?_⟩
  · show openO (G1.look i) i=_
    rw [hlook i hi,h.shut i hi]
  · show openO (G1.look i) i=openO (G1.look i) i
    rfl
theorem Held.used (h:Held n G l root d ps pgs):usedTo l l.length=usedP (iL pgs) n:=by
  refine used_of (by rw [h.lay,markL_len]) (fun i hi=>?_)
  have hm:l[i]? = some (if i < 2∨i ∈ pgs then 1 else 0):=by rw [h.lay];exact markL_at n pgs i hi
  have hg:l.getD i 0=(if i < 2∨i ∈ pgs then 1 else 0):=by simp [List.getD,hm]
  rw [hg]
  by_cases h2:i < 2∨i ∈ pgs
  · rw [if_pos h2,decide_eq_true h2];rfl
  · rw [if_neg h2,decide_eq_false h2];rfl
theorem Held.lot (h:Held n G l root d ps pgs):Lot n G l root d ps pgs:=⟨h.ctx,h.td,h.used⟩
theorem Held.phi (h:Held n G l root d ps pgs) (h0:phiL (spNew n)=(n:Int) - 4):phiL l+2 * (pgs.length:Int)=(n:Int) - 4:=by
  rw [h.lay]
  exact markL_phi n h0 pgs h.td.nodup (fun i hi=>by have:=h.td.lt i hi;have:=h.blk;omega)
end
structure Grow (K:Int) (gen:Nat) (Gc:GA) (lc:List Nat) (G:GA) (l:List Nat) (root d:Nat) (ps:List PairS) (pgs:List Nat):Prop where
  fr:FrG Gc lc G l
  ctx:CtxG G l
  td:TD G gen root d ps pgs
  use:UseL l (fun k=>k ∈ pgs)
  size:G.size=256
  val:∀ x ∈ ps,x.2.size≤400
  room:phiL l+(pgs.length:Int)=K
section
variable {n:Nat} {Gc G G':GA} {lc l l':List Nat} {root d gen:Nat} {ps:List PairS} {pgs:List Nat} {K:Int}
theorem Held.grow (h:Held n G l root d ps pgs) {gen:Nat} (hg:5≤gen):Grow (phiL l+(pgs.length:Int)) gen G l G l root d ps pgs :=
  ⟨FrG.refl _ _,h.ctx,h.td.mono hg rfl rfl (fun _ _=>rfl),h.use,h.size,h.val,rfl⟩
theorem Grow.put (h:Grow K gen Gc lc G l root d ps pgs) {key v:ByteArray} (hkb:keyB key=true) (hv:v.size≤400) :
    (putR G l gen root key v=.inr 3∧phiL l≤(ndV G.size v:Nat)+d+1) ∨
    ∃ G' l' root' d' pgs',putR G l gen root key v=.inl (G',l',(root',(findP key ps).isNone))∧Grow K gen Gc lc G' l' root' d' (withP key v true ps) pgs'∧G'.cost≤G.cost+61∧2≤root':=by
  rcases putR_tr h.ctx h.td h.use hkb (show v.size≤4096 by omega) with a | ⟨G',l',root',d',pgs',a1,a2,a3,a4,a5,a6,a7⟩
  · exact .inl a
  · refine .inr ⟨G',l',root',d',pgs',a1,⟨h.fr.trans (a2.fr (fun i hi=>(h.td.lt i hi).1)),a5,a3,a4,by rw [a2.sz,h.size],fun x hx=>?_,?_⟩,putR_cost h.ctx h.td h.use hkb (by omega) a1,a6⟩
    · rcases mem_withP hx with rfl | hx
      · exact hv
      · exact h.val x hx
    · have:=a2.phi h.use h.td.nodup a3.nodup
      have:=h.room
      omega
theorem Grow.fits (h:Grow K gen Gc lc G l root d ps pgs) (hK:4 * (ps.length:Int)+10 < K) {key v:ByteArray} (hkb:keyB key=true) (hv:v.size≤400) :
    ∃ G' l' root' d' pgs',putR G l gen root key v=.inl (G',l',(root',(findP key ps).isNone))∧Grow K gen Gc lc G' l' root' d' (withP key v true ps) pgs'∧G'.cost≤G.cost+61∧2≤root':=by
  rcases h.put hkb hv with ⟨_,a⟩ | a
  · have hcn:=h.td.count.1
    have hd:=(h.td.few h.ctx.b256).2
    have h1:=chS_400 ps h.val
    have h2:=ndV_400 v hv
    have h3:=h.room
    rw [h.size] at a hcn
    have h4:pgs.length≤2 * ps.length+chS 256 ps:=by omega
    omega
  · exact a
end
end Go.Proofs.YtphafjmdhmpkbaaGreatDoor
namespace Go.Proofs.YtphafjmdhmpkbaaGreatDoor
open Go.RowKit
attribute [local go_sem ↓] Go.wp_at_zero Go.wp_at_succ
end Go.Proofs.YtphafjmdhmpkbaaGreatDoor
