import Derived.Test.YtchklfmggpconaaGreatDoorK39
import Derived.DataShut
import Derived.Deep.RegionLawGrows
import Derived.BigQuiet
import Derived.Deep.DeepCutAuto
namespace Go.Proofs.YtchklfmggpconaaGreatDoor
section
open Go.RowKit Go.Maps
attribute [local go_sem ↓] Go.wp_at_zero Go.wp_at_succ
end
section
open Go.RowKit Go.Maps
end
section
open Go.RowKit Go.Maps
attribute [local go_sem ↓] Go.wp_at_zero Go.wp_at_succ
end
section
open Go.RowKit
structure GLe(G H:GA):Prop where
 blocks:H.blocks=G.blocks
 size:H.size=G.size
 cost:H.cost=G.cost
 look:H.look=G.look
 last:H.last=G.last
 view:∀id r,G.view id=some r→H.view id=some r
section
variable {P F:Nat→Prop}{ad:Nat→Addr}{w:World}{c s:Nat}{G H:GA}{l:List Nat}
theorem PgR.tot(h:PgR F w P c s G l):∃H,GLe G H∧H.total∧PgR F w P c s H l:=by
 obtain⟨d,sb,bvs,Pd,b2,C,h1,h2,h3,h4,h5,h6,h7⟩:=h;exact⟨{ G with view:=λid=>some (C.vw id) },⟨rfl,rfl,rfl,rfl,rfl,λid r hr=>congrArg some (h3.view id r hr)⟩,λi _=>⟨_,rfl⟩,d,sb,bvs,Pd,b2,C,h1,h2,⟨h3.blocks,h3.size,λid r hr=>Option.some.inj hr,h3.look,h3.last,h3.cost⟩,h4,h5,h6,h7⟩
theorem PgR.le(hl:GLe G H)(h:PgR F w P c s H l):PgR F w P c s G l:=by
 obtain⟨d,sb,bvs,Pd,b2,C,h1,h2,h3,h4,h5,h6,h7⟩:=h;exact⟨d,sb,bvs,Pd,b2,C,h1,h2,⟨h3.blocks.trans hl.blocks,h3.size.trans hl.size,λid r hr=>h3.view id r (hl.view id r hr),λid b hb=>h3.look id b (by rw[hl.look];exact hb),λid b hb=>h3.last id b (by rw[hl.last];exact hb),by rw[← hl.cost];exact h3.cost⟩,by rw[← hl.cost];exact h4,h5,h6,h7⟩
end
section
variable {G H:GA}{gen:Nat}
theorem EntC.known{e:EntryA}{v:ByteArray}{ids:List Nat}(h:EntC G gen e v ids):∀i∈ids,∃r,G.view i=some r:=by
 intro i hi;rcases h with ⟨_,_,rfl⟩|⟨_,h⟩
 ·simp at hi
 ·obtain⟨g,_,hp⟩:=h.page;obtain⟨k,hk,rfl⟩:=List.getElem_of_mem hi;have:=hp k hk;rw[show ids.getD k 0=ids[k] by simp[List.getD,hk]] at this;exact⟨_,this⟩
theorem Ents.known{es:List EntryA}{ps:List PairS}{q:List Nat}(h:Ents G gen es ps q):∀i∈q,∃r,G.view i=some r:=by
 induction h with
 | nil=>intro i hi;simp at hi
 | cons _ h2 _ ih=>intro i hi;exact (List.mem_append.1 hi).elim (h2.known i) (ih i)
theorem Kids.known{T:TreeT}{lo:ByteArray}{hi:Option ByteArray}{kk:List ByteArray}{cc:List Int}{ps:List PairS}{q:List Nat}(hT:∀lo hi c ps q,T lo hi c ps q→∀i∈q,∃r,G.view i=some r)(h:Kids T lo hi kk cc ps q):∀i∈q,∃r,G.view i=some r:=by
 induction h with
 | one h=>exact hT _ _ _ _ _ h
 | cons h1 _ _ ih=>intro i hi;exact (List.mem_append.1 hi).elim (hT _ _ _ _ _ h1 i) (ih i)
theorem TrD.known:∀(d:Nat) (lo:ByteArray) (hi:Option ByteArray) (id:Nat) (ps:List PairS) (q:List Nat),TrD G gen d lo hi id ps q→∀i∈q,∃r,G.view i=some r
 | 0,_,_,_,_,_,h=>h.elim
 | d+1,lo,hi,id,ps,pgs,h=>by
  obtain⟨n,q,h1,_,rfl,h3⟩:=h;intro i hi;rcases List.mem_cons.1 hi with rfl|hi
  ·obtain⟨p,hp,_⟩:=h1.page;exact⟨_,hp⟩
  ·rcases h3 with ⟨_,_,_,h4,_⟩|⟨_,h4⟩
   ·exact h4.known i hi
   ·exact h4.known (TrD.known d) i hi
theorem TD.known{root d:Nat}{ps:List PairS}{pgs:List Nat}(h:TD G gen root d ps pgs):∀i∈pgs,∃r,G.view i=some r:=by
 rcases h.tree with ⟨_,_,_,rfl⟩|⟨_,h⟩
 ·intro i hi;simp at hi
 ·exact TrD.known _ _ _ _ _ _ h
theorem TD.up{root d:Nat}{ps:List PairS}{pgs:List Nat}(h:TD G gen root d ps pgs)(hl:GLe G H):TD H gen root d ps pgs :=
 h.mono (Nat.le_refl _) hl.blocks hl.size (λi hi=>by obtain⟨r,hr⟩:=h.known i hi;rw[hl.view i r hr,hr])
end
end
end Go.Proofs.YtchklfmggpconaaGreatDoor
