/- What was committed stays, whatever is put behind it. Plain. | InsertFull holds. -/
import Derived.Test.YtphafjmdhmpkbaaGreatDoorK36
import Derived.Test.YtphafjmdhmpkbaaGreatDoorK42
import Derived.Test.YtphafjmdhmpkbaaGreatDoorK45
import Derived.Test.YtphafjmdhmpkbaaGreatDoorK20
import Derived.Test.YtphafjmdhmpkbaaGreatDoorK39
import Derived.Test.YtphafjmdhmpkbaaGreatDoorK05
import Derived.Deep.RegionHeld3
import Derived.Deep.CutBlock
import Derived.Deep.DeepCutAuto
namespace Go.Proofs.YtphafjmdhmpkbaaGreatDoor
open Go.RowKit
section
variable {G H:GA} {gen:Nat}
theorem EntC.seen {e:EntryA} {v:ByteArray} {ids:List Nat} (h:EntC G gen e v ids):∀ i ∈ ids,∃ p,G.view i=some (.inl p):=by
  intro i hi
  rcases h with ⟨_,_,rfl⟩ | ⟨_,h⟩
  · simp at hi
  · obtain ⟨g,_,hp⟩:=h.page
    obtain ⟨k,hk,rfl⟩:=List.getElem_of_mem hi
    have:=hp k hk
    rw [show ids.getD k 0=ids[k] by simp [List.getD,hk]] at this
    exact ⟨_,this⟩
theorem Ents.seen {es:List EntryA} {ps:List PairS} {q:List Nat} (h:Ents G gen es ps q):∀ i ∈ q,∃ p,G.view i=some (.inl p):=by
  induction h with
  | nil=>intro i hi;simp at hi
  | cons _ h2 _ ih=>intro i hi;exact (List.mem_append.1 hi).elim (h2.seen i) (ih i)
theorem Kids.seen {T:TreeT} {lo:ByteArray} {hi:Option ByteArray} {kk:List ByteArray} {cc:List Int} {ps:List PairS} {q:List Nat} (hT:∀ lo hi c ps q,T lo hi c ps q→∀ i ∈ q,∃ p,G.view i=some (.inl p)) (h:Kids T lo hi kk cc ps q):∀ i ∈ q,∃ p,G.view i=some (.inl p):=by
  induction h with
  | one h=>exact hT _ _ _ _ _ h
  | cons h1 _ _ ih=>intro i hi;exact (List.mem_append.1 hi).elim (hT _ _ _ _ _ h1 i) (ih i)
theorem TrD.seen:∀ (d:Nat) (lo:ByteArray) (hi:Option ByteArray) (id:Nat) (ps:List PairS) (q:List Nat),TrD G gen d lo hi id ps q→∀ i ∈ q,∃ p,G.view i=some (.inl p)
  | 0,_,_,_,_,_,h=>h.elim
  | d+1,lo,hi,id,ps,pgs,h=>by
    obtain ⟨n,q,h1,_,rfl,h3⟩:=h
    intro i hi
    rcases List.mem_cons.1 hi with rfl | hi
    · obtain ⟨p,hp,_⟩:=h1.page;exact ⟨_,hp⟩
    · rcases h3 with ⟨_,_,_,h4,_⟩ | ⟨_,h4⟩
      · exact h4.seen i hi
      · exact h4.seen (TrD.seen d) i hi
theorem TD.seen {root d:Nat} {ps:List PairS} {pgs:List Nat} (h:TD G gen root d ps pgs):∀ i ∈ pgs,∃ p,G.view i=some (.inl p):=by
  rcases h.tree with ⟨_,_,_,rfl⟩ | ⟨_,h⟩
  · intro i hi;simp at hi
  · exact TrD.seen _ _ _ _ _ _ h
end
theorem sealed_flush {F P:Nat→Prop} {w:World} {c s:Nat} {G:GA} {l:List Nat} {gen root d:Nat} {ps:List PairS} {pgs:List Nat} (h:PgR F w P c s G l) (hT:TD G gen root d ps pgs):∀ i ∈ pgs,openO (G.flushC.flushD.look i) i=G.view i:=by
  intro i hi
  obtain ⟨p,hp⟩:=hT.seen i hi
  obtain ⟨h1,h2,h3⟩:=h.page (hT.lt i hi).2 hp
  have e:G.flushC.flushD.look i=some (sealP p G.size):=by
    show (match G.view i with | some (.inl p)=>some (sealP p G.size) | _=>G.look i)=_
    rw [hp]
  rw [e,hp]
  unfold openO
  rw [Option.map_some,← h1,seal_openAt h2 h3]
def markL (n:Nat):List Nat→List Nat
  | []=>spNew n
  | i :: q=>(markL n q).set i 1
theorem markL_len (n:Nat):∀ q,(markL n q).length=n
  | []=>by simp [markL,spNew]
  | i :: q=>by simp [markL,markL_len n q]
theorem markL_at (n:Nat):∀ (q:List Nat) (i:Nat),i < n→(markL n q)[i]? = some (if i < 2∨i ∈ q then 1 else 0)
  | [],i,hi=>by
    unfold markL spNew
    rw [List.getElem?_set,List.getElem?_set]
    simp only [List.length_set,List.length_replicate,List.getElem?_replicate]
    by_cases h1:1=i
    · subst h1;simp [hi]
    · rw [if_neg h1]
      by_cases h0:0=i
      · subst h0;simp [hi]
      · rw [if_neg h0,if_pos hi,if_neg (by simp;omega)]
  | j :: q,i,hi=>by
    unfold markL
    rw [List.getElem?_set,markL_len]
    by_cases h:j=i
    · subst h;simp [hi]
    · rw [if_neg h,markL_at n q i hi]
      have:(i < 2∨i ∈ q) ↔ (i < 2∨i ∈ j :: q):=by
        rw [List.mem_cons]
        exact or_congr Iff.rfl ⟨.inr,fun h2=>h2.elim (fun e=>absurd e.symm h) id⟩
      simp only [this]
theorem markL_phi (n:Nat) (h0:phiL (spNew n)=(n:Int) - 4):∀ (q:List Nat),q.Nodup→(∀ i ∈ q,2≤i∧i < n)→phiL (markL n q)+2 * (q.length:Int)=(n:Int) - 4
  | [],_,_=>by simpa [markL] using h0
  | i :: q,hn,hq=>by
    have hn2:=List.nodup_cons.1 hn
    have hi:=hq i List.mem_cons_self
    have ih:=markL_phi n h0 q hn2.2 (fun k hk=>hq k (List.mem_cons_of_mem _ hk))
    have h1:(markL n q)[i]? = some 0:=by
      rw [markL_at n q i hi.2,if_neg (fun h=>h.elim (fun h=>by omega) hn2.1)]
    unfold markL
    rw [phi_set h1]
    simp only [List.length_cons]
    simp
    omega
theorem used_of {n:Nat} {l pgs:List Nat} (hl:l.length=n) (h:∀ i,i < n→spIn (l.getD i 0)=decide (i < 2∨i ∈ pgs)):usedTo l l.length=usedP (iL pgs) n:=by
  unfold usedTo usedP
  rw [hl]
  congr 1
  refine List.filter_congr (fun i hi=>?_)
  rw [h i (List.mem_range.1 hi)]
  have hc:(iL pgs).contains (i:Int)=decide (i ∈ pgs):=by
    rw [Bool.eq_iff_iff,List.contains_iff_mem,decide_eq_true_iff]
    unfold iL
    rw [List.mem_map]
    exact ⟨fun ⟨a, h1, h2⟩ => by have : a = i := by omega
                                 exact this ▸ h1,fun h=>⟨i,h,rfl⟩⟩
  rw [hc,Bool.decide_or]
structure Held (n:Nat) (G:GA) (l:List Nat) (root d:Nat) (ps:List PairS) (pgs:List Nat):Prop where
  ctx:CtxG G l
  td:TD G 5 root d ps pgs
  blk:G.blocks=n
  size:G.size=256
  lay:l=markL n pgs
  val:∀ x ∈ ps,x.2.size≤400
  shut:∀ i ∈ pgs,openO (G.look i) i=G.view i
section
variable {n:Nat} {G G1 G2:GA} {l l1 l2:List Nat} {root d:Nat} {ps:List PairS} {pgs:List Nat}
theorem Lawn.commitL (h:Lawn n G l root d ps pgs):spCommit l=markL n pgs:=by
  have hl:l.length=n:=by rw [h.ctx.len,h.blk]
  apply List.ext_getElem?
  intro i
  by_cases hi:i < n
  · rw [markL_at n pgs i hi]
    unfold spCommit turnL
    rw [List.getElem?_map,List.getElem?_map,h.lay i hi]
    by_cases h2:i < 2
    · simp [h2]
    · by_cases h3:i ∈ pgs
      · simp [h2,h3]
      · simp [h2,h3]
  · rw [List.getElem?_eq_none (show (spCommit l).length≤i by simp [spCommit,turnL];omega),List.getElem?_eq_none (show (markL n pgs).length≤i by rw [markL_len];omega)]
theorem Lawn.held {F P:Nat→Prop} {w:World} {c s:Nat} (h:Lawn n G l root d ps pgs) (hG:PgR F w P c s G l):Held n G.flushC.flushD (spCommit l) root d ps pgs:=by
  have hl:l.length=n:=by rw [h.ctx.len,h.blk]
  have hm:=h.commitL
  have hn8:=hG.lim.1
  have h2:∀ i,i < 2→(spCommit l)[i]? = some 1:=fun i hi=>by rw [hm,markL_at n pgs i (by have:=h.blk;omega),if_pos (.inl hi)]
  exact ⟨⟨⟨h2 0 (by omega),h2 1 (by omega)⟩,by rw [hm,markL_len];exact h.blk.symm,h.ctx.b256,h.ctx.s256,h.ctx.s1024⟩,
    h.td.mono (Nat.le_refl _) rfl rfl (fun _ _=>rfl),h.blk,h.size,hm,h.val,fun i hi=>sealed_flush hG h.td i hi⟩
theorem Held.use (h:Held n G l root d ps pgs):UseL l (fun k=>k ∈ pgs):=fun i hi=>by
  have hb:=h.td.lt i hi
  rw [h.lay,markL_at n pgs i (by have:=h.blk;omega),if_pos (.inr hi)]
  exact .inl rfl
theorem Held.seen (h:Held n G l root d ps pgs) (hf:FrG G l G1 l1):TD G1 5 root d ps pgs:=by
  refine h.td.mono (Nat.le_refl _) hf.bl hf.sz (fun i hi=>?_)
  have hb:=h.td.lt i hi
  have h1:l[i]? = some 1:=by rw [h.lay,markL_at n pgs i (by have:=h.blk;omega),if_pos (.inr hi)]
  obtain ⟨_,_,k3⟩:=hf.keep i (.inl h1)
  rcases k3 with k3 | k3
  · exact k3
  · rw [k3,h.shut i hi]
theorem Held.backL (h:Held n G l root d ps pgs) (hf:FrG G l G1 l1):spBack l1=l:=by
  have hl:l.length=n:=by rw [h.lay,markL_len]
  apply List.ext_getElem?
  intro i
  by_cases hi:i < n
  · have hm:l[i]? = some (if i < 2∨i ∈ pgs then 1 else 0):=by rw [h.lay];exact markL_at n pgs i hi
    unfold spBack turnL
    rw [List.getElem?_map,List.getElem?_map]
    by_cases h2:i < 2∨i ∈ pgs
    · rw [if_pos h2] at hm
      rw [hm]
      rcases (hf.keep i (.inl hm)).1 with h3 | h3
      · rw [h3];rfl
      · rw [h3];rfl
    · rw [if_neg h2] at hm
      rw [hm]
      rcases hf.other i (.inl hm) with h3 | h3
      · rw [h3];rfl
      · rw [h3];rfl
  · rw [List.getElem?_eq_none (show (spBack l1).length≤i by simp [spBack,turnL];rw [hf.len];omega),List.getElem?_eq_none (show l.length≤i by omega)]
theorem Held.back (h:Held n G l root d ps pgs) (hf:FrG G l G1 l1):Held n G1.forget (spBack l1) root d ps pgs:=by
  rw [h.backL hf]
  have hlook:∀ i ∈ pgs,G1.look i=G.look i:=fun i hi=>by
    have hb:=h.td.lt i hi
    have h1:l[i]? = some 1:=by rw [h.lay,markL_at n pgs i (by have:=h.blk;omega),if_pos (.inr hi)]
    exact (hf.keep i (.inl h1)).2.1
  refine ⟨⟨h.ctx.low,by rw [h.ctx.len];exact hf.bl.symm,by rw [show G1.forget.blocks=G.blocks from hf.bl];exact h.ctx.b256,by rw [show G1.forget.size=G.size from hf.sz];exact h.ctx.s256,by rw [show G1.forget.size=G.size from hf.sz];exact h.ctx.s1024⟩,
    h.td.mono (Nat.le_refl _) hf.bl hf.sz (fun i hi=>?_),hf.bl.trans h.blk,hf.sz.trans h.size,h.lay,h.val,fun i hi=>?_⟩
  · show openO (G1.look i) i=_
    rw [hlook i hi,h.shut i hi]
  · show openO (G1.look i) i=openO (G1.look i) i
    rfl
theorem Held.used (h:Held n G l root d ps pgs):usedTo l l.length=usedP (iL pgs) n:=by
  refine used_of (by rw [h.lay,markL_len]) (fun i hi=>?_)
  have hm:l[i]? = some (if i < 2∨i ∈ pgs then 1 else 0):=by rw [h.lay];exact markL_at n pgs i hi
  have hg:l.getD i 0=(if i < 2∨i ∈ pgs then 1 else 0):=by simp [List.getD,hm]
  rw [hg]
  by_cases h2:i < 2∨i ∈ pgs
  · rw [if_pos h2,decide_eq_true h2];rfl
  · rw [if_neg h2,decide_eq_false h2];rfl
theorem Held.lot (h:Held n G l root d ps pgs):Lot n G l root d ps pgs:=⟨h.ctx,h.td,h.used⟩
theorem Held.phi (h:Held n G l root d ps pgs) (h0:phiL (spNew n)=(n:Int) - 4):phiL l+2 * (pgs.length:Int)=(n:Int) - 4:=by
  rw [h.lay]
  exact markL_phi n h0 pgs h.td.nodup (fun i hi=>by have:=h.td.lt i hi;have:=h.blk;omega)
end
structure Grow (K:Int) (gen:Nat) (Gc:GA) (lc:List Nat) (G:GA) (l:List Nat) (root d:Nat) (ps:List PairS) (pgs:List Nat):Prop where
  fr:FrG Gc lc G l
  ctx:CtxG G l
  td:TD G gen root d ps pgs
  use:UseL l (fun k=>k ∈ pgs)
  size:G.size=256
  val:∀ x ∈ ps,x.2.size≤400
  room:phiL l+(pgs.length:Int)=K
section
variable {n:Nat} {Gc G G':GA} {lc l l':List Nat} {root d gen:Nat} {ps:List PairS} {pgs:List Nat} {K:Int}
theorem Held.grow (h:Held n G l root d ps pgs) {gen:Nat} (hg:5≤gen):Grow (phiL l+(pgs.length:Int)) gen G l G l root d ps pgs :=
  ⟨FrG.refl _ _,h.ctx,h.td.mono hg rfl rfl (fun _ _=>rfl),h.use,h.size,h.val,rfl⟩
theorem Grow.put (h:Grow K gen Gc lc G l root d ps pgs) {key v:ByteArray} (hkb:keyB key=true) (hv:v.size≤400) :
    (putR G l gen root key v=.inr 3∧phiL l≤(ndV G.size v:Nat)+d+1) ∨
    ∃ G' l' root' d' pgs',putR G l gen root key v=.inl (G',l',(root',(findP key ps).isNone))∧Grow K gen Gc lc G' l' root' d' (withP key v true ps) pgs'∧G'.cost≤G.cost+61∧2≤root':=by
  rcases putR_tr h.ctx h.td h.use hkb (show v.size≤4096 by omega) with a | ⟨G',l',root',d',pgs',a1,a2,a3,a4,a5,a6,a7⟩
  · exact .inl a
  · refine .inr ⟨G',l',root',d',pgs',a1,⟨h.fr.trans (a2.fr (fun i hi=>(h.td.lt i hi).1)),a5,a3,a4,by rw [a2.sz,h.size],fun x hx=>?_,?_⟩,putR_cost h.ctx h.td h.use hkb (by omega) a1,a6⟩
    · rcases mem_withP hx with rfl | hx
      · exact hv
      · exact h.val x hx
    · have:=a2.phi h.use h.td.nodup a3.nodup
      have:=h.room
      omega
theorem Grow.fits (h:Grow K gen Gc lc G l root d ps pgs) (hK:4 * (ps.length:Int)+10 < K) {key v:ByteArray} (hkb:keyB key=true) (hv:v.size≤400) :
    ∃ G' l' root' d' pgs',putR G l gen root key v=.inl (G',l',(root',(findP key ps).isNone))∧Grow K gen Gc lc G' l' root' d' (withP key v true ps) pgs'∧G'.cost≤G.cost+61∧2≤root':=by
  rcases h.put hkb hv with ⟨_,a⟩ | a
  · have hcn:=h.td.count.1
    have hd:=(h.td.few h.ctx.b256).2
    have h1:=chS_400 ps h.val
    have h2:=ndV_400 v hv
    have h3:=h.room
    rw [h.size] at a hcn
    have h4:pgs.length≤2 * ps.length+chS 256 ps:=by omega
    omega
  · exact a
end
end Go.Proofs.YtphafjmdhmpkbaaGreatDoor
namespace Go.Proofs.YtphafjmdhmpkbaaGreatDoor
open Go.RowKit
attribute [local go_sem ↓] Go.wp_at_zero Go.wp_at_succ
def FuS (ad:Nat→Addr) (w wr:World) (B c s k now:Nat) (K:Int) (Gc:GA) (lc:List Nat):Prop :=
  ∃ (P F:Nat→Prop) (G:GA) (l:List Nat) (d:Nat) (ps:List PairS) (pgs:List Nat),LG ad w wr B c s 5 P F G l∧Grow K 5 Gc lc G l now d ps pgs∧G.cost≤61 * (k+1)
def FuE (ad:Nat→Addr) (w wr:World) (B c s:Nat) (Gc:GA) (lc:List Nat):Prop :=
  ∃ (P F:Nat→Prop) (G:GA) (l:List Nat),LG ad w wr B c s 5 P F G l∧FrG Gc lc G l
theorem FuS.out {ad:Nat→Addr} {w wr:World} {B c s k now:Nat} {K:Int} {Gc:GA} {lc:List Nat} (h:FuS ad w wr B c s k now K Gc lc):FuE ad w wr B c s Gc lc:=by
  obtain ⟨P,F,G,l,d,ps,pgs,h1,h2,_⟩:=h
  exact ⟨P,F,G,l,h1,h2.fr⟩
theorem lawn12:∃ G' l' root' d' pgs',putR (G0 12) (spNew 12) 5 0 ⟨#[109]⟩ ⟨#[102,105,114,115,116]⟩=.inl (G',l',(root',true))∧Lawn 12 G' l' root' d' [(⟨#[109]⟩,⟨#[102,105,114,115,116]⟩)] pgs'∧G'.cost≤61∧2≤root':=by
  have hL:=Lawn.new 12 (.inr rfl)
  rcases hL.put (key:=⟨#[109]⟩) (v:=⟨#[102,105,114,115,116]⟩) (by decide) (by decide) with ⟨_,a⟩ | ⟨G',l',root',d',pgs',h1,h2,h3,h4⟩
  · have:=hL.room
    have hn:ndV (G0 12).size ⟨#[102,105,114,115,116]⟩=0:=rfl
    rw [hn] at a
    simp at this a
    omega
  · exact ⟨G',l',root',d',pgs',h1,h2,by have:(G0 12).cost=0:=rfl;omega,h4⟩
set_option maxRecDepth 100000 in
set_option maxHeartbeats 4000000 in
theorem InsertFull_any {ad:Nat→Addr} {w:World} (hL:Env NoB ad w) (hfu:Full ad) (m:List PairS) (mv:Value) (hm:Sl NoB w 2 encP mv m) :
    Calls Tryz.prog 8 #[mv] w fun e w'=>e=.returned (.bool true)∧Ext w w':=by
  have HM:=Lib.hid hm
  have HL:=Lib.hid hL
  have HFU:=Lib.hid hfu
  obtain ⟨ma,mc,rfl,h1,h2,h3, -⟩:=hm
  unfold maxLen at h2
  clear hL hfu
  go_enter Tryz.func8, Tryz.ntmps8
  go_wp2_with fail
  refine (pager13_any HL.out 12 (by omega) (by omega)).mono ?_
  rintro e w1 ⟨c,s,P,F,rfl,hG,hN⟩
  have hS:=LG.startZ (gen:=5) hG hN 5 rfl
  have t0:=hS.c0
  have t1:=hS.c1
  have t2:_=some (Value.int .u64 5):=hS.c2
  obtain ⟨G1,l1,r1,d1,q1,hpr,hlw,hco,hr2⟩:=lawn12
  have hLN:=Lawn.new 12 (.inr rfl)
  have HPT:=insPutR_any (v:=⟨#[102,105,114,115,116]⟩) (gen:=5) (key:=⟨#[109]⟩) hS.env hS.sub hS.pg (by omega) hLN.ctx hLN.td hLN.use (by decide) (by decide) (by show 0+300≤1000000;omega)
  rw [hpr,pgV5] at HPT
  have HPT:=Lib.hid HPT
  have HS:=Lib.hid hS
  have HLW:=Lib.hid hlw
  have HCO:=Lib.hid hco
  rw [pgV5]
  clear hG hN hS hpr hlw hco hr2 hLN
  go_wp2_with fail
  refine HPT.out.mono ?_
  rintro e w2 ⟨P2,F2,G2,l2,hG2,hN2,⟨i2,nw2,hr2,rfl⟩ | ⟨k2,f2,el2,hr2,_⟩⟩
  rotate_left
  · cases hr2
  simp only [Sum.inl.injEq,Prod.mk.injEq] at hr2
  obtain ⟨rfl,rfl,rfl,rfl⟩:=hr2
  have HS2:=Lib.hid (HS.out.step hN2 hG2)
  have HHE:=Lib.hid (HLW.out.held hG2)
  have t0:=HS2.out.c0
  clear hG2 hN2 t1 t2
  go_wp2_with fail
  refine (pgFlush HS2.out.env HS2.out.sub HS2.out.pg).mono ?_
  rintro e w3 ⟨P3,F3,hG3,hN3,rfl⟩
  have HS3:=Lib.hid (HS2.out.step hN3 hG3)
  clear hG3 hN3 t0
  have t0:=HS3.out.c0
  obtain ⟨d,hd1,hd2⟩:=pgDiskFlush HS3.out.env HS3.out.sub HS3.out.pg
  have HD1:=Lib.hid hd1
  have HD2:=Lib.hid hd2
  clear hd1 hd2
  go_wp2_with fail
  refine (HD1.out).mono ?_
  rintro e w4 ⟨rfl,rfl⟩
  go_wp2_with fail
  refine (HD2.out _ (Mods.refl _ _)).mono ?_
  rintro e w4 ⟨P4,F4,hG4,hN4,rfl⟩
  have HS4:=Lib.hid (HS3.out.step hN4 hG4)
  clear hG4 hN4 t0
  have t1:=HS4.out.c1
  go_wp2_with fail
  refine (pgCommit HS4.out.env HS4.out.sub HS4.out.pg).mono ?_
  rintro e w5 ⟨P5,F5,hG5,hN5,rfl⟩
  have HS5:=Lib.hid (HS4.out.step hN5 hG5)
  clear hG5 hN5 t1
  obtain ⟨Gc,hGc⟩:∃ Gc,Gc=G1.flushC.flushD:=⟨_,rfl⟩
  obtain ⟨lc,hlc⟩:∃ lc,lc=spCommit l1:=⟨_,rfl⟩
  rw [← hGc,← hlc] at HS5 HHE
  have hcst:Gc.cost≤61:=by rw [hGc];exact HCO.out
  have HCS:=Lib.hid hcst
  have HGR:=Lib.hid (HHE.out.grow (gen:=5) (Nat.le_refl _))
  obtain ⟨K,hK⟩:∃ K,K=phiL lc+(q1.length:Int):=⟨_,rfl⟩
  rw [← hK] at HGR
  clear hGc hlc hcst hK
  go_upto_block 0 with fail
  go_cut [] (fun wx=>Hid (FuE ad w wx w1.heap.size c s Gc lc))
  case first =>
    go_wp2_with fail
    go_loopg [8,9] 40 (fun z v8 v9 wr=>∃ (k now:Nat),k+z=40∧v8=.int .i64 (now:Int)∧v9=.int .i64 (k:Int)∧Hid (FuS ad w wr w1.heap.size c s k now K Gc lc))
    case atStart=>exact ⟨0,r1,by omega,rfl,rfl,Lib.hid ⟨P5,F5,Gc,lc,d1,_,q1,HS5.out,HGR.out,by have:=HCS.out;omega⟩⟩
    case round =>
      obtain ⟨k,now,hk,rfl,rfl,HP⟩:=hrel
      by_cases hgo:k < m.length∧k < 40
      · obtain ⟨g1,g2⟩:=hgo
        obtain ⟨P1,F1,G6,l6,d6,ps6,pgs6,hS1,hW1,hc1⟩:=HP.out
        obtain ⟨x,hx⟩:∃ x,x=m[k]:=⟨_,rfl⟩
        obtain ⟨qb,qoff,hqa,hc⟩:=HM.out.elem g1 hS1.ext0
        have e0:=hc 0 (.string x.1) (by rw [hx];rfl)
        have e1:=hc 1 (.string x.2) (by rw [hx];rfl)
        simp only [Nat.add_zero] at e0
        have i1:(0:Int)≤(k:Int):=by omega
        have i2:(k:Int) < (m.length:Int):=by omega
        have i3:(k:Int) < 40:=by omega
        subst hqa
        have HSH:=Lib.hid (short13_any wr x.1 x.2)
        obtain ⟨key,v0⟩:=x
        obtain ⟨v,hv⟩:∃ v,v=shortV v0:=⟨_,rfl⟩
        have HVV:Hid (v.size≤400):=Lib.hid (by rw [hv];exact shortV_le v0)
        simp only at HSH e0 e1
        rw [← hv] at HSH
        clear hS1 hW1 hc1 hc hx hv
        go_wp2_with fail
        refine HSH.out.mono ?_
        rintro e w6 ⟨rfl,hm6⟩
        obtain ⟨P1,F1,G6,l6,d6,ps6,pgs6,hS1,hW1,hc1⟩:=HP.out
        have hS6:=hS1.ext hm6
        have b0:=hS6.c0
        have b1:=hS6.c1
        have b2:_=some (Value.int .u64 5):=hS6.c2
        have HS6:=Lib.hid hS6
        have HLW:=Lib.hid hW1
        have HC6:=Lib.hid hc1
        have b0:=cell_alloc b0 (.cells #[.string key,.string v] 40)
        have b1:=cell_alloc b1 (.cells #[.string key,.string v] 40)
        have b2:=cell_alloc b2 (.cells #[.string key,.string v] 40)
        have hS7:=HS6.out.ext ((Mods.refl _ w6).alloc (.cells #[.string key,.string v] 40))
        have HS7:=Lib.hid hS7
        have HPN:=Lib.hid (fun hkb:keyB key=false=>putNo_any (P:=P1) (c:=c) (s:=s) hS7.env 5 (now:Int) key v (.inl HFU.out) [-1] 2 (by unfold checkK;rw [if_pos hkb]))
        clear hS1 hW1 hc1 hS6 hm6 hS7
        go_wp2_with fail
        cases hkb:keyB key with
        | false =>
          have HPN:=Lib.hid (HPN.out hkb)
          rw [pgV5] at HPN
          clear hkb
          refine HPN.out.mono ?_
          rintro e w8 ⟨f,el,rfl,hE8,hm8⟩
          have HS8:=Lib.hid (HS7.out.ext hm8)
          have HE8:=Lib.hid hE8
          clear hE8 hm8
          go_wp2_with fail
          refine (tells13_k HS8.out.env HFU.out HE8.out 2 (by omega) rfl).mono ?_
          rintro e w9 ⟨rfl,rfl⟩
          go_wp2_with fail
          go_roundg (gk - 1)
          case measure=>omega
          case rel=>exact ⟨k+1,now,by omega,rfl,by go_num,Lib.hid ⟨P1,F1,G6,l6,d6,ps6,pgs6,HS8.out,HLW.out,by have:=HC6.out;omega⟩⟩
        | true =>
          have HPT:=insPutR_any (v:=v) (gen:=5) (w:=w6.alloc (.cells #[.string key,.string v] 40)) HS7.out.env HS7.out.sub HS7.out.pg (by omega) HLW.out.ctx HLW.out.td HLW.out.use hkb (by have:=HVV.out;omega) (by have:=HC6.out;omega)
          have HPU:=Lib.hid (HLW.out.put hkb HVV.out)
          rw [pgV5] at HPT
          have HPT:=Lib.hid HPT
          clear hkb HPN
          refine HPT.out.mono ?_
          rintro e w8 ⟨P8,F8,G8,l8,hG8,hN8,⟨i8,nw8,hr8,rfl⟩ | ⟨k8,f8,el8,hr8,hf8,rfl,hE8⟩⟩
          · rcases HPU.out with ⟨a1,_⟩ | ⟨G9,l9,root9,d9,pgs9,a1,a2,a3,a4⟩
            · rw [a1] at hr8;cases hr8
            · rw [a1] at hr8
              simp only [Sum.inl.injEq,Prod.mk.injEq] at hr8
              obtain ⟨rfl,rfl,rfl,rfl⟩:=hr8
              have HS8:=Lib.hid (HS7.out.step hN8 hG8)
              have HA2:=Lib.hid a2
              have HA3:=Lib.hid a3
              have HTL:=Lib.hid (tells13_any HS8.out.env HFU.out .nilIface none rfl 2 (by omega))
              clear hG8 hN8 a1 a2 a3 a4
              go_wp2_with fail
              refine HTL.out.mono ?_
              rintro e w9 ⟨rfl,rfl⟩
              go_wp2_with fail
              go_roundg (gk - 1)
              case measure=>omega
              case rel=>exact ⟨k+1,root9,by omega,rfl,by go_num,Lib.hid ⟨P8,F8,G9,l9,d9,_,pgs9,HS8.out,HA2.out,by have:=HA3.out;have:=HC6.out;omega⟩⟩
          · have hk3:k8=3:=by
              rcases HPU.out with ⟨a1,_⟩ | ⟨G9,l9,root9,d9,pgs9,a1,_⟩
              · rw [a1] at hr8;exact (Sum.inr.inj hr8).symm
              · rw [a1] at hr8;cases hr8
            subst hk3
            have HS8:=Lib.hid (HS7.out.step hN8 hG8)
            have HE8:=Lib.hid hE8
            have HFR:=Lib.hid (HLW.out.fr.trans hf8)
            have HT2:=Lib.hid (tells13_any HS8.out.env HFU.out (faultV f8) (some (el8,3)) ⟨f8,rfl,hE8⟩ 2 (by omega))
            have HT3:=Lib.hid (tells13_k HS8.out.env HFU.out hE8 3 (by omega) rfl)
            clear hG8 hN8 hf8 hE8 hr8
            go_wp2_with fail
            refine HT2.out.mono ?_
            rintro e w9 ⟨rfl,rfl⟩
            rw [show decide (codeO (some (el8,3))=2)=false from rfl]
            go_wp2_with fail
            refine HT3.out.mono ?_
            rintro e w9 ⟨rfl,rfl⟩
            go_wp2_with fail
            go_meet
            exact Lib.hid ⟨P8,F8,G8,l8,HS8.out,HFR.out⟩
      · have HF:=Lib.hid HP.out.out
        have hend:¬ ((k:Int) < (m.length:Int))∨((k:Int) < (m.length:Int)∧¬ (k:Int) < 40):=by omega
        clear hgo
        rcases hend with hend | ⟨hend,hend2⟩
        all_goals
          go_wp2_with fail
          go_meet
          exact HF
  case rest =>
  obtain ⟨P6,F6,G6,l6,hS6,hf6⟩:=hcut.out
  have HS6:=Lib.hid hS6
  have HF6:=Lib.hid hf6
  have t1:=hS6.c1
  clear hS6 hf6 hcut
  go_wp2_with fail
  refine (pgBack HS6.out.env HS6.out.sub HS6.out.pg).mono ?_
  rintro e w7 ⟨P7,F7,hG7,hN7,rfl⟩
  have HS7:=Lib.hid (HS6.out.step hN7 hG7)
  clear hG7 hN7 t1
  have t0:=HS7.out.c0
  go_wp2_with fail
  refine (pgForget HS7.out.env HS7.out.sub HS7.out.pg).mono ?_
  rintro e w8 ⟨P8,F8,hG8,hN8,rfl⟩
  have HS8:=Lib.hid (HS7.out.step hN8 hG8)
  have HHB:=Lib.hid (HHE.out.back HF6.out)
  clear hG8 hN8 t0
  have b0:=HS8.out.c0
  have b1:=HS8.out.c1
  have b2:_=some (Value.int .u64 5):=HS8.out.c2
  obtain ⟨w9,hw9⟩:∃ w9,w9=w8.alloc (.cells #[.string ⟨#[109]⟩,.string ⟨#[102,105,114,115,116]⟩] 40):=⟨_,rfl⟩
  have m9:Ext w8 w9:=by rw [hw9];exact (Mods.refl _ w8).alloc _
  have hB9:Blk w9 w8.heap.size #[.string ⟨#[109]⟩,.string ⟨#[102,105,114,115,116]⟩] 40:=by rw [hw9];exact Blk.new _ _ _
  have HS9:=Lib.hid (HS8.out.ext m9)
  have hrow:Own F8 w9 w8.heap.size 40 2 encP (.slice (some ⟨w8.heap.size,0,none⟩) 1 1) [((⟨#[109]⟩:ByteArray),(⟨#[102,105,114,115,116]⟩:ByteArray))] :=
    Own.made (l:=[((⟨#[109]⟩:ByteArray),(⟨#[102,105,114,115,116]⟩:ByteArray))]) (cur:=#[.string ⟨#[109]⟩,.string ⟨#[102,105,114,115,116]⟩]) (cap:=1) hB9 (Nat.le_refl _) (fun f=>Nat.lt_irrefl _ (HS8.out.env.lt _ f)) (by simp) (by simp [maxLen]) (by simp) (by simp [encP]) encP_ok.len
  have HWH:=whole13_any (w:=w9) HS9.out.env HS9.out.sub HS9.out.pg HHB.out.lot (by omega) (by simp) _ (hrow.sl encP_ok.len (by simp))
  rw [pgV5] at HWH
  rw [show ((12:Nat):Int)=12 from rfl] at HWH
  have HWH:=Lib.hid HWH
  have HW9:=Lib.hid hw9
  have HAW:=Lib.hid (fun (W:World) (F':Nat→Prop) (he:Env F' ad W)=>awake13_any (he.anti (Q:=NoB) (fun _ f=>f.elim)))
  clear m9 hB9 hrow hw9
  go_wp2_with fail
  rw [← HW9.out]
  refine HWH.out.mono ?_
  rintro e w10 ⟨P10,F10,hG10,hN10,rfl⟩
  have HS10:=Lib.hid (HS9.out.step hN10 hG10)
  clear hG10 hN10
  go_wp2_with fail
  refine (HAW.out _ _ HS10.out.env).mono ?_
  rintro e w11 ⟨rfl,hm11⟩
  have HX:=Lib.hid (HS10.out.ext0.trans hm11)
  clear hm11
  go_wp2_with fail
  go_ret
  exact ⟨rfl,HX.out⟩
end Go.Proofs.YtphafjmdhmpkbaaGreatDoor
