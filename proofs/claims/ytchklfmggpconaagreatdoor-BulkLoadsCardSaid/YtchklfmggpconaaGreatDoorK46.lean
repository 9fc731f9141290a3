import Derived.Test.YtchklfmggpconaaGreatDoorK45
namespace Go.Proofs.YtchklfmggpconaaGreatDoor
open Go.RowKit
structure GLe(G H:GA):Prop where
 blocks:H.blocks=G.blocks
 size:H.size=G.size
 cost:H.cost=G.cost
 look:H.look=G.look
 last:H.last=G.last
 view:∀id r,G.view id=some r→H.view id=some r
section
variable {P F:Nat→Prop}{ad:Nat→Addr}{w:World}{c s:Nat}{G H:GA}{l:List Nat}
theorem PgR.tot(h:PgR F w P c s G l):∃H,GLe G H∧H.total∧PgR F w P c s H l:=by
 obtain⟨d,sb,bvs,Pd,b2,C,h1,h2,h3,h4,h5,h6,h7⟩:=h;exact⟨{ G with view:=λid=>some (C.vw id) },⟨rfl,rfl,rfl,rfl,rfl,λid r hr=>congrArg some (h3.view id r hr)⟩,λi _=>⟨_,rfl⟩,d,sb,bvs,Pd,b2,C,h1,h2,⟨h3.blocks,h3.size,λid r hr=>Option.some.inj hr,h3.look,h3.last,h3.cost⟩,h4,h5,h6,h7⟩
theorem PgR.le(hl:GLe G H)(h:PgR F w P c s H l):PgR F w P c s G l:=by
 obtain⟨d,sb,bvs,Pd,b2,C,h1,h2,h3,h4,h5,h6,h7⟩:=h;exact⟨d,sb,bvs,Pd,b2,C,h1,h2,⟨h3.blocks.trans hl.blocks,h3.size.trans hl.size,λid r hr=>h3.view id r (hl.view id r hr),λid b hb=>h3.look id b (by rw[hl.look];exact hb),λid b hb=>h3.last id b (by rw[hl.last];exact hb),by rw[← hl.cost];exact h3.cost⟩,by rw[← hl.cost];exact h4,h5,h6,h7⟩
end
section
variable {G H:GA}{gen:Nat}
theorem EntC.known{e:EntryA}{v:ByteArray}{ids:List Nat}(h:EntC G gen e v ids):∀i∈ids,∃r,G.view i=some r:=by
 intro i hi;rcases h with ⟨_,_,rfl⟩|⟨_,h⟩
 ·simp at hi
 ·obtain⟨g,_,hp⟩:=h.page;obtain⟨k,hk,rfl⟩:=List.getElem_of_mem hi;have:=hp k hk;rw[show ids.getD k 0=ids[k] by simp[List.getD,hk]] at this;exact⟨_,this⟩
theorem Ents.known{es:List EntryA}{ps:List PairS}{q:List Nat}(h:Ents G gen es ps q):∀i∈q,∃r,G.view i=some r:=by
 induction h with
 | nil=>intro i hi;simp at hi
 | cons _ h2 _ ih=>intro i hi;exact (List.mem_append.1 hi).elim (h2.known i) (ih i)
theorem Kids.known{T:TreeT}{lo:ByteArray}{hi:Option ByteArray}{kk:List ByteArray}{cc:List Int}{ps:List PairS}{q:List Nat}(hT:∀lo hi c ps q,T lo hi c ps q→∀i∈q,∃r,G.view i=some r)(h:Kids T lo hi kk cc ps q):∀i∈q,∃r,G.view i=some r:=by
 induction h with
 | one h=>exact hT _ _ _ _ _ h
 | cons h1 _ _ ih=>intro i hi;exact (List.mem_append.1 hi).elim (hT _ _ _ _ _ h1 i) (ih i)
theorem TrD.known:∀(d:Nat) (lo:ByteArray) (hi:Option ByteArray) (id:Nat) (ps:List PairS) (q:List Nat),TrD G gen d lo hi id ps q→∀i∈q,∃r,G.view i=some r
 | 0,_,_,_,_,_,h=>h.elim
 | d+1,lo,hi,id,ps,pgs,h=>by
  obtain⟨n,q,h1,_,rfl,h3⟩:=h;intro i hi;rcases List.mem_cons.1 hi with rfl|hi
  ·obtain⟨p,hp,_⟩:=h1.page;exact⟨_,hp⟩
  ·rcases h3 with ⟨_,_,_,h4,_⟩|⟨_,h4⟩
   ·exact h4.known i hi
   ·exact h4.known (TrD.known d) i hi
theorem TD.known{root d:Nat}{ps:List PairS}{pgs:List Nat}(h:TD G gen root d ps pgs):∀i∈pgs,∃r,G.view i=some r:=by
 rcases h.tree with ⟨_,_,_,rfl⟩|⟨_,h⟩
 ·intro i hi;simp at hi
 ·exact TrD.known _ _ _ _ _ _ h
theorem TD.up{root d:Nat}{ps:List PairS}{pgs:List Nat}(h:TD G gen root d ps pgs)(hl:GLe G H):TD H gen root d ps pgs :=
 h.mono (Nat.le_refl _) hl.blocks hl.size (λi hi=>by obtain⟨r,hr⟩:=h.known i hi;rw[hl.view i r hr,hr])
end
section
variable {P F:Nat→Prop}{ad:Nat→Addr}{w:World}{c s:Nat}{G H:GA}{l:List Nat}{gen root d:Nat}{ps:List PairS}{pgs:List Nat}
theorem TD.rootlt(h:TD G gen root d ps pgs)(hb:G.blocks≤256):root<256:=by
 rcases h.tree with ⟨rfl,_,_,_⟩|⟨_,hT⟩
 ·omega
 ·obtain⟨r,hr⟩:=TrD.head _ _ _ _ _ _ hT;have:=h.lt root (by rw[hr];simp);omega
theorem walkT_any(hL:Env F ad w)(hP:∀k,P k→F k)(h:PgR F w P c s G l)(g:Nat)(hT:TD G gen root d ps pgs)(hg:gen≤g)(hs:256≤G.size)(hb:G.blocks≤256) :
  Calls Tryz.prog 17 #[pgV c s g,.int .i64 (root:Int)] w (PgDone F P ad w c s G l (λF' w' e=>WalkRes F' ad w' (.inl ⟨iL pgs,ps.map (·.1),d⟩) e)):=by
 obtain⟨H,hl,ht,hH⟩:=h.tot;have hr:=hT.rootlt hb;have hT2:=(hT.up hl).mono hg rfl rfl (λ_ _=>rfl);have hW:=lookWalk_any hL hP hH g (root:Int) ((Lit.wf_int_iff .i64 _).2 ⟨by show -9223372036854775808≤(root:Int);omega,by show (root:Int)≤9223372036854775807;omega⟩) (by rw[hl.blocks];exact hb) ht;rw[hT2.walk (by rw[hl.size];exact hs) (by rw[hl.blocks];exact hb)] at hW;refine hW.mono ?_;rintro e w' ⟨P',F',hG,hN,hr⟩;exact⟨P',F',hG.le hl,hN,hr⟩
end
end Go.Proofs.YtchklfmggpconaaGreatDoor
