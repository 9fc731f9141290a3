/- insert.Put on a search tree: the tree that comes of it. Plain. | insert.settle on a search tree. Plain. | insert.Put on a search tree: a leaf with a pair, a node with a pair beneath it, a whole tree. Plain. -/
import Derived.Test.YtphafjmdhmpkbaaGreatDoorK28
import Derived.Test.YtphafjmdhmpkbaaGreatDoorK24
namespace Go.Proofs.YtphafjmdhmpkbaaGreatDoor
open Go.RowKit
/-! ### right nodes -/
theorem right_leafI {es:List EntryA} (h1:∀ e ∈ es,rightE e=true) (h2:(es.map (·.key)).Pairwise fun a b=>ltS a b=true) (h3:es.length≤65535):rightN ⟨true,es,[],[]⟩=true:=by
  unfold rightN
  simp only [if_true,Bool.and_eq_true,decide_eq_true_eq,List.all_eq_true]
  exact ⟨⟨⟨⟨h1,rfl⟩,rfl⟩,pw_rising h2⟩,h3⟩
theorem right_innerI {keys:List ByteArray} {kids:List Int} (h1:2≤kids.length) (h2:kids.length=keys.length+1) (h3:∀ k ∈ kids,2≤k∧k < 256) (h4:kids.Nodup) (h5:∀ s ∈ keys,keyB s=true) (h6:keys.Pairwise fun a b=>ltS a b=true):rightN ⟨false,[],keys,kids⟩=true:=by
  unfold rightN
  simp only [Bool.false_eq_true,if_false,Bool.and_eq_true,decide_eq_true_eq,List.all_eq_true]
  have h7:=nodup_fewW 256 kids h4 (fun i hi=>by have:=h3 i hi;omega)
  exact ⟨⟨⟨⟨⟨⟨⟨rfl,h1⟩,h2⟩,h7⟩,fun k hk=>by have:=h3 k hk;simp [kidB];omega⟩,h4⟩,h5⟩,pw_rising h6⟩
theorem rightN_sz {n:NodeA} (h:rightN n=true):n.entries.length≤65535∧n.kids.length≤256∧(n.leaf=false→2≤n.kids.length):=by
  unfold rightN at h
  split at h
  · rename_i hl
    simp only [Bool.and_eq_true,decide_eq_true_eq,List.isEmpty_iff] at h
    refine ⟨h.2,by rw [h.1.1.2];simp,fun hf=>by rw [hl] at hf;cases hf⟩
  · simp only [Bool.and_eq_true,decide_eq_true_eq,List.isEmpty_iff] at h
    obtain ⟨⟨⟨⟨⟨⟨⟨h1,h2⟩,h3⟩,h4⟩,h5⟩,h6⟩,h7⟩,h8⟩:=h
    exact ⟨by rw [h1];simp,h4,fun _=>h2⟩
section
variable {G G':GA} {gen:Nat} {T:TreeT} {lo:ByteArray} {hi:Option ByteArray} {l:List PairS} {q:List Nat} {kk:List ByteArray} {cc:List Int}
/-! ### entries -/
theorem Ents.keys {es:List EntryA} (h:Ents G gen es l q):es.map (·.key)=l.map (·.1):=by
  induction h with
  | nil=>rfl
  | cons h1 _ _ ih=>simp [h1,ih]
theorem Ents.len {es:List EntryA} (h:Ents G gen es l q):es.length=l.length:=by
  have:=congrArg List.length h.keys
  simpa using this
theorem Ents.append {es1 es2:List EntryA} {l1 l2:List PairS} {q1 q2:List Nat} (h1:Ents G gen es1 l1 q1) (h2:Ents G gen es2 l2 q2):Ents G gen (es1 ++ es2) (l1 ++ l2) (q1 ++ q2):=by
  induction h1 with
  | nil=>exact h2
  | cons a b _ ih=>simp only [List.cons_append,List.append_assoc];exact .cons a b ih
theorem Ents.split:∀ (es1:List EntryA) {es2:List EntryA} {l:List PairS} {q:List Nat},Ents G gen (es1 ++ es2) l q→∃ l1 l2 q1 q2,Ents G gen es1 l1 q1∧Ents G gen es2 l2 q2∧l=l1 ++ l2∧q=q1 ++ q2
  | [],es2,l,q,h=>⟨[],l,[],q,.nil,h,rfl,rfl⟩
  | e :: es1,es2,l,q,h=>by
    generalize hs:e :: es1 ++ es2=es at h
    cases h with
    | nil=>simp at hs
    | cons a b c =>
      simp only [List.cons_append,List.cons.injEq] at hs
      obtain ⟨rfl,rfl⟩:=hs
      obtain ⟨l1,l2,q1,q2,h1,h2,rfl,rfl⟩:=Ents.split es1 c
      exact ⟨_,_,_,_,.cons a b h1,h2,rfl,(List.append_assoc _ _ _).symm⟩
theorem Ents.one {e:EntryA} {x:PairS} {ids:List Nat} (h1:e.key=x.1) (h2:EntC G gen e x.2 ids):Ents G gen [e] [x] ids:=by
  have:=Ents.cons h1 h2 .nil
  simpa using this
theorem Ents.lt {es:List EntryA} (h:Ents G gen es l q):∀ i ∈ q,2≤i∧i < G.blocks:=by
  induction h with
  | nil=>intro i hi;simp at hi
  | cons _ b _ ih =>
    intro i hi
    rcases List.mem_append.1 hi with hi | hi
    · rcases b with ⟨_,_,b⟩ | ⟨_,b⟩
      · rw [b] at hi;simp at hi
      · exact b.lt i hi
    · exact ih i hi
/-! ### trees -/
theorem Kids.ne (hT:∀ lo hi c l q,T lo hi c l q→l ≠ []) (h:Kids T lo hi kk cc l q):l ≠ []:=by
  cases h with
  | one h=>exact hT _ _ _ _ _ h
  | cons h _ _=>exact fun e=>hT _ _ _ _ _ h (List.append_eq_nil_iff.1 e).1
theorem TrD.ne:∀ (d:Nat) (lo:ByteArray) (hi:Option ByteArray) (id:Nat) (l:List PairS) (q:List Nat),TrD G gen d lo hi id l q→l ≠ []
  | 0,_,_,_,_,_,h=>h.elim
  | d+1,lo,hi,id,l,q,h=>by
    obtain ⟨n,q,_,_,_,h⟩:=h
    rcases h with ⟨_,_,h,_⟩ | ⟨_,h⟩
    · exact h
    · exact h.ne (TrD.ne d)
theorem Kids.ltq (hT:∀ lo hi c l q,T lo hi c l q→∀ i ∈ q,2≤i∧i < G.blocks) (h:Kids T lo hi kk cc l q):∀ i ∈ q,2≤i∧i < G.blocks:=by
  induction h with
  | one h=>exact hT _ _ _ _ _ h
  | cons h _ _ ih =>
    intro i hi
    rcases List.mem_append.1 hi with hi | hi
    · exact hT _ _ _ _ _ h i hi
    · exact ih i hi
theorem TrD.ltq:∀ (d:Nat) (lo:ByteArray) (hi:Option ByteArray) (id:Nat) (l:List PairS) (q:List Nat),TrD G gen d lo hi id l q→∀ i ∈ q,2≤i∧i < G.blocks
  | 0,_,_,_,_,_,h=>h.elim
  | d+1,lo,hi,id,l,q,h=>by
    obtain ⟨n,q,hp,_,rfl,h⟩:=h
    intro i hi
    rcases List.mem_cons.1 hi with rfl | hi
    · exact ⟨hp.lo,hp.lt⟩
    · rcases h with ⟨_,_,_,h,_⟩ | ⟨_,h⟩
      · exact h.lt i hi
      · exact h.ltq (TrD.ltq d) i hi
theorem Kids.heads (hT:∀ lo hi c l q,T lo hi c l q→∃ r,q=c :: r) (h:Kids T lo hi kk cc l q):∃ ks:List Nat,cc=ks.map (fun (i:Nat)=>(i:Int))∧ks.Sublist q:=by
  induction h with
  | @one lo hi c l q h =>
    obtain ⟨r,rfl⟩:=hT _ _ _ _ _ h
    exact ⟨[c],rfl,List.Sublist.cons_cons _ (List.nil_sublist _)⟩
  | @cons lo hi s c keys kids l1 l2 q1 q2 h _ _ ih =>
    obtain ⟨r,rfl⟩:=hT _ _ _ _ _ h
    obtain ⟨ks,rfl,hs⟩:=ih
    exact ⟨c :: ks,rfl,List.Sublist.cons_cons _ (hs.trans (List.sublist_append_right _ _))⟩
theorem TrD.head:∀ (d:Nat) (lo:ByteArray) (hi:Option ByteArray) (id:Nat) (l:List PairS) (q:List Nat),TrD G gen d lo hi id l q→∃ r,q=id :: r
  | 0,_,_,_,_,_,h=>h.elim
  | d+1,lo,hi,id,l,q,h=>by
    obtain ⟨n,q,_,_,rfl,_⟩:=h
    exact ⟨_,rfl⟩
theorem Kids.rise (hb:∀ lo hi c l q,T lo hi c l q→∀ x ∈ l,inB lo hi x.1) (hT:∀ lo hi c l q,T lo hi c l q→l ≠ []) (h:Kids T lo hi kk cc l q):(kk.Pairwise fun a b=>ltS a b=true)∧∀ s ∈ kk,ltS lo s=true:=by
  induction h with
  | one=>exact ⟨List.Pairwise.nil,fun s hs=>by simp at hs⟩
  | @cons lo hi s c keys kids l1 l2 q1 q2 h _ _ ih =>
    have hls:ltS lo s=true:=by
      obtain ⟨x,hx⟩:=List.exists_mem_of_ne_nil _ (hT _ _ _ _ _ h)
      have:=hb _ _ _ _ _ h x hx
      exact lt_of_not_lt this.1 (this.2 s rfl)
    refine ⟨List.pairwise_cons.2 ⟨fun t ht=>ih.2 t ht,ih.1⟩,fun t ht=>?_⟩
    rcases List.mem_cons.1 ht with rfl | ht
    · exact hls
    · exact ltS_trans hls (ih.2 t ht)
theorem Kids.right {d:Nat} (h:Kids (TrD G gen d) lo hi kk cc l q) (hn:q.Nodup) (hk:∀ s ∈ kk,keyB s=true) (h2:2≤cc.length) (hb:G.blocks≤256):rightN ⟨false,[],kk,cc⟩=true:=by
  obtain ⟨ks,rfl,hs⟩:=h.heads (TrD.head d)
  refine right_innerI h2 h.len (fun k hk=>?_) ?_ hk (h.rise (TrD.bounds d) (TrD.ne d)).1
  · obtain ⟨i,hi,rfl⟩:=List.mem_map.1 hk
    have:=h.ltq (TrD.ltq d) i (hs.subset hi)
    omega
  · exact List.pairwise_map.2 ((hn.sublist hs).imp (fun h e=>h (by omega)))
theorem Body.cut {d:Nat} {n:NodeA} {a:Nat} (hb:Body G gen (TrD G gen d) d lo hi n l q) (hr:rightN n=true) (hp:PlaceN n a) (hq:q.Nodup) (hbl:G.blocks≤256) :
    ∃ l1 l2 q1 q2,Body G gen (TrD G gen d) d lo (some (apartA n a).2.1) (apartA n a).1 l1 q1∧Body G gen (TrD G gen d) d (apartA n a).2.1 hi (apartA n a).2.2 l2 q2∧l=l1 ++ l2∧q=q1 ++ q2 ∧
      inB lo hi (apartA n a).2.1∧keyB (apartA n a).2.1=true∧rightN (apartA n a).1=true∧rightN (apartA n a).2.2=true:=by
  rcases hb with ⟨hl,hd,hne,he,hbd⟩ | ⟨hl,hk⟩
  · have hpl:=hp.leaf hl
    have hright:=rightN_ents hr
    have hpw:=rightN_leaf hr hl
    have hlen:n.entries.length≤65535:=by
      unfold rightN at hr
      rw [if_pos hl] at hr
      simp only [Bool.and_eq_true,decide_eq_true_eq] at hr
      exact hr.2
    obtain ⟨e,hea⟩:∃ e,n.entries[a]? = some e:=⟨_,List.getElem?_eq_getElem hpl.2⟩
    have hap:apartA n a=(⟨true,n.entries.take a,[],[]⟩,e.key,⟨true,n.entries.drop a,[],[]⟩):=by unfold apartA;rw [if_pos hl,hea]
    rw [hap]
    simp only
    have he2:Ents G gen (n.entries.take a ++ n.entries.drop a) l q:=by rw [List.take_append_drop];exact he
    obtain ⟨l1,l2,q1,q2,s1,s2,rfl,rfl⟩:=Ents.split _ he2
    have hkeys:=he.keys
    have hsort:SortedP (l1 ++ l2):=by
      rw [hkeys] at hpw
      exact List.pairwise_map.1 hpw
    have hdrop:n.entries.drop a=e :: n.entries.drop (a+1):=by
      obtain ⟨h1,rfl⟩:=List.getElem?_eq_some_iff.1 hea
      exact List.drop_eq_getElem_cons h1
    obtain ⟨y,l3,rfl,hy⟩:∃ y l3,l2=y :: l3∧e.key=y.1:=by
      have h4:=s2.keys
      rw [hdrop] at h4
      cases l2 with
      | nil=>simp at h4
      | cons y l3=>simp only [List.map_cons,List.cons.injEq] at h4;exact ⟨y,l3,rfl,h4.1⟩
    have hse:=List.pairwise_append.1 hsort
    have h1ne:l1 ≠ []:=fun e1=>by
      have:=s1.len
      rw [e1,List.length_take,List.length_nil] at this
      omega
    have hin:inB lo hi e.key:=by rw [hy];exact hbd y (by simp)
    refine ⟨l1,y :: l3,q1,q2,.inl ⟨rfl,hd,h1ne,s1,fun x hx=>⟨(hbd x (List.mem_append_left _ hx)).1,fun k hk=>?_⟩⟩,.inl ⟨rfl,hd,by simp,s2,fun x hx=>⟨?_,(hbd x (List.mem_append_right _ hx)).2⟩⟩,rfl,rfl,hin,?_,?_,?_⟩
    · injection hk with hk
      rw [← hk,hy]
      exact hse.2.2 x hx y List.mem_cons_self
    · rw [hy]
      rcases List.mem_cons.1 hx with rfl | hx
      · exact ltS_irrefl _
      · exact ltS_asymm ((List.pairwise_cons.1 hse.2.1).1 x hx)
    · have:=hright e (List.mem_of_getElem? hea)
      unfold rightE at this
      simp only [Bool.and_eq_true] at this
      exact this.1
    · refine right_leafI (fun x hx=>hright x (List.mem_of_mem_take hx)) ?_ (by rw [List.length_take];omega)
      rw [List.map_take]
      exact hpw.sublist (List.take_sublist _ _)
    · refine right_leafI (fun x hx=>hright x (List.mem_of_mem_drop hx)) ?_ (by rw [List.length_drop];omega)
      rw [List.map_drop]
      exact hpw.sublist (List.drop_sublist _ _)
  · have hpl:=hp.inner hl
    obtain ⟨hpw,hkl,_⟩:=rightN_inner hr hl
    have hkb:=rightN_keyB hr
    have hlt:a - 1 < n.keys.length:=by omega
    obtain ⟨s,hs⟩:∃ s,n.keys[a - 1]? = some s:=⟨_,List.getElem?_eq_getElem hlt⟩
    have hap:apartA n a=(⟨false,[],n.keys.take (a - 1),n.kids.take a⟩,s,⟨false,[],n.keys.drop a,n.kids.drop a⟩):=by
      unfold apartA;rw [if_neg (by rw [hl];simp)];simp [List.getD,hs]
    have hke:n.keys=n.keys.take (a - 1) ++ s :: n.keys.drop a:=by
      have h1:n.keys.drop (a - 1)=s :: n.keys.drop (a - 1+1):=by
        obtain ⟨h1,rfl⟩:=List.getElem?_eq_some_iff.1 hs
        exact List.drop_eq_getElem_cons h1
      rw [show a - 1+1=a by omega] at h1
      rw [← h1,List.take_append_drop]
    have hks:Kids (TrD G gen d) lo hi (n.keys.take (a - 1) ++ s :: n.keys.drop a) (n.kids.take a ++ n.kids.drop a) l q:=by rw [← hke,List.take_append_drop];exact hk
    obtain ⟨l1,l2,q1,q2,k1,k2,rfl,rfl,k5⟩:=Kids.split _ hks (by rw [List.length_take,List.length_take];omega) (by rw [← hke];exact hpw)
    rw [hap]
    simp only
    have hnd:=List.nodup_append.1 hq
    refine ⟨l1,l2,q1,q2,.inr ⟨rfl,k1⟩,.inr ⟨rfl,k2⟩,rfl,rfl,k5,hkb s (List.mem_of_getElem? hs),?_,?_⟩
    · exact k1.right hnd.1 (fun t ht=>hkb t (List.mem_of_mem_take ht)) (by rw [List.length_take];omega) hbl
    · exact k2.right hnd.2.1 (fun t ht=>hkb t (List.mem_of_mem_drop ht)) (by rw [List.length_drop];omega) hbl
end
structure CtxG (G:GA) (l:List Nat):Prop where
  low:LowL l
  len:l.length=G.blocks
  b256:G.blocks≤256
  s256:256≤G.size
  s1024:G.size≤1024
section
variable {G G' G1:GA} {l l' l1:List Nat} {gen:Nat} {lo:ByteArray} {hi:Option ByteArray} {ps:List PairS} {q:List Nat}
theorem CtxG.upd {A A1:Nat→Prop} (hc:CtxG G l) (h:Upd G l A G' l' A1) (hA:∀ i,A i→2≤i):CtxG G' l' :=
  ⟨(h.fr hA).lowL hc.low,by rw [h.len,h.bl];exact hc.len,by rw [h.bl];exact hc.b256,by rw [h.sz];exact hc.s256,by rw [h.sz];exact hc.s1024⟩
theorem CtxG.free2 (hc:CtxG G l) {i:Nat} (h:l[i]? = some 0):2≤i:=by
  rcases Nat.lt_or_ge i 2 with h2 | h2
  · obtain rfl | rfl:i=0∨i=1:=by omega
    · rw [hc.low.1] at h;simp at h
    · rw [hc.low.2] at h;simp at h
  · exact h2
theorem UseL.ne0 {A:Nat→Prop} (hu:UseL l A) {i:Nat} (hi:A i):l[i]? ≠ some 0:=fun e=>by
  rcases hu i hi with h | h <;> rw [e] at h <;> simp at h
theorem Upd.views {A A1:Nat→Prop} (h:Upd G l A G1 l1 A1) {ids:List Nat} (hd:∀ i ∈ ids,¬ A i) (hu:UseL l (· ∈ ids)):(∀ i ∈ ids,G1.view i=G.view i∧l1[i]? = l[i]? ∧ ¬ A1 i)∧UseL l1 (· ∈ ids) :=
  ⟨fun i hi=>h.view (hd i hi) (hu.ne0 hi),fun i hi=>by rw [(h.view (hd i hi) (hu.ne0 hi)).2.1];exact hu i hi⟩
theorem placeI_none {old:Nat} (h:placeI l old=none) (ho:PlaceOf l old):phiL l≤0:=by
  unfold placeI at h
  by_cases hz:old=0
  · rw [if_neg (by simp [hz])] at h
    rcases Int.lt_or_le 0 (phiL l) with hp | hp
    · obtain ⟨i,hi⟩:=phi_free (l:=l) (by omega)
      rw [hi] at h;cases h
    · exact hp
  · split at h
    · cases h
    · rename_i hn
      rcases ho with ho | ⟨_,ho⟩
      · exact absurd ho hz
      · rcases ho with ho | ho
        · rcases Int.lt_or_le 0 (phiL l) with hp | hp
          · obtain ⟨i,hi⟩:=phi_last (l:=l) (by omega) ho
            rw [hi] at h;cases h
          · exact hp
        · exfalso
          refine hn ⟨hz,?_⟩
          unfold spFresh
          rw [Int.toNat_natCast,ho];simp
theorem downI_none {old:Nat} {n:NodeA} (h:downI G l old n=none) (hd:downOk n G.size) (ho:PlaceOf l old):phiL l≤0:=by
  unfold downI at h
  rw [if_pos hd] at h
  exact placeI_none h ho
theorem dec_put {n:NodeA} (hr:rightN n=true) (i:Int) (gen:Nat):decodeA ⟨kindA n,i,gen,bytesN n⟩=.inl n:=by
  unfold decodeA kindA
  cases hl:n.leaf with
  | true =>
    have:=(getN_iff true (bytesN n) n).2 ⟨hr,hl,rfl⟩
    simp [this]
  | false =>
    have:=(getN_iff false (bytesN n) n).2 ⟨hr,hl,rfl⟩
    simp [this]
theorem down_tr {old i d:Nat} {n:NodeA} (hc:CtxG G l) (ho:PlaceOf l old) (hdn:downI G l old n=some i) (hr:rightN n=true) (hb:Body G gen (TrD G gen d) d lo hi n ps q) (hq:q.Nodup) (hu:UseL l (· ∈ q)) (hoq:old ≠ 0→old ∉ q) (_h2:∀ x ∈ q,2≤x) :
    Upd G l (fun k=>(k=old∧old ≠ 0)∨k ∈ q) (downG G l gen old n) (downL G l old n) (fun k=>k=i∨k ∈ q)∧TrD (downG G l gen old n) gen (d+1) lo hi i ps (i :: q)∧(i :: q).Nodup∧2≤i∧CtxG (downG G l gen old n) (downL G l old n) ∧
      UseL (downL G l old n) (fun k=>k=i∨k ∈ q)∧PlaceOf (downL G l old n) i:=by
  obtain ⟨u1,_,u3,u4,u5,u6⟩:=upd_down (gen:=gen) ho hdn (by rw [hc.low.1];simp)
  have hA2:∀ k,(k=old∧old ≠ 0)→2≤k:=fun k hk=>by
    obtain ⟨rfl,hz⟩:=hk
    rcases ho with h | h
    · exact absurd h hz
    · exact h.1
  have huA:UseL l (fun k=>k=old∧old ≠ 0):=fun k hk=>by
    obtain ⟨rfl,hz⟩:=hk
    rcases ho with h | h
    · exact absurd h hz
    · exact h.2
  have hdis:∀ k ∈ q,¬ (k=old∧old ≠ 0):=fun k hk h=>hoq h.2 (h.1 ▸ hk)
  obtain ⟨hv,hu1⟩:=u1.views hdis hu
  have hiq:i ∉ q:=fun hm=>(hv i hm).2.2 rfl
  have hi2:2≤i:=by
    rcases u1.inn i rfl with ⟨h,_⟩ | ⟨h,_⟩
    · exact hA2 i h
    · exact hc.free2 h
  have hc1:=hc.upd u1 hA2
  have hui:=u1.use huA
  refine ⟨u1.frame (fun k hk=>⟨hdis k hk,hu.ne0 hk⟩),⟨n,q,⟨hi2,?_,⟨_,u5,Nat.le_refl _,dec_put hr _ _⟩,by rw [u1.sz];exact u6.2⟩,hr,rfl,hb.mono (Nat.le_refl _) u1.bl u1.sz (fun k hk=>(hv k hk).1)⟩,List.nodup_cons.2 ⟨hiq,hq⟩,hi2,hc1,fun k hk=>?_,.inr ⟨hi2,hui i rfl⟩⟩
  · rw [u1.bl];have:=hc.len;omega
  · rcases hk with rfl | hk
    · exact hui k rfl
    · exact hu1 k hk
def outKeys (o:OutA):List ByteArray:=if o.two=true then [o.key] else []
def outKids (o:OutA):List Int:=if o.two=true then [(o.id0:Int),(o.id1:Int)] else [(o.id0:Int)]
structure Came (G:GA) (l:List Nat) (A:Nat→Prop) (gen d:Nat) (lo:ByteArray) (hi:Option ByteArray) (ps:List PairS) (G':GA) (l':List Nat) (o:OutA) (pgs:List Nat):Prop where
  upd:Upd G l A G' l' (fun k=>k ∈ pgs)
  nodup:pgs.Nodup
  two:∀ i ∈ pgs,2≤i
  kids:Kids (TrD G' gen d) lo hi (outKeys o) (outKids o) ps pgs
  keys:∀ s ∈ outKeys o,keyB s=true
  ctx:CtxG G' l'
  use:UseL l' (fun k=>k ∈ pgs)
theorem settle_tr {old d:Nat} {n:NodeA} (hc:CtxG G l) (ho:PlaceOf l old) (hr:rightN n=true) (hw:weightN n≤(G.size:Int) - 24+77) (hb:Body G gen (TrD G gen d) d lo hi n ps q) (hq:q.Nodup) (hu:UseL l (· ∈ q)) (hoq:old ≠ 0→old ∉ q) (h2:∀ x ∈ q,2≤x) :
    (settleA G l gen old n=.inr 3∧phiL l≤1) ∨
    ∃ G' l' o pgs,settleA G l gen old n=.inl (G',l',o)∧o.news=false∧Came G l (fun k=>(k=old∧old ≠ 0)∨k ∈ q) gen (d+1) lo hi ps G' l' o pgs∧pgs.length≤q.length+2∧(weightN n≤(G.size:Int) - 24→o.two=false):=by
  have hs:=hc.s256
  by_cases hfit:weightN n≤(G.size:Int) - 24
  · unfold settleA
    rw [if_pos hfit]
    cases hdn:downI G l old n with
    | none =>
      refine .inl ⟨?_,by have:=downI_none hdn ⟨hr,hfit⟩ ho;omega⟩
      unfold downK;rw [if_pos ⟨hr,hfit⟩]
    | some i =>
      obtain ⟨a1,a2,a3,a4,a5,a6,a7⟩:=down_tr hc ho hdn hr hb hq hu hoq h2
      refine .inr ⟨_,_,_,i :: q,rfl,rfl,⟨a1.iff (fun _=>Iff.rfl) (fun k=>by rw [List.mem_cons]),a3,fun k hk=>?_,?_,fun s hs=>by simp [outKeys] at hs,a5,fun k hk=>a6 k (List.mem_cons.1 hk)⟩,by simp,fun _=>rfl⟩
      · rcases List.mem_cons.1 hk with rfl | hk
        · exact a4
        · exact h2 k hk
      · exact .one a2
  · obtain ⟨a,ha,hcut,w1,w2⟩:=cut_fit hr (W:=(G.size:Int) - 24) (by omega) (by omega) (by omega)
    obtain ⟨l1,l2,q1,q2,b1,b2,rfl,rfl,b5,b6,b7,b8⟩:=hb.cut hr ha hq hc.b256
    obtain ⟨⟨x,k,y⟩,hx⟩:∃ x,x=apartA n a:=⟨_,rfl⟩
    rw [← hx] at hcut w1 w2 b1 b2 b5 b6 b7 b8
    simp only at w1 w2 b1 b2 b5 b6 b7 b8
    have hnd:=List.nodup_append.1 hq
    have e:settleA G l gen old n=(match downI G l old x with
        | none=>.inr (downK G x)
        | some i=>match downI (downG G l gen old x) (downL G l old x) 0 y with
          | none=>.inr (downK (downG G l gen old x) y)
          | some j=>.inl (downG (downG G l gen old x) (downL G l old x) gen 0 y,downL (downG G l gen old x) (downL G l old x) 0 y,⟨i,j,k,true,false⟩)):=by
      unfold settleA
      rw [if_neg hfit,hcut]
      simp only
      rw [if_pos ⟨w1,w2⟩]
      rfl
    rw [e]
    cases hdn:downI G l old x with
    | none =>
      refine .inl ⟨?_,by have:=downI_none hdn ⟨b7,w1⟩ ho;omega⟩
      simp only
      unfold downK;rw [if_pos ⟨b7,w1⟩]
    | some i =>
      have hu1:UseL l (· ∈ q1):=fun k hk=>hu k (List.mem_append_left _ hk)
      have hu2:UseL l (· ∈ q2):=fun k hk=>hu k (List.mem_append_right _ hk)
      obtain ⟨a1,a2,a3,a4,a5,a6,a7⟩:=down_tr hc ho hdn b7 b1 hnd.1 hu1 (fun hz hm=>hoq hz (List.mem_append_left _ hm)) (fun k hk=>h2 k (List.mem_append_left _ hk))
      simp only
      generalize hGx:downG G l gen old x=Gx at a1 a2 a5 ⊢
      generalize hlx:downL G l old x=lx at a1 a5 a6 a7 ⊢
      have hdq:∀ k ∈ q2,¬ ((k=old∧old ≠ 0)∨k ∈ q1):=fun k hk h=>by
        rcases h with ⟨rfl,hz⟩ | h
        · exact hoq hz (List.mem_append_right _ hk)
        · exact hnd.2.2 k h k hk rfl
      obtain ⟨v1,v2⟩:=a1.views hdq hu2
      have huA:UseL l (fun k=>(k=old∧old ≠ 0)∨k ∈ q1):=fun k hk=>by
        rcases hk with ⟨rfl,hz⟩ | hk
        · rcases ho with h | h
          · exact absurd h hz
          · exact h.2
        · exact hu1 k hk
      cases hdm:downI Gx lx 0 y with
      | none =>
        refine .inl ⟨?_,?_⟩
        · simp only
          unfold downK;rw [if_pos ⟨b8,by rw [a1.sz];exact w2⟩]
        · have h3:=downI_none hdm ⟨b8,by rw [a1.sz];exact w2⟩ (.inl rfl)
          have h4:=(upd_down (gen:=gen) ho hdn (by rw [hc.low.1];simp)).2.1
          rw [hlx] at h4
          split at h4 <;> omega
      | some j =>
        have hb2:=b2.mono (Nat.le_refl _) a1.bl a1.sz (fun k hk=>(v1 k hk).1)
        obtain ⟨c1,c2,c3,c4,c5,c6,c7⟩:=down_tr (gen:=gen) a5 (.inl rfl) hdm b8 hb2 hnd.2.1 v2 (fun h=>absurd rfl h) (fun k hk=>h2 k (List.mem_append_right _ hk))
        simp only
        generalize hGy:downG Gx lx gen 0 y=Gy at c1 c2 c5 ⊢
        generalize hly:downL Gx lx 0 y=ly at c1 c5 c6 c7 ⊢
        -- the first half stays
        have hd1:∀ k ∈ i :: q1,¬ ((k=0∧(0:Nat) ≠ 0)∨k ∈ q2):=fun k hk h=>by
          rcases h with ⟨_,h⟩ | h
          · exact h rfl
          · rcases List.mem_cons.1 hk with rfl | hk
            · exact (v1 k h).2.2 (.inl rfl)
            · exact hnd.2.2 k hk k h rfl
        obtain ⟨z1,z2⟩:=c1.views hd1 (fun k hk=>a6 k (List.mem_cons.1 hk))
        have hT1:TrD Gy gen (d+1) lo (some k) i l1 (i :: q1):=TrD.mono (Nat.le_refl _) c1.bl c1.sz _ _ _ _ _ _ (fun t ht=>(z1 t ht).1) a2
        have f1:=a1.frame (B:=fun t=>t ∈ q2) (fun t ht=>⟨hdq t ht,hu2.ne0 ht⟩)
        have f2:=(c1.frame (B:=fun t=>t ∈ i :: q1) (fun t ht=>⟨hd1 t ht,(fun e=>by
          rcases a6 t (List.mem_cons.1 ht) with h | h <;> rw [e] at h <;> simp at h)⟩)).iff (A':=fun t=>(t=i∨t ∈ q1)∨t ∈ q2) (A1':=fun t=>t ∈ (i :: q1) ++ (j :: q2)) (fun t=>by
            simp only [List.mem_cons]
            constructor
            · rintro ((h | h) | h)
              · exact .inr (.inl h)
              · exact .inr (.inr h)
              · exact .inl (.inr h)
            · rintro ((⟨_,h⟩ | h) | (h | h))
              · exact absurd rfl h
              · exact .inr h
              · exact .inl (.inl h)
              · exact .inl (.inr h)) (fun t=>by
            simp only [List.mem_append,List.mem_cons]
            exact or_comm)
        have huB:UseL l (fun t=>((t=old∧old ≠ 0)∨t ∈ q1)∨t ∈ q2):=fun t ht=>by
          rcases ht with ht | ht
          · exact huA t ht
          · exact hu2 t ht
        have f3:=(f1.trans f2 huB).iff (A':=fun k=>(k=old∧old ≠ 0)∨k ∈ q1 ++ q2) (A1':=fun t=>t ∈ (i :: q1) ++ (j :: q2)) (fun t=>by
          rw [List.mem_append,or_assoc]) (fun t=>Iff.rfl)
        have huE:=f3.use (fun t ht=>by
          rcases ht with ⟨rfl,hz⟩ | ht
          · exact huA t (.inl ⟨rfl,hz⟩)
          · exact hu t ht)
        refine .inr ⟨Gy,ly,_,(i :: q1) ++ (j :: q2),rfl,rfl,⟨f3,?_,fun t ht=>?_,?_,fun s hs=>?_,c5,huE⟩,by simp;omega,fun h=>absurd h hfit⟩
        · refine List.nodup_append.2 ⟨a3,c3,fun t ht u hu e=>?_⟩
          subst e
          rcases List.mem_cons.1 hu with rfl | hu
          · exact (z1 t ht).2.2 (.inl rfl)
          · exact hd1 t ht (.inr hu)
        · rcases List.mem_append.1 ht with ht | ht
          · rcases List.mem_cons.1 ht with rfl | ht
            · exact a4
            · exact h2 t (List.mem_append_left _ ht)
          · rcases List.mem_cons.1 ht with rfl | ht
            · exact c4
            · exact h2 t (List.mem_append_right _ ht)
        · exact .cons hT1 b5 (.one c2)
        · simp [outKeys] at hs
          rw [hs];exact b6
end
/-! ### how many blocks are free -/
def sumR (f:Nat→Int):Nat→Int
  | 0=>0
  | n+1=>sumR f n+f n
theorem sumR_add (f g:Nat→Int):∀ n,sumR (fun i=>f i+g i) n=sumR f n+sumR g n
  | 0=>rfl
  | n+1=>by simp only [sumR,sumR_add f g n];omega
theorem sumR_one (x:Nat):∀ n,sumR (fun i=>if i=x then 1 else 0) n=if x < n then 1 else 0
  | 0=>by simp [sumR]
  | n+1=>by
    rw [sumR,sumR_one x n]
    by_cases h1:n=x
    · subst h1;simp
    · rw [if_neg h1]
      by_cases h2:x < n
      · rw [if_pos h2,if_pos (by omega)];rfl
      · rw [if_neg h2,if_neg (by omega)];rfl
theorem sumR_zero:∀ n,sumR (fun _=>0) n=0
  | 0=>rfl
  | n+1=>by rw [sumR,sumR_zero n];rfl
theorem sumR_in:∀ (a:List Nat) (n:Nat),a.Nodup→(∀ i ∈ a,i < n)→sumR (fun i=>if i ∈ a then 1 else 0) n=a.length
  | [],n,_,_=>by simpa using sumR_zero n
  | x :: a,n,hn,h=>by
    have hn2:=List.nodup_cons.1 hn
    have e:(fun i=>if i ∈ x :: a then (1:Int) else 0)=fun i=>(if i=x then 1 else 0)+(if i ∈ a then 1 else 0):=by
      funext i
      by_cases h1:i=x
      · subst h1;simp [hn2.1]
      · simp [h1]
    rw [e,sumR_add,sumR_one,if_pos (h x List.mem_cons_self),sumR_in a n hn2.2 (fun i hi=>h i (List.mem_cons_of_mem _ hi)),List.length_cons]
    omega
def wtL (x:Option Nat):Int:=if x=some 0 then 1 else if x=some 1 then -1 else 0
theorem phi_sum (l:List Nat):∀ n,n≤l.length→phiL (l.take n)=sumR (fun i=>wtL l[i]?) n
  | 0,_=>by simp [phiL,sumR]
  | n+1,h=>by
    have hx:l[n]? = some l[n]:=List.getElem?_eq_getElem (by omega)
    rw [sumR,← phi_sum l n (by omega),take_one l n _ hx,hx]
    unfold phiL wtL
    rw [List.countP_append,List.countP_append]
    simp only [List.countP_cons,List.countP_nil,beq_iff_eq,Option.some.injEq]
    generalize l[n]=x
    by_cases h0:x=0
    · subst h0;simp;omega
    · by_cases h1:x=1
      · subst h1;simp;omega
      · simp [h0,h1]
section
variable {G G' G1:GA} {l l' l1:List Nat} {gen:Nat} {lo:ByteArray} {hi:Option ByteArray} {ps:List PairS} {q:List Nat}
theorem Upd.phi {a b:List Nat} (h:Upd G l (fun k=>k ∈ a) G' l' (fun k=>k ∈ b)) (hu:UseL l (fun k=>k ∈ a)) (ha:a.Nodup) (hb:b.Nodup):phiL l'+b.length=phiL l+a.length:=by
  have hub:=h.use hu
  have hla:∀ i ∈ a,i < l.length:=fun i hi=>by
    rcases hu i hi with e | e <;> exact (List.getElem?_eq_some_iff.1 e).1
  have hlb:∀ i ∈ b,i < l.length:=fun i hi=>by
    rw [← h.len]
    rcases hub i hi with e | e <;> exact (List.getElem?_eq_some_iff.1 e).1
  have e1:=phi_sum l l.length (Nat.le_refl _)
  have e2:=phi_sum l' l.length (by rw [h.len];exact Nat.le_refl _)
  rw [List.take_length] at e1
  rw [List.take_of_length_le (by rw [h.len];exact Nat.le_refl _)] at e2
  rw [e1,e2,← sumR_in a l.length ha hla,← sumR_in b l.length hb hlb,← sumR_add,← sumR_add]
  congr 1
  funext i
  unfold wtL
  by_cases hia:i ∈ a
  · by_cases hib:i ∈ b
    · rcases h.inn i hib with ⟨_,e⟩ | ⟨e,_⟩
      · rw [e,if_pos hia,if_pos hib]
      · exact absurd e (hu.ne0 hia)
    · rw [if_pos hia,if_neg hib]
      rcases h.gone i hia hib with ⟨e,f⟩ | ⟨e,f⟩ <;> simp [e,f]
  · by_cases hib:i ∈ b
    · rw [if_neg hia,if_pos hib]
      rcases h.inn i hib with ⟨e,_⟩ | ⟨e,f⟩
      · exact absurd e hia
      · simp [e,f]
    · rw [if_neg hia,if_neg hib,(h.rest i hia hib).1]
theorem Came.pre {A A1:Nat→Prop} {d:Nat} {o:OutA} {pgs:List Nat} (h:Came G1 l1 A1 gen d lo hi ps G' l' o pgs) (u:Upd G l A G1 l1 A1) (hu:UseL l A):Came G l A gen d lo hi ps G' l' o pgs :=
  ⟨u.trans h.upd hu,h.nodup,h.two,h.kids,h.keys,h.ctx,h.use⟩
/-! ### a leaf with a pair -/
theorem sumE_len:∀ es:List EntryA,2 * (es.length:Int)≤sumE es
  | []=>by simp [sumE]
  | e :: es=>by
    have h1:=weightE_nonneg e
    have h2:=sumE_len es
    rw [sumE,List.length_cons]
    omega
theorem getElem?_take_drop {α:Type} {l:List α} {i:Nat} {x:α} (h:l[i]? = some x):l=l.take i ++ (x :: l.drop (i+1)):=by
  obtain ⟨h1,rfl⟩:=List.getElem?_eq_some_iff.1 h
  rw [← List.drop_eq_getElem_cons h1,List.take_append_drop]
theorem Ents.at_ {es:List EntryA} (h:Ents G gen es ps q) (hpw:(es.map (·.key)).Pairwise fun a b=>ltS a b=true) (key:ByteArray) (hs:256≤G.size) (hb:G.blocks≤256) :
    ∃ l1 lm l2 q1 qm q2,Ents G gen (es.take (entAt key es)) l1 q1∧Ents G gen (es.drop (entAt key es+if entIs key es=true then 1 else 0)) l2 q2∧ps=l1 ++ (lm ++ l2)∧q=q1 ++ (qm ++ q2) ∧
      (∀ x ∈ l1,ltS x.1 key=true)∧(∀ x ∈ l2,ltS key x.1=true)∧(entIs key es=(findP key ps).isSome)∧(lm=[]∨∃ old,lm=[(key,old)]) ∧
      (∀ n:NodeA,n.entries=es→oldIds G n key=qm)∧sumE (es.take (entAt key es))+sumE (es.drop (entAt key es+if entIs key es=true then 1 else 0))≤sumE es:=by
  have hlow:∀ (i:Nat) (e:EntryA),i < entAt key es→es[i]? = some e→ltS e.key key=true:=fun i e hi he=>by
    have:=findIdx_lt (f:=fun e:EntryA=>!ltS e.key key) (show i < es.findIdx _ from hi) he
    simpa using this
  have h1low:∀ (l1:List PairS) (q1:List Nat),Ents G gen (es.take (entAt key es)) l1 q1→∀ x ∈ l1,ltS x.1 key=true:=fun l1 q1 h1 x hx=>by
    have hk:=h1.keys
    have hm:x.1 ∈ (es.take (entAt key es)).map (·.key):=by rw [hk];exact List.mem_map_of_mem hx
    obtain ⟨e,he,hex⟩:=List.mem_map.1 hm
    obtain ⟨i,hi,hie⟩:=List.getElem_of_mem he
    rw [List.length_take] at hi
    rw [← hex]
    refine hlow i e (by omega) ?_
    rw [← hie,List.getElem_take]
    exact List.getElem?_eq_getElem (by omega)
  cases hm:es[entAt key es]? with
  | none =>
    have his:entIs key es=false:=by unfold entIs;rw [hm]
    have hlen:es.length≤entAt key es:=List.getElem?_eq_none_iff.1 hm
    have htk:es.take (entAt key es)=es:=List.take_of_length_le hlen
    rw [his]
    simp only [Bool.false_eq_true,if_false,Nat.add_zero]
    rw [List.drop_eq_nil_of_le hlen,htk]
    have hl:=h1low ps q (by rw [htk];exact h)
    refine ⟨ps,[],[],q,[],[],h,.nil,by simp,by simp,hl,by simp,by rw [findP_lt hl];rfl,.inl rfl,fun n hn=>?_,by simp [sumE]⟩
    unfold oldIds;rw [hn,hm]
  | some e =>
    have hes:=getElem?_take_drop hm
    have hge:ltS e.key key=false:=by
      have:=findIdx_at (f:=fun e:EntryA=>!ltS e.key key) (l:=es) (a:=e) hm
      simpa using this
    have h2:Ents G gen (es.take (entAt key es) ++ (e :: es.drop (entAt key es+1))) ps q:=by rw [← hes];exact h
    obtain ⟨l1,l2,q1,q2,e1,e2,rfl,rfl⟩:=Ents.split _ h2
    have hl:=h1low l1 q1 e1
    generalize hr:es.drop (entAt key es+1)=r at *
    obtain ⟨x,ids,l3,q3,e3,e4,e5,rfl,rfl⟩:∃ x ids l3 q3,e.key=x.1∧EntC G gen e x.2 ids∧Ents G gen r l3 q3∧l2=x :: l3∧q2=ids ++ q3:=by
      cases e2 with
      | cons a b c=>exact ⟨_,_,_,_,a,b,c,rfl,rfl⟩
    have hsort:SortedP (l1 ++ x :: l3):=by
      rw [h.keys] at hpw
      exact List.pairwise_map.1 hpw
    have hse:=(List.pairwise_append.1 hsort).2.1
    have hx3:=(List.pairwise_cons.1 hse).1
    have hsum:=congrArg sumE hes
    rw [sumE_append,sumE] at hsum
    have hw:=weightE_nonneg e
    by_cases hk:e.key=key
    · have his:entIs key es=true:=by unfold entIs;rw [hm];simp [hk]
      rw [his]
      simp only [if_true]
      rw [hr]
      refine ⟨l1,[x],l3,q1,ids,q3,e1,e5,rfl,rfl,hl,fun y hy=>by rw [← hk,e3];exact hx3 y hy,?_,.inr ⟨x.2,by rw [← hk,e3]⟩,fun n hn=>?_,by omega⟩
      · rw [findP_append,findP_lt hl,findP_cons,if_pos (by rw [← e3,hk])];rfl
      · unfold oldIds
        rw [hn,hm]
        simp only [his,true_and]
        rcases e4 with ⟨c1,_,c3⟩ | ⟨c1,c2⟩
        · rw [if_neg (by rw [c1];simp),c3]
        · rw [if_pos c1]
          have hw:=(c2.walk hs hb).2.2.1
          have:=congrArg (List.map Int.toNat) hw
          simp only [List.map_map] at this
          rw [show (fun x:Int × List UInt8=>x.1.toNat)=Int.toNat ∘ (·.1) from rfl,this]
          rw [show (Int.toNat ∘ fun k:Nat=>(k:Int))=id from funext fun k=>Int.toNat_natCast k,List.map_id]
    · have his:entIs key es=false:=by unfold entIs;rw [hm];simp [hk]
      have hlt:ltS key e.key=true:=(not_ltS hge).resolve_right hk
      rw [his]
      simp only [Bool.false_eq_true,if_false,Nat.add_zero]
      have hd:es.drop (entAt key es)=e :: r:=by
        rw [← hr]
        obtain ⟨h3,rfl⟩:=List.getElem?_eq_some_iff.1 hm
        exact List.drop_eq_getElem_cons h3
      rw [hd]
      have hgt:∀ y ∈ x :: l3,ltS key y.1=true:=fun y hy=>by
        rcases List.mem_cons.1 hy with rfl | hy
        · rw [← e3];exact hlt
        · refine ltS_trans (b:=x.1) (by rw [← e3];exact hlt) (hx3 y hy)
      refine ⟨l1,[],x :: l3,q1,[],ids ++ q3,e1,.cons e3 e4 e5,rfl,rfl,hl,hgt,?_,.inl rfl,fun n hn=>?_,by rw [sumE];omega⟩
      · rw [findP_append,findP_lt hl,findP_gt hgt];rfl
      · unfold oldIds
        rw [hn,hm]
        simp only [his]
        simp
def ndV (sz:Nat) (v:ByteArray):Nat:=if v.size≤24 then 0 else ndS sz v.size
theorem entry_tr {key v:ByteArray} (hc:CtxG G l) (hk:keyB key=true) (hv:v.size≤4096) :
    (entryP G l gen key v=.inr 3∧phiL l < ndV G.size v) ∨
    ∃ G' l' e ids,entryP G l gen key v=.inl (G',l',e)∧Upd G l (fun _=>False) G' l' (fun i=>i ∈ ids)∧ids.Nodup∧ids.length=ndV G.size v∧e.key=key∧EntC G' gen e v ids∧rightE e=true∧phiL l'=phiL l - ndV G.size v:=by
  unfold entryP ndV
  by_cases h24:v.size≤24
  · rw [if_pos h24,if_pos h24]
    refine .inr ⟨G,l,_,[],rfl,(Upd.refl G l (fun _=>False)).iff (fun _=>Iff.rfl) (fun i=>by simp),List.nodup_nil,rfl,rfl,.inl ⟨rfl,rfl,rfl⟩,?_,by simp⟩
    unfold rightE
    simp [hk,h24]
  · rw [if_neg h24,if_neg h24]
    have hnd:=ndS_need G.size v.size (by omega) hc.s256 hc.s1024
    have hnn:(needN (v.size:Int) (G.size:Int)).toNat=ndS G.size v.size:=by rw [hnd,Int.toNat_natCast]
    rw [hnn]
    cases ht:takeA (ndS G.size v.size) l with
    | none =>
      refine .inl ⟨rfl,?_⟩
      rcases Int.lt_or_le (phiL l) (ndS G.size v.size:Int) with h | h
      · exact h
      · obtain ⟨ids,l1,h1⟩:=takeA_some _ _ h
        rw [ht] at h1;cases h1
    | some x =>
      obtain ⟨ids,l1⟩:=x
      obtain ⟨t1,t2,t3,t4,t5,t6⟩:=takeA_taken _ _ _ _ ht
      have hlen:ids.length=ndS G.size v.size:=t1
      have hch:=chG_new (G:=G) ht rfl (by omega) hv (by rw [hc.low.1];simp) (by rw [hc.low.2];simp) (Nat.le_of_eq hc.len) gen
      have hup:=upd_write (G:=G) ht gen v.data.toList (G.size - 28)
      simp only
      rw [hlen]
      refine .inr ⟨_,_,_,ids,rfl,hup,t3,hlen,rfl,.inr ⟨?_,?_⟩,?_,t6⟩
      · have h1:0 < ids.length:=by rw [hlen];exact Nat.succ_pos _
        have:=hch.lt _ (getD_in h1)
        show ((ids.getD 0 0:Nat):Int) ≠ 0
        omega
      · exact hch
      · have h1:0 < ids.length:=by rw [hlen];exact Nat.succ_pos _
        have h2:=hch.lt _ (getD_in h1)
        have h3:=hc.b256
        have h4:(chPuts gen v.data.toList (G.size - 28) ids (ndS G.size v.size) G).blocks=G.blocks:=(chPuts_same _ _ _ _ _ G).1
        rw [h4] at h2
        unfold rightE
        have hne:¬ ((ids.getD 0 0:Nat):Int)=0:=by omega
        simp only [hk,Bool.true_and]
        rw [if_neg hne]
        unfold kidB
        simp only [Bool.and_eq_true,decide_eq_true_eq]
        have:(e0:ByteArray).size=0:=rfl
        omega
end
end Go.Proofs.YtphafjmdhmpkbaaGreatDoor
