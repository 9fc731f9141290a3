/- Trees on what is known of a pager: a page's node, the way to a key, what stands there. Plain. | Many pages, put one behind the other: what is known then. Plain. | A tree on a pager: what lookup.Get and lookup.Path tell of it. Plain. | lookup.Walk, as plain Lean. | lookup.Walk on a tree that was built: all its keys, each page once. Plain. | What a walk has seen: pages of the disk, each once. Plain. | insert.laid: a list with others in the place of some. -/
import Derived.Test.YtphafjmdhmpkbaaGreatDoorK20
import Derived.Test.YtphafjmdhmpkbaaGreatDoorK21
import Derived.Test.YtphafjmdhmpkbaaGreatDoorK19
import Derived.Test.YtphafjmdhmpkbaaGreatDoorK08
import Derived.Test.YtphafjmdhmpkbaaGreatDoorK23
import Derived.Test.YtphafjmdhmpkbaaGreatDoorK17
namespace Go.Proofs.YtphafjmdhmpkbaaGreatDoor
open Go.RowKit
def decodeA (p:PageA):NodeA ⊕ Err :=
  if p.kind=3∨p.kind=2 then (match getN (decide (p.kind=3)) p.body with | some n=>.inl n | none=>.inr ([pgOf p.id],5)) else .inr ([pgOf p.id],5)
def GA.load (G:GA) (id:Int):NodeA ⊕ Err :=
  match G.get id with
  | .inr (l,k)=>.inr (-1 :: l,k)
  | .inl p=>match decodeA p with
    | .inl n=>.inl n
    | .inr (l,k)=>.inr (-1 :: l,k)
def findA (G:GA) (key:ByteArray):Nat→List (Int × Nat)→Int→(List (Int × Nat) × NodeA) ⊕ Err
  | 0,_,id=>.inr ([pgOf id],5)
  | f+1,st,id=>match G.load id with
    | .inr e=>.inr e
    | .inl n=>if n.leaf then .inl (st ++ [(id,(findN n key).1)],n) else findA G key f (st ++ [(id,(findN n key).1)]) (n.kids.getD (findN n key).1 0)
def findOk (G:GA) (key:ByteArray):Nat→Int→Prop
  | 0,_=>True
  | f+1,id=>G.knows id∧∀ n,G.load id=.inl n→n.leaf=false→findOk G key f (n.kids.getD (findN n key).1 0)
def valueA (G:GA) (e:EntryA):ByteArray ⊕ Err :=
  if e.chain=0 then .inl e.value else match chErr G e.chain e.size with
    | none=>.inl ⟨((walkA G e.size.toNat e.chain e.size).1.flatMap (·.2)).toArray⟩
    | some (l,k)=>.inr (-1 :: l,k)
def valueOk (G:GA) (e:EntryA):Prop:=e.chain ≠ 0→25≤e.size→e.size≤4096→walkOk G e.size.toNat e.chain e.size
def pathA (G:GA) (root:Int) (key:ByteArray):(List (Int × Nat) × Bool) ⊕ Err :=
  match lkCheck key with
  | some e=>.inr e
  | none=>if root=0 then .inl ([],false) else match findA G key 16 [] root with
    | .inr (l,k)=>.inr (-1 :: l,k)
    | .inl (st,n)=>.inl (st,(findN n key).2)
def lookA (G:GA) (root:Int) (key:ByteArray):Option ByteArray ⊕ Err :=
  match lkCheck key with
  | some e=>.inr e
  | none=>if root=0 then .inl none else match findA G key 16 [] root with
    | .inr (l,k)=>.inr (-1 :: l,k)
    | .inl (_,n)=>match n.entries[(findN n key).1]? with
      | none=>.inl none
      | some e=>if (findN n key).2=true then (match valueA G e with | .inl v=>.inl (some v) | .inr (l,k)=>.inr (-1 :: l,k)) else .inl none
def lookOk (G:GA) (root:Int) (key:ByteArray):Prop:=findOk G key 16 root∧∀ st n e,findA G key 16 [] root=.inl (st,n)→n.entries[(findN n key).1]? = some e→valueOk G e

theorem decodeA_right {p:PageA} {n:NodeA} (h:decodeA p=.inl n):rightN n=true∧n.leaf=decide (p.kind=3):=by
  unfold decodeA at h
  split at h
  · split at h
    · rename_i h1
      injection h with h;subst h
      unfold getN at h1
      simp only at h1
      split at h1
      · rename_i h2
        injection h1 with h1;subst h1
        refine ⟨h2.2.1,?_⟩
        unfold rdNode
        simp only
        split
        · rename_i h3;simpa using h3.symm
        · rename_i h3;simpa using h3
      · cases h1
    · cases h
  · cases h
theorem GA.load_right {G:GA} {id:Int} {n:NodeA} (h:G.load id=.inl n):rightN n=true:=by
  unfold GA.load at h
  split at h
  · cases h
  · split at h
    · rename_i h1
      injection h with h;subst h
      exact (decodeA_right h1).1
    · cases h
theorem findA_right {G:GA} {key:ByteArray}:∀ (f:Nat) (pre:List (Int × Nat)) (id:Int) {st:List (Int × Nat)} {n:NodeA},findA G key f pre id=.inl (st,n)→rightN n=true∧n.leaf=true
  | 0,_,_,_,_,h=>by cases h
  | f+1,pre,id,st,n,h=>by
    rw [findA] at h
    split at h
    · cases h
    · rename_i m hm
      split at h
      · rename_i hl
        injection h with h
        injection h with _ h
        subst h
        exact ⟨GA.load_right hm,hl⟩
      · exact findA_right f _ _ h
def GA.node (G:GA) (id:Nat):Option NodeA:=if id < G.blocks then (match G.view id with
  | some (.inl p)=>(match decodeA p with | .inl n=>some n | .inr _=>none)
  | _=>none) else none
theorem GA.node_load {G:GA} {id:Nat} {n:NodeA} (h:G.node id=some n):G.knows (id:Int)∧G.load (id:Int)=.inl n:=by
  unfold GA.node at h
  split at h
  · rename_i hlt
    split at h
    · rename_i p hp
      refine ⟨fun _=>⟨_,by rw [Int.toNat_natCast];exact hp⟩,?_⟩
      unfold GA.load
      rw [get_view hlt hp]
      simp only
      split at h
      · rename_i h1;injection h with h;subst h;rw [h1]
      · cases h
    · cases h
  · cases h
theorem kids_at {n:NodeA} {i:Nat} {k:Int} (h:n.kids[i]? = some k):n.kids.getD i 0=k:=by
  simp [List.getD,h]
theorem PathA.findA {G:GA} {key:ByteArray} {id d:Nat} {st:List (Nat × Nat)} {m:NodeA} (h:PathA G.node key id d st m):∀ (f:Nat) (pre:List (Int × Nat)),d≤f→(∀ id n k,G.node id=some n→k ∈ n.kids→0≤k) →
    Go.Proofs.YtphafjmdhmpkbaaGreatDoor.findA G key f pre (id:Int)=.inl (pre ++ st.map (fun x=>((x.1:Int),x.2)),m)∧findOk G key f (id:Int):=by
  induction h with
  | @leaf id n h1 h2 =>
    intro f pre hf hk
    obtain ⟨f,rfl⟩:∃ g,f=g+1:=⟨f - 1,by omega⟩
    obtain ⟨k1,k2⟩:=GA.node_load h1
    refine ⟨?_,k1,fun n2 e hl=>?_⟩
    · rw [Go.Proofs.YtphafjmdhmpkbaaGreatDoor.findA,k2]
      simp only [h2,if_true,findN_leaf h2]
      rfl
    · rw [k2] at e
      injection e with e
      subst e
      rw [h2] at hl;cases hl
  | @inner id n d st m k h1 h2 h3 h4 ih =>
    intro f pre hf hk
    obtain ⟨f,rfl⟩:∃ g,f=g+1:=⟨f - 1,by omega⟩
    obtain ⟨k1,k2⟩:=GA.node_load h1
    have hk0:=hk _ n k h1 (List.mem_of_getElem? h3)
    obtain ⟨j1,j2⟩:=ih f (pre ++ [((id:Int),kidAt key n.keys)]) (by omega) hk
    have hkc:((k.toNat:Nat):Int)=k:=by omega
    rw [hkc] at j1 j2
    have hkd:=kids_at h3
    refine ⟨?_,k1,fun n2 e hl=>?_⟩
    · rw [Go.Proofs.YtphafjmdhmpkbaaGreatDoor.findA,k2]
      simp only [h2,Bool.false_eq_true,if_false,findN_inner h2,hkd]
      rw [j1]
      simp
    · rw [k2] at e
      injection e with e
      subst e
      rw [findN_inner h2]
      simp only [hkd]
      exact j2
theorem node_right {G:GA} {id:Nat} {n:NodeA} (h:G.node id=some n):rightN n=true:=GA.load_right (GA.node_load h).2
theorem node_kids {G:GA} (id:Nat) (n:NodeA) (k:Int) (h:G.node id=some n) (hk:k ∈ n.kids):0≤k:=by
  have hr:=node_right h
  cases hl:n.leaf with
  | true =>
    unfold rightN at hr
    rw [if_pos hl] at hr
    simp only [Bool.and_eq_true,List.isEmpty_iff] at hr
    rw [hr.1.1.2] at hk
    cases hk
  | false =>
    have:=(rightN_inner hr hl).2.2 k hk
    omega
def GA.R (G:GA) (c s:Int):Option ByteArray:=match chErr G c s with
  | none=>some ⟨((walkA G s.toNat c s).1.flatMap (·.2)).toArray⟩
  | some _=>none
def GA.total (G:GA):Prop:=∀ i,i < G.blocks→∃ r,G.view i=some r
theorem GA.total.knows {G:GA} (h:G.total) (id:Int):G.knows id:=fun hc=>by
  unfold GA.check at hc
  split at hc
  · cases hc
  · exact h _ (by omega)
theorem GA.total.walk {G:GA} (h:G.total):∀ (f:Nat) (id n:Int),walkOk G f id n
  | 0,_,_=>trivial
  | f+1,id,n=>by
    rw [walkOk]
    exact fun _=>⟨h.knows id,fun x _ _=>GA.total.walk h f _ _⟩
theorem G0_total (n:Nat):(G0 n).total:=fun i hi=>by
  have h:i < n:=hi
  exact ⟨openAtP z256 (i:Int),by show (if i < n then some (openAtP z256 (i:Int)) else none)=_;rw [if_pos h]⟩
theorem put_total {G:GA} (h:G.total) (p:PageA):(G.put p).total:=fun i hi=>by
  show ∃ r,upd G.view p.id.toNat (some (.inl p)) i=some r
  by_cases e:i=p.id.toNat
  · subst e;rw [upd_self];exact ⟨_,rfl⟩
  · rw [upd_ne _ _ e];exact h i hi
theorem GA.total.find {G:GA} (h:G.total) (key:ByteArray):∀ (f:Nat) (id:Int),findOk G key f id
  | 0,_=>trivial
  | f+1,id=>⟨h.knows id,fun _ _ _=>GA.total.find h key f _⟩
theorem GA.total.value {G:GA} (h:G.total) (e:EntryA):valueOk G e:=fun _ _ _=>h.walk _ _ _
theorem GA.total.look {G:GA} (h:G.total) (root:Int) (key:ByteArray):lookOk G root key:=⟨h.find key 16 root,fun _ _ e _ _=>h.value e⟩
structure LeafOf (R:Int→Int→Option ByteArray) (m:NodeA) (p:List PairS):Prop where
  leaf:m.leaf=true
  right:rightN m=true
  len:m.entries.length=p.length
  tells:∀ (i:Nat) (e:EntryA) (x:PairS),m.entries[i]? = some e→p[i]? = some x→e.key=x.1∧tellsE R e=some x.2
theorem Tr.path {V:Nat→Option NodeA} {R:Int→Int→Option ByteArray} {lo:ByteArray} {hi:Option ByteArray} {id d:Nat} {l:List PairS} (h:Tr V R lo hi id d l) (key:ByteArray):inB lo hi key →
    ∃ st m p,PathA V key id d st m∧LeafOf R m p∧st.length=d∧findP key l=findP key p:=by
  induction h with
  | @leaf lo hi id n l h1 h2 h3 h4 h5 h6=>exact fun _=>⟨_,n,l,.leaf h1 h2,⟨h2,h3,h4,h5⟩,rfl,rfl⟩
  | @inner lo hi id n d parts h1 h2 h3 h4 h5 h6 ih =>
    intro hk
    obtain ⟨r1,r2,_⟩:=rightN_inner h3 h2
    obtain ⟨k,p,q1,q2,q3,q4⟩:=inner_find r1 r2 h4 h5 hk
    obtain ⟨st,m,p2,s1,s2,s4,s5⟩:=ih _ k p q1 q2 q3
    exact ⟨_,m,p2,.inner h1 h2 q1 s1,s2,by rw [List.length_cons,s4],q4.trans s5⟩
noncomputable def GA.R2 (G:GA) (c s:Int):Option ByteArray:=open Classical in if walkOk G s.toNat c s then G.R c s else none
theorem GA.R2_some {G:GA} {c s:Int} {v:ByteArray} (h:G.R2 c s=some v):walkOk G s.toNat c s∧G.R c s=some v:=by
  unfold GA.R2 at h
  split at h
  · rename_i hw;exact ⟨hw,h⟩
  · cases h
theorem value_tells {G:GA} {e:EntryA} {v:ByteArray} (h:tellsE G.R2 e=some v):valueA G e=.inl v∧valueOk G e:=by
  unfold tellsE at h
  unfold valueA valueOk
  by_cases hc:e.chain=0
  · rw [if_pos hc] at h ⊢
    exact ⟨by rw [Option.some.inj h],fun hn=>absurd hc hn⟩
  · rw [if_neg hc] at h ⊢
    obtain ⟨h1,h2⟩:=GA.R2_some h
    refine ⟨?_,fun _ _ _=>h1⟩
    unfold GA.R at h2
    split at h2
    · rename_i h3
      rw [h3]
      simp only
      rw [Option.some.inj h2]
    · cases h2
theorem inB_all (k:ByteArray):inB e0 none k:=by
  refine ⟨?_,fun h hh=>by cases hh⟩
  unfold ltS
  have:e0.toList=[]:=by simp [ByteArray.toList_eq]
  rw [this]
  cases k.toList <;> rfl
def TreeG (G:GA) (root d:Nat) (l:List PairS):Prop :=
  (l=[]∧root=0∧d=0)∨(2≤root∧root < 256∧d≤16∧Tr G.node G.R2 e0 none root d l)
theorem lkCheck_ok {key:ByteArray} (h:keyB key=true):lkCheck key=none:=by unfold lkCheck;rw [if_pos h]
def stI (st:List (Nat × Nat)):List (Int × Nat):=st.map fun x=>((x.1:Int),x.2)
theorem leaf_at {R:Int→Int→Option ByteArray} {m:NodeA} {p:List PairS} (h:LeafOf R m p) (key:ByteArray):findP key p=leafTells R key m:=leaf_find (rightN_leaf h.right h.leaf) h.len h.tells key
theorem LeafOf.ent {R:Int→Int→Option ByteArray} {m:NodeA} {p:List PairS} (h:LeafOf R m p) {i:Nat} {e:EntryA} (he:m.entries[i]? = some e):∃ v,tellsE R e=some v:=by
  have hi:=(List.getElem?_eq_some_iff.1 he).1
  have hp:i < p.length:=by rw [← h.len];exact hi
  exact ⟨_,(h.tells i e _ he (List.getElem?_eq_getElem hp)).2⟩
theorem leaf_says {R:Int→Int→Option ByteArray} {m:NodeA} {p:List PairS} (h:LeafOf R m p) (key:ByteArray) :
    (entIs key m.entries=true∧∃ e v,m.entries[entAt key m.entries]? = some e∧e.key=key∧tellsE R e=some v∧findP key p=some v)∨(entIs key m.entries=false∧findP key p=none):=by
  rw [leaf_at h]
  unfold leafTells entIs
  cases hm:m.entries[entAt key m.entries]? with
  | none=>exact .inr ⟨rfl,rfl⟩
  | some e =>
    simp only
    by_cases hk:e.key=key
    · rw [if_pos hk,decide_eq_true hk]
      obtain ⟨v,hv⟩:=h.ent hm
      exact .inl ⟨rfl,e,v,rfl,hk,hv,hv⟩
    · rw [if_neg hk,decide_eq_false hk]
      exact .inr ⟨rfl,rfl⟩
theorem Tr.onG {G:GA} {root d:Nat} {l:List PairS} (h:Tr G.node G.R2 e0 none root d l) (hd:d≤16) (key:ByteArray) :
    ∃ st m p,PathA G.node key root d st m∧LeafOf G.R2 m p∧st.length=d∧findP key l=findP key p∧Go.Proofs.YtphafjmdhmpkbaaGreatDoor.findA G key 16 [] (root:Int)=.inl (stI st,m)∧findOk G key 16 (root:Int):=by
  obtain ⟨st,m,p,h1,h2,h3,h4⟩:=h.path key (inB_all key)
  obtain ⟨k1,k2⟩:=h1.findA 16 [] hd (fun id n k hn hk=>node_kids id n k hn hk)
  exact ⟨st,m,p,h1,h2,h3,h4,by rw [k1];rfl,k2⟩
theorem TreeG.look {G:GA} {root d:Nat} {l:List PairS} (h:TreeG G root d l) {key:ByteArray} (hk:keyB key=true):lookA G (root:Int) key=.inl (findP key l):=by
  rcases h with ⟨rfl,rfl,rfl⟩ | ⟨h1,_,h2,h3⟩
  · unfold lookA
    rw [lkCheck_ok hk]
    rfl
  · obtain ⟨st,m,p,k1,k2,k3,k4,k5,k6⟩:=h3.onG h2 key
    unfold lookA
    rw [lkCheck_ok hk,k5]
    simp only
    rw [if_neg (by omega),findN_leaf k2.leaf,k4]
    rcases leaf_says k2 key with ⟨j1,e,v,j2,j3,j4,j5⟩ | ⟨j1,j2⟩
    · simp only [j1,j2,if_true,(value_tells j4).1,j5]
    · rw [j2]
      simp only [j1]
      split <;> rfl
structure WkS where
  pages:List Int
  keys:List ByteArray
  depth:Nat
def WkS.last (s:WkS):ByteArray:=s.keys.getLastD e0
structure Place where
  id:Int
  depth:Nat
  lo:ByteArray
  hi:ByteArray
def corrE (id:Int):Err:=([pgOf id],5)
def seeW (s:WkS) (id:Int):WkS ⊕ Err:=if id ∈ s.pages then .inr (corrE id) else .inl { s with pages:=s.pages ++ [id] }
def youngW (G:GA) (gen:Nat) (id:Int):PageA ⊕ Err:=match G.get id with
  | .inr e=>.inr e
  | .inl p=>if gen < p.gen then .inr (corrE id) else .inl p
def idsW (G:GA) (gen:Nat):List Int→WkS→WkS ⊕ Err
  | [],s=>.inl s
  | id :: r,s=>match seeW s id with
    | .inr e=>.inr e
    | .inl s1=>match youngW G gen id with
      | .inr e=>.inr e
      | .inl _=>idsW G gen r s1
def chainedW (G:GA) (gen:Nat) (e:EntryA) (s:WkS):WkS ⊕ Err :=
  if e.chain=0 then .inl s else match chErr G e.chain e.size with
    | some er=>.inr er
    | none=>idsW G gen ((walkA G e.size.toNat e.chain e.size).1.map (·.1)) s
def entBad (a:Place) (s:WkS) (e:EntryA):Bool:=leS e.key s.last || ltS e.key a.lo || (decide (a.hi ≠ e0) && leS a.hi e.key)
def entsW (G:GA) (gen:Nat) (a:Place):List EntryA→WkS→WkS ⊕ Err
  | [],s=>.inl s
  | e :: r,s=>if entBad a s e=true then .inr (corrE a.id) else
    match chainedW G gen e { s with keys:=s.keys ++ [e.key] } with
    | .inr er=>.inr er
    | .inl s1=>entsW G gen a r s1
def atDepth (a:Place) (s:WkS):WkS:=if s.depth=0 then { s with depth:=a.depth } else s
def leafW (G:GA) (gen:Nat) (n:NodeA) (a:Place) (s:WkS):WkS ⊕ Err :=
  if a.depth ≠ (atDepth a s).depth∨(n.entries=[]∧1 < a.depth) then .inr (corrE a.id) else entsW G gen a n.entries (atDepth a s)
def kidPlace (n:NodeA) (a:Place) (i:Nat) (k:Int):Place :=
  ⟨k,a.depth+1,if i=0 then a.lo else n.keys.getD (i - 1) e0,if i < n.keys.length then n.keys.getD i e0 else a.hi⟩
def kidBad (a b:Place):Bool:=ltS b.lo a.lo || (decide (a.hi ≠ e0) && ltS a.hi b.hi)
def kidsW (rec_:Place→WkS→WkS ⊕ Err) (n:NodeA) (a:Place):List Int→Nat→WkS→WkS ⊕ Err
  | [],_,s=>.inl s
  | k :: r,i,s=>if kidBad a (kidPlace n a i k)=true then .inr (corrE a.id) else
    match rec_ (kidPlace n a i k) s with
    | .inr e=>.inr e
    | .inl s1=>kidsW rec_ n a r (i+1) s1
def nodeW (G:GA) (gen:Nat):Nat→Place→WkS→WkS ⊕ Err
  | 0,a,_=>.inr (corrE a.id)
  | f+1,a,s=>match seeW s a.id with
    | .inr e=>.inr e
    | .inl s1=>match youngW G gen a.id with
      | .inr e=>.inr e
      | .inl p=>match decodeA p with
        | .inr e=>.inr e
        | .inl n=>if n.leaf=true then leafW G gen n a s1 else kidsW (nodeW G gen f) n a n.kids 0 s1
def wk0:WkS:=⟨[],[],0⟩
def walkW (G:GA) (gen:Nat) (root:Int):WkS ⊕ Err :=
  if root=0 then .inl wk0 else match nodeW G gen 16 ⟨root,1,e0,e0⟩ wk0 with
    | .inr (l,k)=>.inr (-1 :: l,k)
    | .inl s=>.inl s
def iL (l:List Nat):List Int:=l.map (fun (i:Nat)=>(i:Int))
theorem iL_app (a b:List Nat):iL (a ++ b)=iL a ++ iL b:=List.map_append
theorem leS_not {a b:ByteArray} (h:ltS a b=true):leS b a=false:=by
  cases hb:leS b a with
  | false=>rfl
  | true =>
    rcases (leS_iff b a).1 hb with k | k
    · rw [ltS_asymm h] at k;cases k
    · rw [k,ltS_irrefl] at h;cases h
section
variable {G:GA} {ps:List PageA} {gen g:Nat}
theorem ids_go:∀ (ids:List Nat),(∀ i ∈ ids,∃ p,youngW G gen (i:Int)=.inl p)→∀ (st:WkS),(st.pages ++ iL ids).Nodup→idsW G gen (iL ids) st=.inl { st with pages:=st.pages ++ iL ids }
  | [],_,st,_=>by simp [iL,idsW]
  | i :: ids,hy,st,hn=>by
    have hnot:(i:Int) ∉ st.pages:=fun hm=>by
      rw [List.nodup_append] at hn
      exact hn.2.2 _ hm (i:Int) (by simp [iL]) rfl
    obtain ⟨p,hp⟩:=hy i List.mem_cons_self
    have ih:=ids_go ids (fun j hj=>hy j (List.mem_cons_of_mem _ hj)) { st with pages:=st.pages ++ [(i:Int)] } (by simpa [iL] using hn)
    show idsW G gen ((i:Int) :: iL ids) st=_
    rw [idsW]
    unfold seeW
    rw [if_neg hnot]
    simp only [hp]
    rw [ih]
    simp [iL]
theorem last_snoc (st:WkS) (key:ByteArray) (ps:List Int):({ st with pages:=ps,keys:=st.keys ++ [key] }:WkS).last=key:=by simp [WkS.last]
theorem kids_go {rec_:Place→WkS→WkS ⊕ Err} {n:NodeA} {a:Place} {Inv:Nat→WkS→Prop} (h:∀ (i:Nat) (k:Int) (st:WkS),n.kids[i]? = some k→Inv i st→kidBad a (kidPlace n a i k)=false∧∃ s1,rec_ (kidPlace n a i k) st=.inl s1∧Inv (i+1) s1) :
    ∀ (ks:List Int) (i:Nat) (st:WkS),n.kids.drop i=ks→i+ks.length=n.kids.length→Inv i st→∃ s',kidsW rec_ n a ks i st=.inl s'∧Inv n.kids.length s'
  | [],i,st,hd,hl,hI=>⟨st,rfl,by simp at hl;rw [← hl];exact hI⟩
  | k :: ks,i,st,hd,hl,hI=>by
    have hki:n.kids[i]? = some k:=by
      have:=List.getElem?_drop (xs:=n.kids) (i:=i) (j:=0)
      rw [hd] at this
      simpa using this.symm
    obtain ⟨h1,s1,h2,h3⟩:=h i k st hki hI
    have hd2:n.kids.drop (i+1)=ks:=by
      rw [← List.drop_drop,hd];rfl
    obtain ⟨s',h4,h5⟩:=kids_go h ks (i+1) s1 hd2 (by simp at hl;omega) h3
    refine ⟨s',?_,h5⟩
    rw [kidsW,h1,if_neg (by simp),h2]
    exact h4
def hiR (hi:Option ByteArray) (h:ByteArray):Prop:=(hi=none∧h=e0)∨(hi=some h∧h ≠ e0)
theorem keyB_ne {s:ByteArray} (h:keyB s=true):s ≠ e0:=fun e=>by
  have:=(keyB_iff s).1 h
  rw [e] at this
  have:(e0:ByteArray).size=0:=rfl
  omega
theorem last_lt {ks:List ByteArray} {l1:List PairS} {x:ByteArray} (h1:ltS (ks.getLastD e0) x=true) (h2:∀ y ∈ l1,ltS y.1 x=true):ltS ((ks ++ l1.map (·.1)).getLastD e0) x=true:=by
  rcases List.eq_nil_or_concat l1 with rfl | ⟨l2,y,rfl⟩
  · simpa using h1
  · have:=h2 y (by simp)
    simpa using this
theorem rightN_keys {n:NodeA} (h:rightN n=true) (hl:n.leaf=false):∀ s ∈ n.keys,keyB s=true:=by
  unfold rightN at h
  rw [if_neg (by rw [hl];simp)] at h
  simp only [Bool.and_eq_true,List.all_eq_true] at h
  exact h.1.2
theorem kid_bounds {n:NodeA} {a:Place} {hi:Option ByteArray} (hr:rightN n=true) (hl:n.leaf=false) (hh:hiR hi a.hi) (hs:∀ s ∈ n.keys,inB a.lo hi s) {i:Nat} {k:Int} (hk:n.kids[i]? = some k) :
    kidBad a (kidPlace n a i k)=false∧(kidPlace n a i k).lo=loAt a.lo n.keys i∧hiR (hiAt hi n.keys i) (kidPlace n a i k).hi:=by
  have hkl:=(rightN_inner hr hl).2.1
  have hik:=(List.getElem?_eq_some_iff.1 hk).1
  have hlo:(kidPlace n a i k).lo=loAt a.lo n.keys i:=by
    unfold kidPlace loAt
    by_cases h0:i=0
    · rw [if_pos h0,if_pos h0]
    · rw [if_neg h0,if_neg h0]
      have:i - 1 < n.keys.length:=by omega
      simp [List.getD,this]
  have hhi:hiR (hiAt hi n.keys i) (kidPlace n a i k).hi:=by
    unfold kidPlace hiAt
    by_cases h0:i < n.keys.length
    · simp only [if_pos h0,List.getElem?_eq_getElem h0]
      refine .inr ⟨by simp [List.getD,h0],?_⟩
      simp only [List.getD,List.getElem?_eq_getElem h0,Option.getD_some]
      exact keyB_ne (rightN_keys hr hl _ (List.getElem_mem h0))
    · simp only [if_neg h0,List.getElem?_eq_none (by omega:n.keys.length≤i)]
      exact hh
  refine ⟨?_,hlo,hhi⟩
  unfold kidBad
  have h1:ltS (kidPlace n a i k).lo a.lo=false:=by
    rw [hlo]
    unfold loAt
    by_cases h0:i=0
    · rw [if_pos h0];exact ltS_irrefl _
    · rw [if_neg h0]
      have hlt:i - 1 < n.keys.length:=by omega
      have e:n.keys.getD (i - 1) a.lo=n.keys[i - 1]:=by simp [List.getD,hlt]
      rw [e]
      exact (hs _ (List.getElem_mem hlt)).1
  rw [h1]
  by_cases hz:a.hi=e0
  · simp [hz]
  · have h2:ltS a.hi (kidPlace n a i k).hi=false:=by
      unfold kidPlace
      by_cases h0:i < n.keys.length
      · simp only [if_pos h0]
        have e:n.keys.getD i e0=n.keys[i]:=by simp [List.getD,h0]
        rw [e]
        rcases hh with ⟨_,h3⟩ | ⟨h3,_⟩
        · exact absurd h3 hz
        · exact ltS_asymm ((hs _ (List.getElem_mem h0)).2 _ h3)
      · simp only [if_neg h0];exact ltS_irrefl _
    rw [h2];simp
end
variable {G:GA} {gen:Nat} {st st1:WkS} {id:Int} {p:PageA}
theorem nodup_fewW:∀ (n:Nat) (l:List Int),l.Nodup→(∀ i ∈ l,0≤i∧i < (n:Int))→l.length≤n
  | 0,[],_,_=>Nat.le_refl _
  | 0,i :: l,_,h=>by have:=h i List.mem_cons_self;omega
  | n+1,l,hn,h=>by
    by_cases hm:(n:Int) ∈ l
    · have h1:=nodup_fewW n (l.erase (n:Int)) (hn.erase _) (fun i hi=>by
        rw [hn.mem_erase_iff] at hi
        have:=h i hi.2
        have:=hi.1
        omega)
      rw [List.length_erase_of_mem hm] at h1
      omega
    · have:=nodup_fewW n l hn (fun i hi=>by
        have h1:=h i hi
        have h2:i ≠ (n:Int):=fun e=>hm (e ▸ hi)
        omega)
      omega
def WkInv (G:GA) (st:WkS):Prop:=st.pages.Nodup∧∀ i ∈ st.pages,0≤i∧i < (G.blocks:Int)
theorem WkInv.few (h:WkInv G st):st.pages.length≤G.blocks:=nodup_fewW _ _ h.1 h.2
theorem youngW_in (h:youngW G gen id=.inl p):0≤id∧id < (G.blocks:Int):=by
  unfold youngW GA.get GA.check at h
  by_cases hc:id < 0∨(G.blocks:Int)≤id
  · rw [if_pos hc] at h
    cases h
  · omega
theorem seeW_in (h:seeW st id=.inl st1):id ∉ st.pages∧st1 = { st with pages:=st.pages ++ [id] }:=by
  unfold seeW at h
  split at h
  · cases h
  · rename_i hm
    injection h with h
    exact ⟨hm,h.symm⟩
theorem WkInv.see (h:WkInv G st) (h1:seeW st id=.inl st1) (h2:youngW G gen id=.inl p):WkInv G st1:=by
  obtain ⟨hm,rfl⟩:=seeW_in h1
  have hy:=youngW_in h2
  refine ⟨?_,fun i hi=>?_⟩
  · show (st.pages ++ [id]).Nodup
    rw [List.nodup_append]
    exact ⟨h.1,by simp,fun a ha b hb=>by simp at hb;subst hb;exact fun e=>hm (e ▸ ha)⟩
  · rcases List.mem_append.1 hi with h3 | h3
    · exact h.2 i h3
    · simp at h3;subst h3;exact hy
theorem idsW_inv:∀ (ids:List Int) (st st1:WkS),WkInv G st→idsW G gen ids st=.inl st1→WkInv G st1
  | [],st,st1,h,h1=>by rw [idsW] at h1;injection h1 with h1;exact h1 ▸ h
  | id :: r,st,st1,h,h1=>by
    rw [idsW] at h1
    split at h1
    · cases h1
    · rename_i s1 hs
      split at h1
      · cases h1
      · rename_i p hy
        exact idsW_inv r s1 st1 (h.see hs hy) h1
theorem walkA_ids (G:GA):∀ (f:Nat) (id n:Int), -9223372036854775808≤id∧id≤9223372036854775807→∀ x ∈ (walkA G f id n).1, -9223372036854775808≤x.1∧x.1≤9223372036854775807
  | 0,_,_,_,x,hx=>by simp [walkA] at hx
  | f+1,id,n,h,x,hx=>by
    rw [walkA] at hx
    split at hx
    · simp at hx
    · split at hx
      · simp at hx
      · rename_i y hy
        split at hx
        · simp at hx
        · rcases List.mem_cons.1 hx with rfl | hx
          · exact h
          · have:=takeF_small y.body 0 4 (by omega)
            exact walkA_ids G f _ _ (by omega) x hx
theorem Sl.slc {α:Type} {F:Nat→Prop} {w:World} {sz:Nat} {enc:α→List Value} {a:Option Addr} {n c:Nat} {l:List α} (h:Sl F w sz enc (.slice a n c) l) (i j:Nat) (hij:i≤j) (hj:j≤n) :
    Sl F w sz enc (.slice (if c=i then a else a.map (·.add (i * sz))) (j - i) (c - i)) ((l.drop i).take (j - i)):=by
  obtain ⟨a',cap,he,h1,h2,h3,h4⟩:=h
  simp only [Value.slice.injEq] at he
  obtain ⟨rfl,rfl,rfl⟩:=he
  have hlen:((l.drop i).take (j - i)).length=j - i:=by simp [List.length_take,List.length_drop];omega
  refine ⟨_,c - i,by rw [hlen],by rw [hlen];omega,by omega,by rw [hlen];omega,?_⟩
  rcases h4 with rfl | ⟨b,off,rfl,hb,hF,hc⟩
  · exact .inl (by simp)
  · by_cases hz:c=i
    · exact .inl (List.eq_nil_of_length_eq_zero (by rw [hlen];omega))
    · refine .inr ⟨b,off+i * sz,?_,hb,hF,fun k x hk q u hu=>?_⟩
      · rw [if_neg hz]
        simp only [Option.map_some,Addr.add]
        by_cases h0:i * sz=0
        · rw [if_pos h0,h0];rfl
        · rw [if_neg h0]
      · have hk1:k < j - i:=by
          have:=(List.getElem?_eq_some_iff.1 hk).1
          rwa [hlen] at this
        rw [List.getElem?_take_of_lt hk1,List.getElem?_drop] at hk
        have:=hc (i+k) x hk q u hu
        rw [← this]
        congr 2
        rw [Nat.add_mul];omega
theorem Sl.tail_ {α:Type} {F:Nat→Prop} {w:World} {sz:Nat} {enc:α→List Value} {a:Option Addr} {n c:Nat} {l:List α} (h:Sl F w sz enc (.slice a n c) l) (i:Nat) (hi:i≤n) :
    Sl F w sz enc (.slice (if c=i then a else a.map (·.add (i * sz))) (n - i) (c - i)) (l.drop i):=by
  have:=h.slc i n hi (Nat.le_refl _)
  obtain ⟨a',cap,he, -⟩:=_root_.id h
  simp only [Value.slice.injEq] at he
  rw [he.2.1] at this ⊢
  rwa [List.take_of_length_le (by simp)] at this
section
variable {F H:Nat→Prop} {w w':World}
set_option maxRecDepth 100000 in
theorem laidE_any (lv mv:Value) (L M:List EntryA) (hl:Sl F w 4 encE lv L) (hm:Sl H w 4 encE mv M) (i many:Nat) (h1:i+many≤L.length) (hb:L.length≤1000000) (hb2:M.length≤1000000) :
    Calls Tryz.prog 106 #[lv,.int .i64 (i:Int),.int .i64 (many:Int),mv] w fun e w'=>∃ v,e=.returned v∧Own (fun _=>False) w' w.heap.size 107 4 encE v (L.take i ++ M ++ L.drop (i+many))∧Ext w w':=by
  obtain ⟨la,lc,rfl,l1,l2,l3, -⟩:=_root_.id hl
  unfold maxLen at l2
  have HL:=Lib.hid hl
  have HM:=Lib.hid hm
  have hO0:Hid (Own (fun _=>False) (w.alloc (.cells #[] 107)) w.heap.size 107 4 encE (.slice (some ⟨w.heap.size,0,none⟩) 0 0) ([]:List EntryA)):=Lib.hid (Own.empty (fun k f=>f.elim) _ _ _ encE_ok.len)
  have hm0:Hid (Ext w (w.alloc (.cells #[] 107))):=Lib.hid ((Mods.refl _ w).alloc _)
  obtain ⟨ma,mc,rfl,m1,m2,m3, -⟩:=hm
  have u1:IntKind.i64.wrap ((i:Int)+(many:Int))=((i+many:Nat):Int):=by rw [IntWalk.i64_in _ (by omega)];omega
  have lt1:(L.take i).length=i:=by rw [List.length_take];omega
  have lt2:(L.drop (i+many)).length=L.length - (i+many):=List.length_drop
  have HT1:=Lib.hid lt1
  have HT2:=Lib.hid lt2
  clear hl lt1 lt2
  have p1:Hid (Sl F w 4 encE (.slice la i lc) (L.take i)):=Lib.hid (HL.out.pre i (by omega))
  have p3:Hid (Sl F w 4 encE (.slice (if lc=i+many then la else la.map (·.add ((i+many) * 4))) (L.length - (i+many)) (lc - (i+many))) (L.drop (i+many))):=Lib.hid (by have:=HL.out.tail_ (i+many) h1;simpa only [Nat.mul_one] using this)
  obtain ⟨R,hR⟩:∃ R,R=L.take i ++ M ++ L.drop (i+many):=⟨_,rfl⟩
  rw [← hR]
  have HR:=Lib.hid hR
  clear hR
  go_enter Tryz.func106, Tryz.ntmps106
  go_wp2_with (first
    | (at_builtin;refine wpl_app2 Tryz.elE encE_ok rfl _ _ rfl w.heap.size _ (.slice la i lc) [] (L.take i) rfl rfl hO0.out (p1.out.ext hm0.out) (by rw [HT1.out];simp only [List.length_nil];omega) (by simp) (fun f=>f) ?_;rw [List.nil_append,List.length_nil,HT1.out,Nat.zero_add];intro a1 c1 w1 hO1 hm1 hat1;have HO1:=Lib.hid hO1;have HM1:Hid (Ext w w1):=Lib.hid (Mods.past hm0.out (hm1.mono (fun k hk=>(hO0.out.lt k hk).1)));clear hO1 hm1 hat1)
    | (at_builtin;refine wpl_app2 Tryz.elE encE_ok rfl _ _ rfl w.heap.size (.slice a1 i c1) (.slice ma M.length mc) (L.take i) M rfl rfl HO1.out (HM.out.ext HM1.out) (by rw [HT1.out];omega) HM1.out.size (fun f=>f) ?_;rw [HT1.out];intro a2 c2 w2 hO2 hm2 hat2;have HO2:=Lib.hid hO2;have HM2:Hid (Ext w w2):=Lib.hid (Mods.past HM1.out (hm2.mono (fun k hk=>(HO1.out.lt k hk).1)));clear hO2 hm2 hat2)
    | (at_builtin;refine wpl_app2 Tryz.elE encE_ok rfl _ _ rfl w.heap.size (.slice a2 (i+M.length) c2) _ (L.take i ++ M) (L.drop (i+many)) rfl rfl HO2.out (p3.out.ext HM2.out) (by rw [List.length_append,HT1.out,HT2.out];omega) HM2.out.size (fun f=>f) ?_;rw [List.length_append,HT1.out,HT2.out];intro a3 c3 w3 hO3 hm3 hat3;have HO3:=Lib.hid hO3;have HM3:Hid (Ext w w3):=Lib.hid (Mods.past HM2.out (hm3.mono (fun k hk=>(HO2.out.lt k hk).1)));clear hO3 hm3 hat3)
    | fail)
  all_goals
    go_ret
    exact ⟨_,rfl,by rw [HR.out];exact HO3.out,HM3.out⟩
theorem laidE_end (lv:Value) (L:List EntryA) (hl:Sl F w 4 encE lv L) (k:Nat) (hk:k=L.length) (hb:L.length≤1000000) :
    Calls Tryz.prog 106 #[lv,.int .i64 (k:Int),.int .i64 0,.slice none 0 0] w fun e w'=>∃ a c,e=.returned (.slice a k c)∧Own (fun _=>False) w' w.heap.size 107 4 encE (.slice a k c) L∧Ext w w':=by
  have h:=laidE_any lv (.slice none 0 0) L [] hl (Sl.nil (fun _=>False) w 4 encE) k 0 (by omega) hb (by simp)
  refine h.mono ?_
  rintro e w' ⟨v,rfl,ho,hm⟩
  have e1:L.take k ++ [] ++ L.drop (k+0)=L:=by rw [Nat.add_zero,List.append_nil,List.take_append_drop]
  rw [e1] at ho
  obtain ⟨a,c,rfl,_⟩:=ho.form
  subst hk
  exact ⟨a,c,rfl,ho,hm⟩
theorem laidE_beg (lv:Value) (L:List EntryA) (hl:Sl F w 4 encE lv L) (k:Nat) (hk:k=L.length) (hb:L.length≤1000000) :
    Calls Tryz.prog 106 #[lv,.int .i64 0,.int .i64 0,.slice none 0 0] w fun e w'=>∃ a c,e=.returned (.slice a k c)∧Own (fun _=>False) w' w.heap.size 107 4 encE (.slice a k c) L∧Ext w w':=by
  have h:=laidE_any lv (.slice none 0 0) L [] hl (Sl.nil (fun _=>False) w 4 encE) 0 0 (by omega) hb (by simp)
  refine h.mono ?_
  rintro e w' ⟨v,rfl,ho,hm⟩
  have e1:L.take 0 ++ [] ++ L.drop (0+0)=L:=by simp
  rw [e1] at ho
  obtain ⟨a,c,rfl,_⟩:=ho.form
  subst hk
  exact ⟨a,c,rfl,ho,hm⟩
set_option maxRecDepth 100000 in
theorem laidS_any (lv mv:Value) (L M:List ByteArray) (hl:Sl F w 1 encS lv L) (hm:Sl H w 1 encS mv M) (i many:Nat) (h1:i+many≤L.length) (hb:L.length≤1000000) (hb2:M.length≤1000000) :
    Calls Tryz.prog 107 #[lv,.int .i64 (i:Int),.int .i64 (many:Int),mv] w fun e w'=>∃ v,e=.returned v∧Own (fun _=>False) w' w.heap.size 9 1 encS v (L.take i ++ M ++ L.drop (i+many))∧Ext w w':=by
  obtain ⟨la,lc,rfl,l1,l2,l3, -⟩:=_root_.id hl
  unfold maxLen at l2
  have HL:=Lib.hid hl
  have HM:=Lib.hid hm
  have hO0:Hid (Own (fun _=>False) (w.alloc (.cells #[] 9)) w.heap.size 9 1 encS (.slice (some ⟨w.heap.size,0,none⟩) 0 0) ([]:List ByteArray)):=Lib.hid (Own.empty (fun k f=>f.elim) _ _ _ encS_ok.len)
  have hm0:Hid (Ext w (w.alloc (.cells #[] 9))):=Lib.hid ((Mods.refl _ w).alloc _)
  obtain ⟨ma,mc,rfl,m1,m2,m3, -⟩:=hm
  have u1:IntKind.i64.wrap ((i:Int)+(many:Int))=((i+many:Nat):Int):=by rw [IntWalk.i64_in _ (by omega)];omega
  have lt1:(L.take i).length=i:=by rw [List.length_take];omega
  have lt2:(L.drop (i+many)).length=L.length - (i+many):=List.length_drop
  have HT1:=Lib.hid lt1
  have HT2:=Lib.hid lt2
  clear hl lt1 lt2
  have p1:Hid (Sl F w 1 encS (.slice la i lc) (L.take i)):=Lib.hid (HL.out.pre i (by omega))
  have p3:Hid (Sl F w 1 encS (.slice (if lc=i+many then la else la.map (·.add (i+many))) (L.length - (i+many)) (lc - (i+many))) (L.drop (i+many))):=Lib.hid (by have:=HL.out.tail_ (i+many) h1;simpa only [Nat.mul_one] using this)
  obtain ⟨R,hR⟩:∃ R,R=L.take i ++ M ++ L.drop (i+many):=⟨_,rfl⟩
  rw [← hR]
  have HR:=Lib.hid hR
  clear hR
  go_enter Tryz.func107, Tryz.ntmps107
  go_wp2_with (first
    | (at_builtin;refine wpl_app2 Tryz.elS encS_ok rfl _ _ rfl w.heap.size _ (.slice la i lc) [] (L.take i) rfl rfl hO0.out (p1.out.ext hm0.out) (by rw [HT1.out];simp only [List.length_nil];omega) (by simp) (fun f=>f) ?_;rw [List.nil_append,List.length_nil,HT1.out,Nat.zero_add];intro a1 c1 w1 hO1 hm1 hat1;have HO1:=Lib.hid hO1;have HM1:Hid (Ext w w1):=Lib.hid (Mods.past hm0.out (hm1.mono (fun k hk=>(hO0.out.lt k hk).1)));clear hO1 hm1 hat1)
    | (at_builtin;refine wpl_app2 Tryz.elS encS_ok rfl _ _ rfl w.heap.size (.slice a1 i c1) (.slice ma M.length mc) (L.take i) M rfl rfl HO1.out (HM.out.ext HM1.out) (by rw [HT1.out];omega) HM1.out.size (fun f=>f) ?_;rw [HT1.out];intro a2 c2 w2 hO2 hm2 hat2;have HO2:=Lib.hid hO2;have HM2:Hid (Ext w w2):=Lib.hid (Mods.past HM1.out (hm2.mono (fun k hk=>(HO1.out.lt k hk).1)));clear hO2 hm2 hat2)
    | (at_builtin;refine wpl_app2 Tryz.elS encS_ok rfl _ _ rfl w.heap.size (.slice a2 (i+M.length) c2) _ (L.take i ++ M) (L.drop (i+many)) rfl rfl HO2.out (p3.out.ext HM2.out) (by rw [List.length_append,HT1.out,HT2.out];omega) HM2.out.size (fun f=>f) ?_;rw [List.length_append,HT1.out,HT2.out];intro a3 c3 w3 hO3 hm3 hat3;have HO3:=Lib.hid hO3;have HM3:Hid (Ext w w3):=Lib.hid (Mods.past HM2.out (hm3.mono (fun k hk=>(HO2.out.lt k hk).1)));clear hO3 hm3 hat3)
    | fail)
  all_goals
    go_ret
    exact ⟨_,rfl,by rw [HR.out];exact HO3.out,HM3.out⟩
theorem laidS_end (lv:Value) (L:List ByteArray) (hl:Sl F w 1 encS lv L) (k:Nat) (hk:k=L.length) (hb:L.length≤1000000) :
    Calls Tryz.prog 107 #[lv,.int .i64 (k:Int),.int .i64 0,.slice none 0 0] w fun e w'=>∃ a c,e=.returned (.slice a k c)∧Own (fun _=>False) w' w.heap.size 9 1 encS (.slice a k c) L∧Ext w w':=by
  have h:=laidS_any lv (.slice none 0 0) L [] hl (Sl.nil (fun _=>False) w 1 encS) k 0 (by omega) hb (by simp)
  refine h.mono ?_
  rintro e w' ⟨v,rfl,ho,hm⟩
  have e1:L.take k ++ [] ++ L.drop (k+0)=L:=by rw [Nat.add_zero,List.append_nil,List.take_append_drop]
  rw [e1] at ho
  obtain ⟨a,c,rfl,_⟩:=ho.form
  subst hk
  exact ⟨a,c,rfl,ho,hm⟩
theorem laidS_beg (lv:Value) (L:List ByteArray) (hl:Sl F w 1 encS lv L) (k:Nat) (hk:k=L.length) (hb:L.length≤1000000) :
    Calls Tryz.prog 107 #[lv,.int .i64 0,.int .i64 0,.slice none 0 0] w fun e w'=>∃ a c,e=.returned (.slice a k c)∧Own (fun _=>False) w' w.heap.size 9 1 encS (.slice a k c) L∧Ext w w':=by
  have h:=laidS_any lv (.slice none 0 0) L [] hl (Sl.nil (fun _=>False) w 1 encS) 0 0 (by omega) hb (by simp)
  refine h.mono ?_
  rintro e w' ⟨v,rfl,ho,hm⟩
  have e1:L.take 0 ++ [] ++ L.drop (0+0)=L:=by simp
  rw [e1] at ho
  obtain ⟨a,c,rfl,_⟩:=ho.form
  subst hk
  exact ⟨a,c,rfl,ho,hm⟩
set_option maxRecDepth 100000 in
theorem laidI_any (lv mv:Value) (L M:List Int) (hl:Sl F w 1 encI lv L) (hm:Sl H w 1 encI mv M) (i many:Nat) (h1:i+many≤L.length) (hb:L.length≤1000000) (hb2:M.length≤1000000) :
    Calls Tryz.prog 108 #[lv,.int .i64 (i:Int),.int .i64 (many:Int),mv] w fun e w'=>∃ v,e=.returned v∧Own (fun _=>False) w' w.heap.size 3 1 encI v (L.take i ++ M ++ L.drop (i+many))∧Ext w w':=by
  obtain ⟨la,lc,rfl,l1,l2,l3, -⟩:=_root_.id hl
  unfold maxLen at l2
  have HL:=Lib.hid hl
  have HM:=Lib.hid hm
  have hO0:Hid (Own (fun _=>False) (w.alloc (.cells #[] 3)) w.heap.size 3 1 encI (.slice (some ⟨w.heap.size,0,none⟩) 0 0) ([]:List Int)):=Lib.hid (Own.empty (fun k f=>f.elim) _ _ _ encI_ok.len)
  have hm0:Hid (Ext w (w.alloc (.cells #[] 3))):=Lib.hid ((Mods.refl _ w).alloc _)
  obtain ⟨ma,mc,rfl,m1,m2,m3, -⟩:=hm
  have u1:IntKind.i64.wrap ((i:Int)+(many:Int))=((i+many:Nat):Int):=by rw [IntWalk.i64_in _ (by omega)];omega
  have lt1:(L.take i).length=i:=by rw [List.length_take];omega
  have lt2:(L.drop (i+many)).length=L.length - (i+many):=List.length_drop
  have HT1:=Lib.hid lt1
  have HT2:=Lib.hid lt2
  clear hl lt1 lt2
  have p1:Hid (Sl F w 1 encI (.slice la i lc) (L.take i)):=Lib.hid (HL.out.pre i (by omega))
  have p3:Hid (Sl F w 1 encI (.slice (if lc=i+many then la else la.map (·.add (i+many))) (L.length - (i+many)) (lc - (i+many))) (L.drop (i+many))):=Lib.hid (by have:=HL.out.tail_ (i+many) h1;simpa only [Nat.mul_one] using this)
  obtain ⟨R,hR⟩:∃ R,R=L.take i ++ M ++ L.drop (i+many):=⟨_,rfl⟩
  rw [← hR]
  have HR:=Lib.hid hR
  clear hR
  go_enter Tryz.func108, Tryz.ntmps108
  go_wp2_with (first
    | (at_builtin;refine wpl_app2 Tryz.elI encI_ok rfl _ _ rfl w.heap.size _ (.slice la i lc) [] (L.take i) rfl rfl hO0.out (p1.out.ext hm0.out) (by rw [HT1.out];simp only [List.length_nil];omega) (by simp) (fun f=>f) ?_;rw [List.nil_append,List.length_nil,HT1.out,Nat.zero_add];intro a1 c1 w1 hO1 hm1 hat1;have HO1:=Lib.hid hO1;have HM1:Hid (Ext w w1):=Lib.hid (Mods.past hm0.out (hm1.mono (fun k hk=>(hO0.out.lt k hk).1)));clear hO1 hm1 hat1)
    | (at_builtin;refine wpl_app2 Tryz.elI encI_ok rfl _ _ rfl w.heap.size (.slice a1 i c1) (.slice ma M.length mc) (L.take i) M rfl rfl HO1.out (HM.out.ext HM1.out) (by rw [HT1.out];omega) HM1.out.size (fun f=>f) ?_;rw [HT1.out];intro a2 c2 w2 hO2 hm2 hat2;have HO2:=Lib.hid hO2;have HM2:Hid (Ext w w2):=Lib.hid (Mods.past HM1.out (hm2.mono (fun k hk=>(HO1.out.lt k hk).1)));clear hO2 hm2 hat2)
    | (at_builtin;refine wpl_app2 Tryz.elI encI_ok rfl _ _ rfl w.heap.size (.slice a2 (i+M.length) c2) _ (L.take i ++ M) (L.drop (i+many)) rfl rfl HO2.out (p3.out.ext HM2.out) (by rw [List.length_append,HT1.out,HT2.out];omega) HM2.out.size (fun f=>f) ?_;rw [List.length_append,HT1.out,HT2.out];intro a3 c3 w3 hO3 hm3 hat3;have HO3:=Lib.hid hO3;have HM3:Hid (Ext w w3):=Lib.hid (Mods.past HM2.out (hm3.mono (fun k hk=>(HO2.out.lt k hk).1)));clear hO3 hm3 hat3)
    | fail)
  all_goals
    go_ret
    exact ⟨_,rfl,by rw [HR.out];exact HO3.out,HM3.out⟩
theorem laidI_end (lv:Value) (L:List Int) (hl:Sl F w 1 encI lv L) (k:Nat) (hk:k=L.length) (hb:L.length≤1000000) :
    Calls Tryz.prog 108 #[lv,.int .i64 (k:Int),.int .i64 0,.slice none 0 0] w fun e w'=>∃ a c,e=.returned (.slice a k c)∧Own (fun _=>False) w' w.heap.size 3 1 encI (.slice a k c) L∧Ext w w':=by
  have h:=laidI_any lv (.slice none 0 0) L [] hl (Sl.nil (fun _=>False) w 1 encI) k 0 (by omega) hb (by simp)
  refine h.mono ?_
  rintro e w' ⟨v,rfl,ho,hm⟩
  have e1:L.take k ++ [] ++ L.drop (k+0)=L:=by rw [Nat.add_zero,List.append_nil,List.take_append_drop]
  rw [e1] at ho
  obtain ⟨a,c,rfl,_⟩:=ho.form
  subst hk
  exact ⟨a,c,rfl,ho,hm⟩
theorem laidI_beg (lv:Value) (L:List Int) (hl:Sl F w 1 encI lv L) (k:Nat) (hk:k=L.length) (hb:L.length≤1000000) :
    Calls Tryz.prog 108 #[lv,.int .i64 0,.int .i64 0,.slice none 0 0] w fun e w'=>∃ a c,e=.returned (.slice a k c)∧Own (fun _=>False) w' w.heap.size 3 1 encI (.slice a k c) L∧Ext w w':=by
  have h:=laidI_any lv (.slice none 0 0) L [] hl (Sl.nil (fun _=>False) w 1 encI) 0 0 (by omega) hb (by simp)
  refine h.mono ?_
  rintro e w' ⟨v,rfl,ho,hm⟩
  have e1:L.take 0 ++ [] ++ L.drop (0+0)=L:=by simp
  rw [e1] at ho
  obtain ⟨a,c,rfl,_⟩:=ho.form
  subst hk
  exact ⟨a,c,rfl,ho,hm⟩
end
end Go.Proofs.YtphafjmdhmpkbaaGreatDoor
