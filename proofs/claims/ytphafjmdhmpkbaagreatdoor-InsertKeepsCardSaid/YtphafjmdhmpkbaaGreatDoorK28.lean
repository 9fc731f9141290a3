/- Chains on any pages: what is written is read, and what they take and give back. Plain. | insert.Put, as plain Lean, and what a step of it leaves alone though it fails. | Search trees on any pages, each page once. Plain. | A node that is a little too heavy is cut into halves that fit. Plain. -/
import Derived.Test.YtphafjmdhmpkbaaGreatDoorK27
import Derived.Test.YtphafjmdhmpkbaaGreatDoorK24
import Derived.Test.YtphafjmdhmpkbaaGreatDoorK08
namespace Go.Proofs.YtphafjmdhmpkbaaGreatDoor
open Go.RowKit
def ndS (sz n:Nat):Nat:=(n - 1) / (sz - 28)+1
theorem ndS_need (sz n:Nat) (h:1≤n) (h1:256≤sz) (h2:sz≤1024):needN (n:Int) (sz:Int)=(ndS sz n:Int):=by
  unfold needN ndS
  rw [if_neg (by omega)]
  have e1:((n:Int) - 1)=((n - 1:Nat):Int):=by omega
  have e2:((sz:Int) - 28)=((sz - 28:Nat):Int):=by omega
  rw [e1,e2]
  simp
theorem ndS_fit (sz n:Nat) (h:1≤n) (h1:256≤sz):Fit n (sz - 28) (ndS sz n):=by
  obtain ⟨d,hd⟩:∃ d,d=sz - 28:=⟨_,rfl⟩
  unfold ndS
  rw [← hd]
  have h3:=Nat.div_add_mod (n - 1) d
  have h4:=Nat.mod_lt (n - 1) (show 0 < d by omega)
  have h5:(n - 1) / d * d=d * ((n - 1) / d):=Nat.mul_comm _ _
  generalize (n - 1) / d=k at *
  refine ⟨by omega,by omega,?_,?_⟩
  · rw [Nat.add_sub_cancel,h5];omega
  · rw [Nat.succ_mul,h5];omega
theorem ndS_le (sz n:Nat) (h:n≤4096) (h1:256≤sz):ndS sz n≤18:=by
  unfold ndS
  have:=Nat.div_le_div_left (show 228≤sz - 28 by omega) (show 0 < 228 by omega) (a:=n - 1)
  omega
structure ChG (G:GA) (gen:Nat) (c s:Int) (v:ByteArray) (ids:List Nat):Prop where
  size:s=(v.size:Int)
  lo:25≤v.size
  hi:v.size≤4096
  len:ids.length=ndS G.size v.size
  first:c=((ids.getD 0 0:Nat):Int)
  lt:∀ i ∈ ids,2≤i∧i < G.blocks
  page:∃ g,g≤gen∧∀ i,i < ids.length→G.view (ids.getD i 0)=some (.inl (chPage g v.data.toList (G.size - 28) ids i))
theorem getD_in {ids:List Nat} {i:Nat} (h:i < ids.length):ids.getD i 0 ∈ ids:=by
  have:ids.getD i 0=ids[i]:=by simp [List.getD,h]
  rw [this];exact List.getElem_mem h
theorem getD_out {ids:List Nat} {i:Nat} (h:ids.length≤i):ids.getD i 0=0:=by simp [List.getD,List.getElem?_eq_none h]
section
variable {G G':GA} {gen:Nat} {c s:Int} {v:ByteArray} {ids:List Nat}
theorem ChG.mono (h:ChG G gen c s v ids) {gen':Nat} (hg:gen≤gen') (hb:G'.blocks=G.blocks) (hs:G'.size=G.size) (hv:∀ i ∈ ids,G'.view i=G.view i):ChG G' gen' c s v ids :=
  ⟨h.size,h.lo,h.hi,by rw [hs];exact h.len,h.first,fun i hi=>by rw [hb];exact h.lt i hi,by
    obtain ⟨g,h1,h2⟩:=h.page
    exact ⟨g,Nat.le_trans h1 hg,fun i hi=>by rw [hs];exact (hv _ (getD_in hi)).trans (h2 i hi)⟩⟩
theorem chI_ok {v:List UInt8} {m nn blocks:Nat} {ids:List Nat} (hm:ids.length=m) (hf:Fit v.length nn m) {size:Nat} (hs:size=nn+28) (hlt:∀ i ∈ ids,2≤i∧i < blocks) (hb2:blocks≤256) {i:Nat} (hi:i < m) (g:Nat) :
    pieceBad size (chPage g v nn ids i) ((v.length - i * nn:Nat):Int)=false:=by
  unfold pieceBad chPage
  simp only
  have hnx:(i+1 < m→2≤ids.getD (i+1) 0∧ids.getD (i+1) 0 < blocks)∧(¬ i+1 < m→ids.getD (i+1) 0=0) :=
    ⟨fun h=>hlt _ (getD_in (by omega)),fun h=>getD_out (by omega)⟩
  generalize ids.getD (i+1) 0=nx at *
  have hn:nx < 4294967296:=by
    by_cases h:i+1 < m
    · have:=hnx.1 h;omega
    · have:=hnx.2 h;omega
  rw [takeF_head _ _ hn]
  have hl:=hf.left hi
  have hpl:=piece_len v nn i
  have hmin:min ((v.length - i * nn:Nat):Int) ((size:Int) - 28)=((min nn (v.length - i * nn):Nat):Int):=by omega
  rw [hmin]
  have e1:((leB 4 nx ++ pieceB v nn i).length:Int)=4+((min nn (v.length - i * nn):Nat):Int):=by
    rw [List.length_append,leB_length,hpl];omega
  rw [e1]
  by_cases h1:i+1 < m
  · have:=hf.more h1
    have h3:=hnx.1 h1
    simp
    omega
  · have:=hf.last (show i+1=m by omega)
    have h3:=hnx.2 h1
    rw [h3]
    simp
    omega
theorem chI_walk {v:List UInt8} {m nn g:Nat} (hm:ids.length=m) (hf:Fit v.length nn m) (hs:G.size=nn+28) (hlt:∀ i ∈ ids,2≤i∧i < G.blocks) (hb2:G.blocks≤256)
    (h:∀ i,i < m→G.view (ids.getD i 0)=some (.inl (chPage g v nn ids i))) :
    ∀ (k i f:Nat),i+k=m→v.length - i * nn≤f →
      walkA G f ((ids.getD i 0:Nat):Int) ((v.length - i * nn:Nat):Int)=((List.range' i k).map (fun j=>(((ids.getD j 0:Nat):Int),pieceB v nn j)),none) ∧
      walkOk G f ((ids.getD i 0:Nat):Int) ((v.length - i * nn:Nat):Int)
  | 0,i,f,hc,hfu=>by
    have:v.length - i * nn=0:=by have:=hf.hi;rw [← hc,Nat.add_zero] at this;omega
    rw [this]
    exact ⟨walkA_zero _ _ _ _ (by omega),walkOk_zero _ _ _ _ (by omega)⟩
  | k+1,i,f,hc,hfu=>by
    have hi:i < m:=by omega
    have hl:=hf.left hi
    obtain ⟨f,rfl⟩:∃ f',f=f'+1:=⟨f - 1,by omega⟩
    have hnn:=hf.n228
    obtain ⟨h1,h2⟩:=chI_walk hm hf hs hlt hb2 h k (i+1) f (by omega) (by rw [Nat.succ_mul];omega)
    have hid:=hlt _ (getD_in (show i < ids.length by omega))
    have hg:G.get ((ids.getD i 0:Nat):Int)=.inl (chPage g v nn ids i):=get_view hid.2 (h i hi)
    have hbad:=chI_ok (size:=G.size) hm hf hs hlt hb2 hi g
    have hn:ids.getD (i+1) 0 < 4294967296:=by
      rcases Nat.lt_or_ge (i+1) ids.length with h | h
      · have:=hlt _ (getD_in h);omega
      · rw [getD_out h];omega
    have ht:takeF (chPage g v nn ids i).body 0 4=(ids.getD (i+1) 0,none):=takeF_head _ _ hn
    have hd:(chPage g v nn ids i).body.drop 4=pieceB v nn i:=drop_head _ _
    have hsub:((v.length - i * nn:Nat):Int) - min ((v.length - i * nn:Nat):Int) ((G.size:Int) - 28)=((v.length - (i+1) * nn:Nat):Int):=by
      rw [Nat.succ_mul];omega
    constructor
    · rw [walkA,if_neg (by omega),hg]
      simp only [hbad,ht,hd,hsub]
      rw [h1,List.range'_succ]
      rfl
    · rw [walkOk]
      intro _
      refine ⟨fun _=>⟨_,by rw [Int.toNat_natCast];exact h i hi⟩,fun x hx _=>?_⟩
      rw [hg] at hx
      injection hx with hx
      subst hx
      rw [ht,hsub]
      exact h2
theorem ChG.walk (h:ChG G gen c s v ids) (hs:256≤G.size) (hb:G.blocks≤256) :
    chErr G c s=none∧walkOk G s.toNat c s∧(walkA G s.toNat c s).1.map (·.1)=ids.map (fun k:Nat=>(k:Int))∧G.R c s=some v:=by
  obtain ⟨g,_,hp⟩:=h.page
  have hl:v.data.toList.length=v.size:=size_toList v
  have hlo:=h.lo
  have hhi:=h.hi
  have hf:Fit v.data.toList.length (G.size - 28) (ndS G.size v.size):=by rw [hl];exact ndS_fit _ _ (by omega) hs
  obtain ⟨w1,w2⟩:=chI_walk (G:=G) (g:=g) h.len hf (by omega) h.lt hb (fun i hi=>hp i (by rw [h.len];exact hi)) (ndS G.size v.size) 0 v.size (by omega) (by rw [hl];omega)
  rw [hl] at w1 w2
  simp only [Nat.zero_mul,Nat.sub_zero] at w1 w2
  rw [h.size,h.first,Int.toNat_natCast]
  have hz:chErr G ((ids.getD 0 0:Nat):Int) (v.size:Int)=none:=by
    unfold chErr chCheck
    rw [if_neg (by omega),Int.toNat_natCast,w1]
    rfl
  refine ⟨hz,w2,?_,?_⟩
  · rw [w1]
    refine List.ext_getElem (by simp [h.len]) (fun i h1 h2=>?_)
    simp only [List.length_map] at h2
    simp [List.getD,h2]
  · unfold GA.R
    rw [hz,Int.toNat_natCast,w1]
    simp only [Option.some.injEq,List.flatMap_map]
    apply ByteArray.ext
    exact congrArg List.toArray (pieces_all v.data.toList (G.size - 28) (ndS G.size v.size) hf.hi)
/-! ### what a chain takes -/
theorem takeA_some:∀ (m:Nat) (l:List Nat),(m:Int)≤phiL l→∃ ids l1,takeA m l=some (ids,l1)
  | 0,l,_=>⟨[],l,rfl⟩
  | m+1,l,h=>by
    obtain ⟨i,hi⟩:=phi_free (l:=l) (by omega)
    obtain ⟨ids,l1,h1⟩:=takeA_some m (l.set i 2) (by rw [phi_set (spFree_at hi).1];simp;omega)
    exact ⟨i :: ids,l1,by rw [takeA,hi];simp only [h1]⟩
structure TakenA (m:Nat) (l ids l1:List Nat):Prop where
  len:ids.length=m
  lenL:l1.length=l.length
  nodup:ids.Nodup
  at_:∀ i ∈ ids,l[i]? = some 0∧l1[i]? = some 2
  far:∀ i,i ∉ ids→l1[i]? = l[i]?
  phi:phiL l1=phiL l - m
theorem takeA_taken:∀ (m:Nat) (l ids l1:List Nat),takeA m l=some (ids,l1)→TakenA m l ids l1
  | 0,l,ids,l1,h=>by
    rw [takeA] at h
    injection h with h
    injection h with h1 h2
    subst h1 h2
    exact ⟨rfl,rfl,List.nodup_nil,fun i hi=>by simp at hi,fun _ _=>rfl,by simp⟩
  | m+1,l,ids,l1,h=>by
    rw [takeA] at h
    cases hf:spFree l with
    | none=>rw [hf] at h;cases h
    | some i =>
      rw [hf] at h
      simp only at h
      cases ht:takeA m (l.set i 2) with
      | none=>rw [ht] at h;cases h
      | some x =>
        obtain ⟨r,l2⟩:=x
        rw [ht] at h
        simp only [Option.some.injEq,Prod.mk.injEq] at h
        obtain ⟨rfl,rfl⟩:=h
        obtain ⟨k1,k2,k3,k4,k5,k6⟩:=takeA_taken m _ _ _ ht
        have h0:=spFree_at hf
        have hir:i ∉ r:=fun hm=>by
          have:=(k4 i hm).1
          rw [List.getElem?_set_self h0.2] at this
          simp at this
        refine ⟨by simp [k1],by rw [k2];simp,List.nodup_cons.2 ⟨hir,k3⟩,fun j hj=>?_,fun j hj=>?_,?_⟩
        · rcases List.mem_cons.1 hj with rfl | hj
          · exact ⟨h0.1,by rw [k5 _ hir,List.getElem?_set_self h0.2]⟩
          · have hne:i ≠ j:=fun e=>hir (e ▸ hj)
            have:=k4 j hj
            rw [List.getElem?_set_ne hne] at this
            exact this
        · rw [List.mem_cons,not_or] at hj
          rw [k5 j hj.2,List.getElem?_set_ne (fun e=>hj.1 e.symm)]
        · rw [k6,phi_set h0.1];simp;omega
theorem putsI_view (g:Nat) (v:List UInt8) (nn:Nat) (ids:List Nat) (hn:ids.Nodup):∀ (k:Nat) (G:GA),k≤ids.length →
    (∀ j,j < k→(chPuts g v nn ids k G).view (ids.getD j 0)=some (.inl (chPage g v nn ids j)))∧(∀ i,i ∉ ids→(chPuts g v nn ids k G).view i=G.view i∧(chPuts g v nn ids k G).look i=G.look i)
  | 0,G,_=>⟨fun j hj=>by omega,fun i _=>⟨rfl,rfl⟩⟩
  | k+1,G,hk=>by
    obtain ⟨h1,h2⟩:=putsI_view g v nn ids hn k G (by omega)
    have e:(chPage g v nn ids k).id.toNat=ids.getD k 0:=by
      show ((ids.getD k 0:Nat):Int).toNat=_
      rw [Int.toNat_natCast]
    refine ⟨fun j hj=>?_,fun i hi=>?_⟩
    · rw [chPuts,put_view,e]
      by_cases hjk:j=k
      · subst hjk;rw [if_pos rfl]
      · have hne:ids.getD j 0 ≠ ids.getD k 0:=by
          simp only [List.getD,List.getElem?_eq_getElem (show j < ids.length by omega),List.getElem?_eq_getElem (show k < ids.length by omega),Option.getD_some]
          intro he
          exact hjk ((List.getElem_inj hn).1 he)
        rw [if_neg hne]
        exact h1 j (by omega)
    · have hne:i ≠ ids.getD k 0:=fun he=>hi (he ▸ getD_in (by omega))
      rw [chPuts,put_view,e,if_neg hne,put_look _ _ (by rw [e];exact hne)]
      exact h2 i hi
theorem upd_write {l l1:List Nat} {m:Nat} (h:takeA m l=some (ids,l1)) (g:Nat) (v:List UInt8) (nn:Nat):Upd G l (fun _=>False) (chPuts g v nn ids m G) l1 (fun i=>i ∈ ids):=by
  obtain ⟨k1,k2,k3,k4,k5,k6⟩:=takeA_taken _ _ _ _ h
  obtain ⟨s1,s2,s3⟩:=chPuts_same g v nn ids m G
  obtain ⟨_,p2⟩:=putsI_view g v nn ids k3 m G (by omega)
  exact ⟨s2,s1,k2,fun i hi=>.inr (k4 i hi),fun _ f=>f.elim,fun i _ hi=>⟨k5 i hi,fun _=>(p2 i hi).1⟩,fun i hi=>by
    have hni:i ∉ ids:=fun hm=>by rw [(k4 i hm).1] at hi;simp at hi
    exact ⟨(p2 i hni).2,.inl (p2 i hni).1⟩⟩
theorem upd_erase:∀ (ids l:List Nat) (G:GA),ids.Nodup→(∀ i ∈ ids,2≤i)→UseL l (fun i=>i ∈ ids) →
    Upd G l (fun i=>i ∈ ids) (giveG G ids) (giveL l ids) (fun _=>False)∧giveOk l ids∧phiL l+ids.length≤phiL (giveL l ids)
  | [],l,G,_,_,_=>⟨(Upd.refl G l (fun _=>False)).iff (fun i=>by simp) (fun _=>Iff.rfl),trivial,by simp [giveL]⟩
  | i :: r,l,G,hn,h2,hu=>by
    rw [List.nodup_cons] at hn
    obtain ⟨u1,u2,u3⟩:=upd_give (G:=G) (h2 i List.mem_cons_self) (hu i List.mem_cons_self)
    have hr:∀ j ∈ r,j ≠ i:=fun j hj e=>hn.1 (e ▸ hj)
    have hu2:UseL (spGive l (i:Int)).1 (fun j=>j ∈ r):=fun j hj=>by
      rw [spGive_get (hr j hj)];exact hu j (List.mem_cons_of_mem _ hj)
    obtain ⟨k1,k2,k3⟩:=upd_erase r (spGive l (i:Int)).1 (G.drop i) hn.2 (fun j hj=>h2 j (List.mem_cons_of_mem _ hj)) hu2
    refine ⟨?_,⟨u2,k2⟩,?_⟩
    · have f:=u1.frame (B:=fun j=>j ∈ r) (fun j hj=>⟨hr j hj,fun e=>by
        rcases hu j (List.mem_cons_of_mem _ hj) with h | h <;> rw [e] at h <;> simp at h⟩)
      have f2:=f.iff (A':=fun j=>j ∈ i :: r) (A1':=fun j=>j ∈ r) (fun j=>by rw [List.mem_cons]) (fun j=>by simp)
      exact f2.trans k1 hu
    · rw [giveL,List.length_cons];omega
theorem chG_new {l l1:List Nat} {v:ByteArray} {m:Nat} (h:takeA m l=some (ids,l1)) (hm:m=ndS G.size v.size) (h25:25≤v.size) (h4096:v.size≤4096) (h0:l[0]? ≠ some 0) (h1:l[1]? ≠ some 0) (hlb:l.length≤G.blocks) (g:Nat) :
    ChG (chPuts g v.data.toList (G.size - 28) ids m G) g ((ids.getD 0 0:Nat):Int) (v.size:Int) v ids:=by
  obtain ⟨k1,k2,k3,k4,k5,k6⟩:=takeA_taken _ _ _ _ h
  obtain ⟨s1,s2,s3⟩:=chPuts_same g v.data.toList (G.size - 28) ids m G
  obtain ⟨p1,_⟩:=putsI_view g v.data.toList (G.size - 28) ids k3 m G (by omega)
  refine ⟨rfl,h25,h4096,by rw [s2,k1,hm],rfl,fun i hi=>?_,g,Nat.le_refl _,fun i hi=>by rw [s2];exact p1 i (by omega)⟩
  have hz:=(k4 i hi).1
  have hlt:=(List.getElem?_eq_some_iff.1 hz).1
  rw [s1]
  refine ⟨?_,by omega⟩
  rcases Nat.lt_or_ge i 2 with h | h
  · obtain rfl | rfl:i=0∨i=1:=by omega
    · exact absurd hz h0
    · exact absurd hz h1
  · exact h
end
structure OutA where
  id0:Nat
  id1:Nat
  key:ByteArray
  two:Bool
  news:Bool
abbrev StA (α:Type):=(GA × List Nat × α) ⊕ Nat
def settleA (G:GA) (l:List Nat) (gen old:Nat) (n:NodeA):StA OutA :=
  if weightN n≤(G.size:Int) - 24 then (match downI G l old n with
    | some i=>.inl (downG G l gen old n,downL G l old n,⟨i,0,e0,false,false⟩)
    | none=>.inr (downK G n))
  else match cutA n with
    | none=>.inr 8
    | some (a,k,b)=>if weightN a≤(G.size:Int) - 24∧weightN b≤(G.size:Int) - 24 then (match downI G l old a with
        | none=>.inr (downK G a)
        | some i=>match downI (downG G l gen old a) (downL G l old a) 0 b with
          | none=>.inr (downK (downG G l gen old a) b)
          | some j=>.inl (downG (downG G l gen old a) (downL G l old a) gen 0 b,downL (downG G l gen old a) (downL G l old a) 0 b,⟨i,j,k,true,false⟩))
      else .inr 8
def entryP (G:GA) (l:List Nat) (gen:Nat) (key v:ByteArray):StA EntryA :=
  if v.size≤24 then .inl (G,l,⟨key,v,0,0⟩) else match takeA (needN v.size G.size).toNat l with
    | some (ids,l1)=>.inl (chPuts gen v.data.toList (G.size - 28) ids ids.length G,l1,⟨key,e0,((ids.getD 0 0:Nat):Int),(v.size:Int)⟩)
    | none=>.inr 3
def oldIds (G:GA) (n:NodeA) (key:ByteArray):List Nat:=match n.entries[entAt key n.entries]? with
  | none=>[]
  | some e=>if entIs key n.entries=true∧e.chain ≠ 0 then (walkA G e.size.toNat e.chain e.size).1.map (fun x=>x.1.toNat) else []
def withE (n:NodeA) (key:ByteArray) (e:EntryA):NodeA :=
  { n with entries:=n.entries.take (entAt key n.entries) ++ [e] ++ n.entries.drop (entAt key n.entries+if entIs key n.entries=true then 1 else 0) }
def leafA (G:GA) (l:List Nat) (gen id:Nat) (n:NodeA) (key v:ByteArray):StA OutA :=
  match entryP (giveG G (oldIds G n key)) (giveL l (oldIds G n key)) gen key v with
  | .inr k=>.inr k
  | .inl (G1,l1,e)=>match settleA G1 l1 gen id (withE n key e) with
    | .inr k=>.inr k
    | .inl (G2,l2,o)=>.inl (G2,l2,{ o with news:=!entIs key n.entries })
def joinA (n:NodeA) (i:Nat) (o:OutA):NodeA :=
  if o.two=true then { n with kids:=n.kids.take i ++ [(o.id0:Int),(o.id1:Int)] ++ n.kids.drop (i+1),keys:=n.keys.take i ++ [o.key] ++ n.keys.drop (i+0) }
  else { n with kids:=n.kids.take i ++ [(o.id0:Int)] ++ n.kids.drop (i+1) }
def putA (gen:Nat) (key v:ByteArray):Nat→GA→List Nat→Nat→StA OutA
  | 0,_,_,_=>.inr 5
  | f+1,G,l,id=>match G.load id with
    | .inr e=>.inr e.2
    | .inl n=>if n.leaf=true then leafA G l gen id n key v else match putA gen key v f G l (n.kids.getD (kidAt key n.keys) 0).toNat with
      | .inr k=>.inr k
      | .inl (G1,l1,o)=>match settleA G1 l1 gen id (joinA n (kidAt key n.keys) o) with
        | .inr k=>.inr k
        | .inl (G2,l2,o2)=>.inl (G2,l2,{ o2 with news:=o.news })
def leaf0:NodeA:=⟨true,[],[],[]⟩
def rootA (o:OutA):NodeA:=⟨false,[],[o.key],[(o.id0:Int),(o.id1:Int)]⟩
def putCheck (key v:ByteArray):Option Nat:=if keyB key=false then some 2 else if 4096 < v.size then some 8 else none
def putR (G:GA) (l:List Nat) (gen root:Nat) (key v:ByteArray):StA (Nat × Bool) :=
  match putCheck key v with
  | some k=>.inr k
  | none=>match (if root=0 then leafA G l gen 0 leaf0 key v else putA gen key v 16 G l root) with
    | .inr k=>.inr k
    | .inl (G1,l1,o)=>if o.two=false then .inl (G1,l1,(o.id0,o.news)) else match downI G1 l1 0 (rootA o) with
      | none=>.inr (downK G1 (rootA o))
      | some i=>.inl (downG G1 l1 gen 0 (rootA o),downL G1 l1 0 (rootA o),(i,o.news))
/-! ### what holds whatever comes -/
structure FrG (G:GA) (l:List Nat) (G':GA) (l':List Nat):Prop where
  sz:G'.size=G.size
  bl:G'.blocks=G.blocks
  len:l'.length=l.length
  keep:∀ i,l[i]? = some 1∨l[i]? = some 3→(l'[i]? = some 1∨l'[i]? = some 3)∧G'.look i=G.look i∧(G'.view i=G.view i∨G'.view i=openO (G.look i) i)
  low:∀ i,i < 2→l[i]? = some 1→l'[i]? = some 1
  other:∀ i:Nat,l[i]? = some 0∨l[i]? = some 2→l'[i]? = some 0∨l'[i]? = some 2
section
variable {G G1 G2:GA} {l l1 l2:List Nat}
theorem FrG.refl (G:GA) (l:List Nat):FrG G l G l:=⟨rfl,rfl,rfl,fun _ h=>⟨h,rfl,.inl rfl⟩,fun _ _ h=>h,fun _ h=>h⟩
theorem FrG.trans (h:FrG G l G1 l1) (k:FrG G1 l1 G2 l2):FrG G l G2 l2 :=
  ⟨k.sz.trans h.sz,k.bl.trans h.bl,k.len.trans h.len,fun i hi=>by
    obtain ⟨h1,h2,h3⟩:=h.keep i hi
    obtain ⟨k1,k2,k3⟩:=k.keep i h1
    refine ⟨k1,k2.trans h2,?_⟩
    rcases k3 with k3 | k3
    · rw [k3];exact h3
    · rw [k3,h2];exact .inr rfl,fun i hi h1=>k.low i hi (h.low i hi h1),fun i hi=>k.other i (h.other i hi)⟩
def LowL (l:List Nat):Prop:=l[0]? = some 1∧l[1]? = some 1
theorem FrG.lowL (h:FrG G l G1 l1) (hl:LowL l):LowL l1:=⟨h.low 0 (by omega) hl.1,h.low 1 (by omega) hl.2⟩
theorem LowL.ok (h:LowL l):spOk l:=⟨by rw [h.1];simp,by rw [h.2];simp⟩
theorem Upd.fr {A A1:Nat→Prop} (h:Upd G l A G1 l1 A1) (hA:∀ i,A i→2≤i):FrG G l G1 l1:=by
  refine ⟨h.sz,h.bl,h.len,fun i hi=>⟨?_,h.keep i hi⟩,fun i hi h1=>?_,fun i hi=>?_⟩
  · by_cases h1:A1 i
    · rcases h.inn i h1 with ⟨_,h2⟩ | ⟨h2,_⟩
      · rw [h2];exact hi
      · rcases hi with e | e <;> rw [h2] at e <;> simp at e
    · by_cases ha:A i
      · rcases h.gone i ha h1 with ⟨h2,_⟩ | ⟨_,h2⟩
        · rcases hi with e | e <;> rw [h2] at e <;> simp at e
        · exact .inr h2
      · rw [(h.rest i ha h1).1];exact hi
  · have ha:¬ A i:=fun ha=>by have:=hA i ha;omega
    have hn:¬ A1 i:=fun h2=>by
      rcases h.inn i h2 with ⟨h3,_⟩ | ⟨h3,_⟩
      · exact ha h3
      · rw [h3] at h1;simp at h1
    rw [(h.rest i ha hn).1];exact h1
  · by_cases h1:A1 i
    · rcases h.inn i h1 with ⟨_,h2⟩ | ⟨_,h2⟩
      · rw [h2];exact hi
      · exact .inr h2
    · by_cases ha:A i
      · rcases h.gone i ha h1 with ⟨_,h2⟩ | ⟨h2,_⟩
        · exact .inl h2
        · rcases hi with e | e <;> rw [h2] at e <;> simp at e
      · rw [(h.rest i ha h1).1];exact hi
theorem downL_none {G:GA} {l:List Nat} {old:Nat} {n:NodeA} (h:downI G l old n=none) (_ho:old=0∨(2≤old∧(l[old]? = some 1∨l[old]? = some 2))):downL G l old n=l:=by
  unfold downI at h
  unfold downL
  split at h
  · rename_i hd
    rw [if_pos hd]
    unfold placeI at h
    unfold placeL
    split at h
    · cases h
    · rename_i hf
      by_cases hz:old=0
      · rw [if_pos hz];unfold spTake;rw [h]
      · rw [if_neg hz,if_neg (fun hf2=>hf ⟨hz,hf2⟩),h]
  · rename_i hd;rw [if_neg hd]
theorem downG_none {gen old:Nat} {n:NodeA} (h:downI G l old n=none):downG G l gen old n=G:=by unfold downG;rw [h]
def PlaceOf (l:List Nat) (old:Nat):Prop:=old=0∨(2≤old∧(l[old]? = some 1∨l[old]? = some 2))
theorem PlaceOf.ok {old:Nat} (h:PlaceOf l old):placeOk l old:=h.imp id (fun h=>h.2)
theorem PlaceOf.two {old:Nat} (h:PlaceOf l old):old=0∨2≤old:=h.imp id (fun h=>h.1)
theorem PlaceOf.lt {old:Nat} (h:PlaceOf l old) (hl:l.length≤256):old < 256:=by
  rcases h with rfl | ⟨_,h | h⟩
  · omega
  · have:=(List.getElem?_eq_some_iff.1 h).1;omega
  · have:=(List.getElem?_eq_some_iff.1 h).1;omega
theorem upd_down {gen old i:Nat} {n:NodeA} (ho:PlaceOf l old) (hi:downI G l old n=some i) (h0:l[0]? ≠ some 0) :
    Upd G l (fun k=>k=old∧old ≠ 0) (downG G l gen old n) (downL G l old n) (fun k=>k=i)∧phiL l - (if old=0 then 1 else 0)≤phiL (downL G l old n)∧1≤i∧i < l.length∧(downG G l gen old n).view i=some (.inl ⟨kindA n,(i:Int),gen,bytesN n⟩)∧downOk n G.size:=by
  have hd:downOk n G.size:=by
    unfold downI at hi
    split at hi
    · rename_i h;exact h
    · cases hi
  have hp:placeI l old=some i:=by unfold downI at hi;rw [if_pos hd] at hi;exact hi
  have e1:downG G l gen old n=(placeG G l old).put ⟨kindA n,(i:Int),gen,bytesN n⟩:=by unfold downG;rw [hi]
  have e2:downL G l old n=placeL l old:=by unfold downL;rw [if_pos hd]
  obtain ⟨u1,u2,u3⟩:=upd_place (G:=G) ho hp ⟨kindA n,(i:Int),gen,bytesN n⟩ rfl h0
  rw [e1,e2]
  exact ⟨u1,u2,u3,placeI_lt hp,by rw [put_view];simp,hd⟩
theorem fr_down {gen old:Nat} {n:NodeA} (ho:PlaceOf l old) (h0:l[0]? ≠ some 0):FrG G l (downG G l gen old n) (downL G l old n):=by
  cases hi:downI G l old n with
  | none=>rw [downG_none hi,downL_none hi ho];exact FrG.refl G l
  | some i=>exact (upd_down ho hi h0).1.fr (fun k hk=>by
      obtain ⟨rfl,hz⟩:=hk
      rcases ho with h | h
      · exact absurd h hz
      · exact h.1)
theorem fr_giveFree:∀ (a:List Nat) (G:GA) (l:List Nat),(∀ i ∈ a,l[i]? = some 0)→FrG G l (giveG G a) l
  | [],G,l,_=>FrG.refl G l
  | x :: a,G,l,h=>by
    have h1:FrG G l (G.drop x) l:=⟨rfl,rfl,rfl,fun i hi=>⟨hi,rfl,.inl (by
      have hne:i ≠ x:=fun e=>by rw [e,h x List.mem_cons_self] at hi;simp at hi
      rw [drop_view,if_neg hne])⟩,fun _ _ h=>h,fun _ h=>h⟩
    exact h1.trans (fr_giveFree a (G.drop x) l (fun i hi=>h i (List.mem_cons_of_mem _ hi)))
end
def EntC (G:GA) (gen:Nat) (e:EntryA) (v:ByteArray) (ids:List Nat):Prop :=
  (e.chain=0∧e.value=v∧ids=[])∨(e.chain ≠ 0∧ChG G gen e.chain e.size v ids)
inductive Ents (G:GA) (gen:Nat):List EntryA→List PairS→List Nat→Prop
  | nil:Ents G gen [] [] []
  | cons {e x ids es l q}:e.key=x.1→EntC G gen e x.2 ids→Ents G gen es l q→Ents G gen (e :: es) (x :: l) (ids ++ q)
abbrev TreeT:=ByteArray→Option ByteArray→Nat→List PairS→List Nat→Prop
inductive Kids (T:TreeT):ByteArray→Option ByteArray→List ByteArray→List Int→List PairS→List Nat→Prop
  | one {lo hi c l q}:T lo hi c l q→Kids T lo hi [] [(c:Int)] l q
  | cons {lo hi s c keys kids l1 l2 q1 q2}:T lo (some s) c l1 q1→inB lo hi s→Kids T s hi keys kids l2 q2→Kids T lo hi (s :: keys) ((c:Int) :: kids) (l1 ++ l2) (q1 ++ q2)
structure PgN (G:GA) (gen id:Nat) (n:NodeA):Prop where
  lo:2≤id
  lt:id < G.blocks
  page:∃ p,G.view id=some (.inl p)∧p.gen≤gen∧decodeA p=.inl n
  fit:weightN n≤(G.size:Int) - 24
def Body (G:GA) (gen:Nat) (T:TreeT) (d:Nat) (lo:ByteArray) (hi:Option ByteArray) (n:NodeA) (l:List PairS) (q:List Nat):Prop :=
  (n.leaf=true∧d=0∧l ≠ []∧Ents G gen n.entries l q∧∀ x ∈ l,inB lo hi x.1)∨(n.leaf=false∧Kids T lo hi n.keys n.kids l q)
def TrD (G:GA) (gen:Nat):Nat→TreeT
  | 0=>fun _ _ _ _ _=>False
  | d+1=>fun lo hi id l pgs=>∃ n q,PgN G gen id n∧rightN n=true∧pgs=id :: q∧Body G gen (TrD G gen d) d lo hi n l q
section
variable {G G':GA} {gen gen':Nat} {T T':TreeT} {lo:ByteArray} {hi:Option ByteArray} {l:List PairS} {q:List Nat} {keys:List ByteArray} {kids:List Int}
theorem inB_low {lo s x:ByteArray} {hi:Option ByteArray} (h1:inB lo hi s) (h2:inB s hi x):inB lo hi x:=⟨not_lt_trans h1.1 h2.1,h2.2⟩
theorem inB_high {lo s x:ByteArray} {hi:Option ByteArray} (h1:inB lo hi s) (h2:inB lo (some s) x):inB lo hi x:=⟨h2.1,fun h e=>ltS_trans (h2.2 s rfl) (h1.2 h e)⟩
theorem Kids.bounds (hT:∀ lo hi c l q,T lo hi c l q→∀ x ∈ l,inB lo hi x.1) (h:Kids T lo hi keys kids l q):∀ x ∈ l,inB lo hi x.1:=by
  induction h with
  | one h=>exact hT _ _ _ _ _ h
  | cons h1 h2 _ ih =>
    intro x hx
    rcases List.mem_append.1 hx with hx | hx
    · exact inB_high h2 (hT _ _ _ _ _ h1 x hx)
    · exact inB_low h2 (ih x hx)
theorem TrD.bounds:∀ (d:Nat) (lo:ByteArray) (hi:Option ByteArray) (id:Nat) (l:List PairS) (q:List Nat),TrD G gen d lo hi id l q→∀ x ∈ l,inB lo hi x.1
  | 0,_,_,_,_,_,h=>h.elim
  | d+1,lo,hi,id,l,q,h=>by
    obtain ⟨n,q,_,_,_,h⟩:=h
    rcases h with ⟨_,_,_,_,h⟩ | ⟨_,h⟩
    · exact h
    · exact h.bounds (TrD.bounds d)
theorem Kids.mono (h:Kids T lo hi keys kids l q):(∀ lo hi c l p,(∀ x ∈ p,x ∈ q)→T lo hi c l p→T' lo hi c l p)→Kids T' lo hi keys kids l q:=by
  induction h with
  | one h=>exact fun hm=>.one (hm _ _ _ _ _ (fun _ hx=>hx) h)
  | cons h1 h2 _ ih=>exact fun hm=>.cons (hm _ _ _ _ _ (fun _ hx=>List.mem_append_left _ hx) h1) h2 (ih (fun lo hi c l p hp=>hm lo hi c l p (fun x hx=>List.mem_append_right _ (hp x hx))))
theorem EntC.mono {e:EntryA} {v:ByteArray} {ids:List Nat} (h:EntC G gen e v ids) (hg:gen≤gen') (hb:G'.blocks=G.blocks) (hs:G'.size=G.size) (hv:∀ i ∈ ids,G'.view i=G.view i):EntC G' gen' e v ids :=
  h.imp id (fun h=>⟨h.1,h.2.mono hg hb hs hv⟩)
theorem Ents.mono {es:List EntryA} (h:Ents G gen es l q):gen≤gen'→G'.blocks=G.blocks→G'.size=G.size→(∀ i ∈ q,G'.view i=G.view i)→Ents G' gen' es l q:=by
  induction h with
  | nil=>exact fun _ _ _ _=>.nil
  | cons h1 h2 _ ih=>exact fun hg hb hs hv=>.cons h1 (h2.mono hg hb hs (fun i hi=>hv i (List.mem_append_left _ hi))) (ih hg hb hs (fun i hi=>hv i (List.mem_append_right _ hi)))
theorem PgN.mono {id:Nat} {n:NodeA} (h:PgN G gen id n) (hg:gen≤gen') (hb:G'.blocks=G.blocks) (hs:G'.size=G.size) (hv:G'.view id=G.view id):PgN G' gen' id n:=by
  obtain ⟨p,h1,h2,h3⟩:=h.page
  exact ⟨h.lo,by rw [hb];exact h.lt,⟨p,hv.trans h1,Nat.le_trans h2 hg,h3⟩,by rw [hs];exact h.fit⟩
theorem TrD.mono (hg:gen≤gen') (hb:G'.blocks=G.blocks) (hs:G'.size=G.size):∀ (d:Nat) (lo:ByteArray) (hi:Option ByteArray) (id:Nat) (l:List PairS) (q:List Nat),(∀ i ∈ q,G'.view i=G.view i)→TrD G gen d lo hi id l q→TrD G' gen' d lo hi id l q
  | 0,_,_,_,_,_,_,h=>h.elim
  | d+1,lo,hi,id,l,pgs,hv,h=>by
    obtain ⟨n,q,h1,h2,rfl,h3⟩:=h
    refine ⟨n,q,h1.mono hg hb hs (hv id List.mem_cons_self),h2,rfl,?_⟩
    have hv2:∀ i ∈ q,G'.view i=G.view i:=fun i hi=>hv i (List.mem_cons_of_mem _ hi)
    rcases h3 with ⟨a1,a2,a3,a4,a5⟩ | ⟨a1,a2⟩
    · exact .inl ⟨a1,a2,a3,a4.mono hg hb hs hv2,a5⟩
    · exact .inr ⟨a1,a2.mono (fun lo hi c l p hp=>TrD.mono hg hb hs d lo hi c l p (fun i hi=>hv2 i (hp i hi)))⟩
theorem Body.mono {d:Nat} {n:NodeA} (h:Body G gen (TrD G gen d) d lo hi n l q) (hg:gen≤gen') (hb:G'.blocks=G.blocks) (hs:G'.size=G.size) (hv:∀ i ∈ q,G'.view i=G.view i):Body G' gen' (TrD G' gen' d) d lo hi n l q:=by
  rcases h with ⟨a1,a2,a3,a4,a5⟩ | ⟨a1,a2⟩
  · exact .inl ⟨a1,a2,a3,a4.mono hg hb hs hv,a5⟩
  · exact .inr ⟨a1,a2.mono (fun lo hi c l p hp=>TrD.mono hg hb hs d lo hi c l p (fun i hi=>hv i (hp i hi)))⟩
theorem Kids.len (h:Kids T lo hi keys kids l q):kids.length=keys.length+1:=by
  induction h with
  | one=>rfl
  | cons _ _ _ ih=>simp [ih]
theorem Kids.keysIn (h:Kids T lo hi keys kids l q):∀ s ∈ keys,inB lo hi s:=by
  induction h with
  | one=>intro s hs;simp at hs
  | cons _ h2 _ ih =>
    intro s hs
    rcases List.mem_cons.1 hs with rfl | hs
    · exact h2
    · exact inB_low h2 (ih s hs)
theorem Kids.join {s:ByteArray} {k1 k2:List ByteArray} {c1 c2:List Int} {l1 l2:List PairS} {q1 q2:List Nat} (h2:Kids T s hi k2 c2 l2 q2) (h1:Kids T lo (some s) k1 c1 l1 q1):inB lo hi s→Kids T lo hi (k1 ++ s :: k2) (c1 ++ c2) (l1 ++ l2) (q1 ++ q2):=by
  generalize ho:(some s:Option ByteArray)=o at h1
  induction h1 with
  | one h=>subst ho;exact fun hs=>.cons h hs h2
  | cons h hb _ ih =>
    subst ho
    intro hs
    have h3:=ih rfl ⟨(by
      have:=hb.2 s rfl
      exact ltS_asymm this),hs.2⟩
    simp only [List.cons_append,List.append_assoc]
    exact .cons h (inB_high hs hb) h3
theorem Kids.split:∀ (k1:List ByteArray) {s:ByteArray} {k2:List ByteArray} {c1 c2:List Int} {lo:ByteArray} {l:List PairS} {q:List Nat},Kids T lo hi (k1 ++ s :: k2) (c1 ++ c2) l q→c1.length=k1.length+1→((k1 ++ s :: k2).Pairwise fun a b=>ltS a b=true) →
    ∃ l1 l2 q1 q2,Kids T lo (some s) k1 c1 l1 q1∧Kids T s hi k2 c2 l2 q2∧l=l1 ++ l2∧q=q1 ++ q2∧inB lo hi s
  | [],s,k2,c1,c2,lo,l,q,h,hc,_=>by
    match c1,hc with
    | [c],_ =>
      generalize e1:([] ++ s :: k2:List ByteArray)=ks at h
      generalize e2:([c] ++ c2:List Int)=cs at h
      cases h with
      | one h=>simp at e1
      | cons h1 h2 h3 =>
        simp at e1 e2
        obtain ⟨rfl,rfl⟩:=e1
        obtain ⟨rfl,rfl⟩:=e2
        exact ⟨_,_,_,_,.one h1,h3,rfl,rfl,h2⟩
  | a :: k1,s,k2,c1,c2,lo,l,q,h,hc,hp=>by
    match c1,hc with
    | c :: c1,hc =>
      have hp2:=List.pairwise_cons.1 hp
      generalize e1:(a :: k1 ++ s :: k2:List ByteArray)=ks at h
      generalize e2:(c :: c1 ++ c2:List Int)=cs at h
      cases h with
      | one h=>simp at e1
      | cons h1 h2 h3 =>
        simp at e1 e2
        obtain ⟨rfl,rfl⟩:=e1
        obtain ⟨rfl,rfl⟩:=e2
        obtain ⟨l1,l2,q1,q2,j1,j2,rfl,rfl,j3⟩:=Kids.split k1 h3 (by simpa using hc) hp2.2
        exact ⟨_,_,_,_,.cons h1 ⟨h2.1,fun h e=>by injection e with e;subst e;exact hp2.1 _ (by simp)⟩ j1,j2,(List.append_assoc _ _ _).symm,(List.append_assoc _ _ _).symm,inB_low h2 j3⟩
/-! ### a pair more -/
theorem withP_low {key v:ByteArray} {r:List PairS}:∀ (l1:List PairS),(∀ x ∈ l1,ltS x.1 key=true)→withP key v true (l1 ++ r)=l1 ++ withP key v true r
  | [],_=>rfl
  | x :: l1,h=>by
    rw [List.cons_append,withP,if_pos (h x List.mem_cons_self),withP_low l1 (fun y hy=>h y (List.mem_cons_of_mem _ hy))]
    rfl
theorem withP_high {key v:ByteArray} {l2:List PairS} (h2:∀ x ∈ l2,ltS key x.1=true):∀ (lm:List PairS),withP key v true (lm ++ l2)=withP key v true lm ++ l2
  | []=>by
    cases l2 with
    | nil=>rfl
    | cons x l =>
      have h:=h2 x List.mem_cons_self
      show withP key v true (x :: l)=(key,v) :: x :: l
      unfold withP
      rw [if_neg (by rw [ltS_asymm h];simp),if_neg (ltS_ne h).symm]
  | x :: lm=>by
    rw [List.cons_append,withP,withP]
    split
    · rw [withP_high h2 lm];rfl
    · split
      · rfl
      · rfl
theorem findP_mid {key:ByteArray} {l1 lm l2:List PairS} (h1:∀ x ∈ l1,ltS x.1 key=true) (h2:∀ x ∈ l2,ltS key x.1=true):findP key (l1 ++ (lm ++ l2))=findP key lm:=by
  rw [findP_append,findP_append,findP_lt h1,findP_gt h2]
  simp
theorem Kids.at_ (hT:∀ lo hi c l q,T lo hi c l q→∀ x ∈ l,inB lo hi x.1) (h:Kids T lo hi keys kids l q) {key:ByteArray}:inB lo hi key →
    ∃ (k1 k2:List ByteArray) (c1:List Int) (c:Nat) (c2:List Int) (l1 lm l2:List PairS) (q1 qm q2:List Nat) (lo':ByteArray) (hi':Option ByteArray),
      keys=k1 ++ k2∧kids=c1 ++ (c:Int) :: c2∧c1.length=k1.length∧kidAt key keys=k1.length∧l=l1 ++ (lm ++ l2)∧q=q1 ++ (qm ++ q2)∧T lo' hi' c lm qm∧inB lo' hi' key ∧
      (∀ x ∈ l1,ltS x.1 key=true)∧(∀ x ∈ l2,ltS key x.1=true) ∧
      (∀ (T':TreeT) (ks:List ByteArray) (cs:List Int) (lm':List PairS) (qm':List Nat),Kids T' lo' hi' ks cs lm' qm'→(∀ lo hi c l p,(∀ x ∈ p,x ∈ q1∨x ∈ q2)→T lo hi c l p→T' lo hi c l p)→Kids T' lo hi (k1 ++ (ks ++ k2)) (c1 ++ (cs ++ c2)) (l1 ++ (lm' ++ l2)) (q1 ++ (qm' ++ q2))):=by
  induction h with
  | @one lo hi c l q h =>
    intro hk
    refine ⟨[],[],[],c,[],[],l,[],[],q,[],lo,hi,rfl,rfl,rfl,rfl,by simp,by simp,h,hk,by simp,by simp,fun T' ks cs lm' qm' h2 _=>by simpa using h2⟩
  | @cons lo hi s c keys kids l1 l2 q1 q2 h1 h2 h3 ih =>
    intro hk
    cases hks:ltS key s with
    | true =>
      refine ⟨[],s :: keys,[],c,kids,[],l1,l2,[],q1,q2,lo,some s,rfl,rfl,rfl,?_,rfl,rfl,h1,⟨hk.1,fun h e=>by injection e with e;subst e;exact hks⟩,by simp,fun x hx=>?_,fun T' ks cs lm' qm' j1 j2=>?_⟩
      · unfold kidAt;rw [List.findIdx_cons,hks];rfl
      · exact lt_of_lt_not hks (h3.bounds hT x hx).1
      · show Kids T' lo hi (ks ++ s :: keys) (cs ++ kids) (lm' ++ l2) (qm' ++ q2)
        exact Kids.join (h3.mono (fun lo hi c l p hp=>j2 lo hi c l p (fun x hx=>.inr (hp x hx)))) j1 h2
    | false =>
      obtain ⟨k1,k2,c1,c',c2,m1,mm,m2,p1,pm,p2,lo',hi',rfl,rfl,e3,e4,rfl,rfl,e7,e8,e9,e10,e11⟩:=ih ⟨hks,hk.2⟩
      refine ⟨s :: k1,k2,(c:Int) :: c1,c',c2,l1 ++ m1,mm,m2,q1 ++ p1,pm,p2,lo',hi',rfl,rfl,by simp [e3],?_,by simp,by simp,e7,e8,fun x hx=>?_,e10,fun T' ks cs lm' qm' j1 j2=>?_⟩
      · unfold kidAt at e4 ⊢;rw [List.findIdx_cons,hks];simp [e4]
      · rcases List.mem_append.1 hx with hx | hx
        · exact lt_of_lt_not ((hT _ _ _ _ _ h1 x hx).2 s rfl) hks
        · exact e9 x hx
      · have:=Kids.cons (T:=T') (j2 _ _ _ _ _ (fun x hx=>.inl (List.mem_append_left _ hx)) h1) h2 (e11 T' ks cs lm' qm' j1 (fun lo hi c l p hp=>j2 lo hi c l p (fun x hx=>(hp x hx).imp (List.mem_append_right _) id)))
        simpa using this
end
theorem firstMin_le (d:Nat→Nat):∀ (m b a x:Nat),(x=b∨(a≤x∧x < a+m))→d (firstMin d b a m)≤d x
  | 0,b,a,x,h=>by
    rcases h with rfl | h
    · exact Nat.le_refl _
    · omega
  | m+1,b,a,x,h=>by
    rw [firstMin]
    by_cases hlt:d a < d b
    · rw [if_pos hlt]
      rcases h with rfl | ⟨h1,h2⟩
      · exact Nat.le_trans (firstMin_le d m a (a+1) a (.inl rfl)) (Nat.le_of_lt hlt)
      · by_cases e:x=a
        · exact firstMin_le d m a (a+1) x (.inl e)
        · exact firstMin_le d m a (a+1) x (.inr ⟨by omega,by omega⟩)
    · rw [if_neg hlt]
      rcases h with rfl | ⟨h1,h2⟩
      · exact firstMin_le d m x (a+1) x (.inl rfl)
      · by_cases e:x=a
        · subst e
          exact Nat.le_trans (firstMin_le d m b (x+1) b (.inl rfl)) (by omega)
        · exact firstMin_le d m b (a+1) x (.inr ⟨by omega,by omega⟩)
theorem turn_point (g:Nat→Int) (lo:Nat):∀ (k:Nat),g lo≤0→0 < g (lo+k)→∃ a,lo≤a∧a < lo+k∧g a≤0∧0 < g (a+1)
  | 0,h1,h2=>by simp only [Nat.add_zero] at h2;omega
  | k+1,h1,h2=>by
    by_cases h3:0 < g (lo+k)
    · obtain ⟨a,a1,a2,a3,a4⟩:=turn_point g lo k h1 h3
      exact ⟨a,a1,by omega,a3,a4⟩
    · exact ⟨lo+k,by omega,by omega,by omega,h2⟩
theorem near_zero (g:Nat→Int) (M:Int) (lo k:Nat) (h1:g lo≤M) (h2 : -M≤g (lo+k)) (h3:∀ a,lo≤a→a < lo+k→g (a+1) - g a≤2 * M):∃ a,lo≤a∧a≤lo+k ∧ -M≤g a∧g a≤M:=by
  by_cases c1:0 < g lo
  · exact ⟨lo,Nat.le_refl _,by omega,by omega,h1⟩
  · by_cases c2:g (lo+k)≤0
    · exact ⟨lo+k,by omega,Nat.le_refl _,h2,by omega⟩
    · obtain ⟨a,a1,a2,a3,a4⟩:=turn_point g lo k (by omega) (by omega)
      have:=h3 a a1 a2
      by_cases c3 : -M≤g a
      · exact ⟨a,a1,by omega,c3,by omega⟩
      · exact ⟨a+1,by omega,by omega,by omega,by omega⟩
theorem sumE_snoc {l:List EntryA} {k:Nat} {e:EntryA} (h:l[k]? = some e):sumE (l.take (k+1))=sumE (l.take k)+weightE e:=by
  rw [take_one l k e h,sumE_append];simp [sumE]
theorem sumK_snoc {l:List ByteArray} {k:Nat} {e:ByteArray} (h:l[k]? = some e):sumK (l.take (k+1))=sumK (l.take k)+(5+(e.size:Int)):=by
  rw [take_one l k e h,sumK_append];simp [sumK]
theorem sumE_split (l:List EntryA) (k:Nat):sumE (l.take k)+sumE (l.drop k)=sumE l:=by
  rw [← sumE_append,List.take_append_drop]
theorem sumK_split (l:List ByteArray) (k:Nat):sumK (l.take k)+sumK (l.drop k)=sumK l:=by
  rw [← sumK_append,List.take_append_drop]
theorem sumE_le {M:Int}:∀ (l:List EntryA),(∀ e ∈ l,weightE e≤M)→sumE l≤M * l.length
  | [],_=>by simp [sumE]
  | e :: l,h=>by
    have h1:=h e List.mem_cons_self
    have h2:=sumE_le l (fun x hx=>h x (List.mem_cons_of_mem _ hx))
    rw [sumE,List.length_cons,Int.natCast_add,Int.mul_add]
    simp only [Int.natCast_one,Int.mul_one]
    omega
theorem sumK_le {M:Int}:∀ (l:List ByteArray),(∀ e ∈ l,5+(e.size:Int)≤M)→sumK l≤M * l.length
  | [],_=>by simp [sumK]
  | e :: l,h=>by
    have h1:=h e List.mem_cons_self
    have h2:=sumK_le l (fun x hx=>h x (List.mem_cons_of_mem _ hx))
    rw [sumK,List.length_cons,Int.natCast_add,Int.mul_add]
    simp only [Int.natCast_one,Int.mul_one]
    omega
theorem rightE_wt {e:EntryA} (h:rightE e=true):weightE e≤59:=by
  unfold rightE at h
  simp only [Bool.and_eq_true] at h
  have hk:=(keyB_iff e.key).1 h.1
  have h2:=h.2
  unfold weightE
  by_cases hc:e.chain=0
  · rw [if_pos hc] at h2 ⊢
    simp only [Bool.and_eq_true,decide_eq_true_eq] at h2
    omega
  · rw [if_neg hc]
    omega
theorem rightN_ents {n:NodeA} (h:rightN n=true):∀ e ∈ n.entries,rightE e=true:=by
  unfold rightN at h
  split at h
  · simp only [Bool.and_eq_true,List.all_eq_true] at h
    exact h.1.1.1.1
  · simp only [Bool.and_eq_true,List.isEmpty_iff] at h
    intro e he
    rw [h.1.1.1.1.1.1.1] at he
    simp at he
theorem rightN_keyB {n:NodeA} (h:rightN n=true):∀ s ∈ n.keys,keyB s=true:=by
  unfold rightN at h
  split at h
  · simp only [Bool.and_eq_true,List.isEmpty_iff] at h
    intro e he
    rw [h.1.1.1.2] at he
    simp at he
  · simp only [Bool.and_eq_true,List.all_eq_true] at h
    exact h.1.2
def cutAt (n:NodeA):Option Nat:=if rightN n=true∧0 < cutMany n then some (firstMin (unlikeA n) (cutFrom n) (cutFrom n) (cutMany n)) else none
theorem cutA_at (n:NodeA):cutA n=(cutAt n).map (apartA n):=by
  unfold cutA cutAt
  split <;> rfl
section
variable {n:NodeA} {a:Nat}
theorem apart_wtL (hl:n.leaf=true) (hf:formN n):weightN (apartA n a).1=2+sumE (n.entries.take a)∧weightN (apartA n a).2.2=2+(sumE n.entries - sumE (n.entries.take a))∧weightN n=2+sumE n.entries:=by
  have h:=sumE_split n.entries a
  unfold formN at hf
  rw [if_pos hl] at hf
  rw [apart_leafA hl,apart_leafB hl]
  unfold weightN
  simp only [hl,if_true,sumK,hf.1]
  omega
theorem apart_wtI (hl:n.leaf=false) (hf:formN n):weightN (apartA n a).1=6+sumK (n.keys.take (a - 1))∧weightN (apartA n a).2.2=6+(sumK n.keys - sumK (n.keys.take a))∧weightN n=6+sumK n.keys:=by
  have h:=sumK_split n.keys a
  unfold formN at hf
  rw [if_neg (by rw [hl];simp)] at hf
  rw [apart_innerA hl,apart_innerB hl]
  unfold weightN
  simp only [hl,Bool.false_eq_true,if_false,sumE,hf.1]
  omega
theorem cut_best (hr:rightN n=true) (hf:formN n) {x:Nat} (hx:PlaceN n x) {M:Int} (hM:(unlikeA n x:Int)≤M) :
    ∃ a,PlaceN n a∧cutAt n=some a∧weightN (apartA n a).1 - weightN (apartA n a).2.2≤M∧weightN (apartA n a).2.2 - weightN (apartA n a).1≤M:=by
  have hpos:0 < cutMany n∧cutFrom n≤x∧x < cutFrom n+cutMany n:=by
    unfold cutMany cutFrom
    cases hl:n.leaf with
    | true=>have:=hx.leaf hl;simp only [if_true];omega
    | false=>have:=hx.inner hl;simp only [Bool.false_eq_true,if_false];omega
  obtain ⟨p1,p2⟩:=cut_place n hpos.1
  have hb:=firstMin_le (unlikeA n) (cutMany n) (cutFrom n) (cutFrom n) x (.inr hpos.2)
  generalize hq:firstMin (unlikeA n) (cutFrom n) (cutFrom n) (cutMany n)=q at p1 p2 hb
  have hpl:=place_in p1 p2
  have hu:=unlike_eq hf hpl
  refine ⟨q,hpl,?_,?_⟩
  · unfold cutAt;rw [if_pos ⟨hr,hpos.1⟩,hq]
  · split at hu <;> omega
theorem cut_fit2 (hr:rightN n=true) {W:Int} (hW:232≤W) (h1:W < weightN n) (h2:weightN n+61≤2 * W) :
    ∃ a,PlaceN n a∧cutAt n=some a∧weightN (apartA n a).1≤W∧weightN (apartA n a).2.2≤W:=by
  have hf:=form_right hr
  cases hl:n.leaf with
  | true =>
    have hM:∀ e ∈ n.entries,weightE e≤59:=fun e he=>rightE_wt (rightN_ents hr e he)
    obtain ⟨_,_,hw⟩:=apart_wtL (a:=0) hl hf
    have hs:=sumE_le n.entries hM
    have hlen:4≤n.entries.length:=by omega
    obtain ⟨L,hL⟩:∃ L,n.entries.length=L+2:=⟨n.entries.length - 2,by omega⟩
    have hel:∀ k,k < n.entries.length→∃ e,n.entries[k]? = some e∧weightE e≤59∧0≤weightE e∧sumE (n.entries.take (k+1))=sumE (n.entries.take k)+weightE e:=fun k hk=>by
      refine ⟨n.entries[k],List.getElem?_eq_getElem hk,hM _ (List.getElem_mem hk),?_,sumE_snoc (List.getElem?_eq_getElem hk)⟩
      have:=weightE_nonneg n.entries[k];omega
    have h0:sumE (n.entries.take 0)=0:=by simp [sumE]
    have hall:sumE (n.entries.take n.entries.length)=sumE n.entries:=by rw [List.take_length]
    obtain ⟨a,a1,a2,a3,a4⟩:=near_zero (fun a=>2 * sumE (n.entries.take a) - sumE n.entries) 59 1 L (by
      obtain ⟨e,_,e2,e3,e4⟩:=hel 0 (by omega)
      have:=sumE_take_le n.entries 1
      simp only [Nat.zero_add] at e4
      show 2 * sumE (n.entries.take 1) - sumE n.entries≤59
      omega) (by
      obtain ⟨e,_,e2,e3,e4⟩:=hel (1+L) (by omega)
      rw [show 1+L+1=n.entries.length by omega,hall] at e4
      have:=sumE_nonneg (n.entries.take (1+L))
      show -59≤2 * sumE (n.entries.take (1+L)) - sumE n.entries
      omega) (fun k k1 k2=>by
      obtain ⟨e,_,e2,e3,e4⟩:=hel k (by omega)
      show 2 * sumE (n.entries.take (k+1)) - sumE n.entries - (2 * sumE (n.entries.take k) - sumE n.entries)≤2 * 59
      omega)
    have hp:PlaceN n a:=⟨fun _=>by omega,fun hc=>(by rw [hl] at hc;cases hc)⟩
    have hu:=unlike_eq hf hp
    obtain ⟨w1,w2,_⟩:=apart_wtL (a:=a) hl hf
    obtain ⟨b,b1,b2,b3,b4⟩:=cut_best hr hf hp (M:=59) (by split at hu <;> omega)
    obtain ⟨v1,v2,_⟩:=apart_wtL (a:=b) hl hf
    exact ⟨b,b1,b2,by omega,by omega⟩
  | false =>
    have hM:∀ s ∈ n.keys,5+(s.size:Int)≤37:=fun s hs=>by have:=(keyB_iff s).1 (rightN_keyB hr s hs);omega
    obtain ⟨_,_,hw⟩:=apart_wtI (a:=0) hl hf
    have hs:=sumK_le n.keys hM
    have hlen:4≤n.keys.length:=by omega
    have hkl:n.kids.length=n.keys.length+1:=(rightN_inner hr hl).2.1
    obtain ⟨L,hL⟩:∃ L,n.keys.length=L+3:=⟨n.keys.length - 3,by omega⟩
    have hel:∀ k,k < n.keys.length→∃ e,0≤e∧e≤37∧sumK (n.keys.take (k+1))=sumK (n.keys.take k)+e:=fun k hk=>by
      have:=hM _ (List.getElem_mem hk)
      exact ⟨5+(n.keys[k].size:Int),by omega,this,sumK_snoc (List.getElem?_eq_getElem hk)⟩
    have h0:sumK (n.keys.take 0)=0:=by simp [sumK]
    have hall:sumK (n.keys.take n.keys.length)=sumK n.keys:=by rw [List.take_length]
    obtain ⟨a,a1,a2,a3,a4⟩:=near_zero (fun a=>sumK (n.keys.take (a - 1))+sumK (n.keys.take a) - sumK n.keys) 37 2 L (by
      obtain ⟨e,e2,e3,e4⟩:=hel 0 (by omega)
      obtain ⟨f,f2,f3,f4⟩:=hel 1 (by omega)
      have:=sumK_take_le n.keys 2
      simp only [Nat.zero_add] at e4 f4
      show sumK (n.keys.take 1)+sumK (n.keys.take 2) - sumK n.keys≤37
      omega) (by
      obtain ⟨e,e2,e3,e4⟩:=hel (2+L) (by omega)
      rw [show 2+L+1=n.keys.length by omega,hall] at e4
      have:=sumK_nonneg (n.keys.take (2+L - 1))
      show -37≤sumK (n.keys.take (2+L - 1))+sumK (n.keys.take (2+L)) - sumK n.keys
      omega) (fun k k1 k2=>by
      obtain ⟨e,e2,e3,e4⟩:=hel k (by omega)
      obtain ⟨f,f2,f3,f4⟩:=hel (k - 1) (by omega)
      rw [show k - 1+1=k by omega] at f4
      show sumK (n.keys.take (k+1 - 1))+sumK (n.keys.take (k+1)) - sumK n.keys - (sumK (n.keys.take (k - 1))+sumK (n.keys.take k) - sumK n.keys)≤2 * 37
      rw [Nat.add_sub_cancel]
      omega)
    have hp:PlaceN n a:=⟨fun hc=>(by rw [hl] at hc;cases hc),fun _=>by omega⟩
    have hu:=unlike_eq hf hp
    obtain ⟨w1,w2,_⟩:=apart_wtI (a:=a) hl hf
    obtain ⟨b,b1,b2,b3,b4⟩:=cut_best hr hf hp (M:=37) (by split at hu <;> omega)
    obtain ⟨v1,v2,_⟩:=apart_wtI (a:=b) hl hf
    have h3:=b1.inner hl
    obtain ⟨f,f2,f3,f4⟩:=hel (b - 1) (by omega)
    rw [show b - 1+1=b by omega] at f4
    exact ⟨b,b1,b2,by omega,by omega⟩
theorem cut_fit (hr:rightN n=true) {W:Int} (hW:232≤W) (h1:W < weightN n) (h2:weightN n≤W+77) :
    ∃ a,PlaceN n a∧cutA n=some (apartA n a)∧weightN (apartA n a).1≤W∧weightN (apartA n a).2.2≤W:=by
  obtain ⟨a,a1,a2,a3⟩:=cut_fit2 hr hW h1 (by omega)
  exact ⟨a,a1,by rw [cutA_at,a2];rfl,a3⟩
end
end Go.Proofs.YtphafjmdhmpkbaaGreatDoor
