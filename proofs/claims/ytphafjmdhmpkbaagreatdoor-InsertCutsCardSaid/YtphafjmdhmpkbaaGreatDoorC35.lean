/- Nodes and pairs as they are read. -/
import Derived.Test.YtphafjmdhmpkbaaGreatDoorC34
import Derived.Test.YtphafjmdhmpkbaaGreatDoorC01
import Derived.ChangeSlices
import Derived.Deep.Slices
import Derived.Lib.SmallJoins
namespace Go.Proofs.YtphafjmdhmpkbaaGreatDoor
open Go.ChangeShapes Go.WideShapes Go.ChangeAt Go.RowKit
theorem plain_of_cell' {W:World} {a:Addr} {v:Value} (hc0:W.cell? a=some v):∃ b off,a=⟨b,off,none⟩:=by
  have hspot:a.spot=none:=by
    unfold World.cell? at hc0
    split at hc0
    · split at hc0
      · simp at hc0
      · rename_i hs;simpa using hs
    · simp at hc0
  obtain ⟨b,off,spot⟩:=a
  simp only at hspot
  subst hspot
  exact ⟨b,off,rfl⟩
theorem plain_add' (b off i:Nat):(⟨b,off,none⟩:Addr).add i=⟨b,off+i,none⟩:=by unfold Addr.add;split <;> simp_all
set_option maxRecDepth 100000 in
theorem read_slG {H:Type} {enc:TypeId × Value→H} {W:World} {α:Type} [Inhabited α] {sz:Nat} {encA:α→List Value} {t e:TypeId} (ht:Tryz.prog.underlying t=some (.slice e)) (ce:Tryz.prog.cellsOf e=sz) (hsz0:0 < sz) (hlenA:∀ x,(encA x).length=sz)
    (helem:∀ (cs:List Value) (n:Nat) (y:DataW H × List MemPlace),DataW.trod enc Tryz.prog W 0 (fun _=>true) true n e cs=some y→cs.length=sz→∃ x:α,cs=encA x)
    {v:Value} {fuel:Nat} {x:DataW H × List MemPlace} (h:DataW.trod enc Tryz.prog W 0 (fun _=>true) true fuel t [v]=some x)
    (hsz:∀ (elems spare:List (DataW H)),x.1=.slice elems spare→elems.length≤140737488355328):∃ l:List α,Sl NoB W sz encA v l:=by
  rcases Go.Deep.open_slice ht h with ⟨hcs,_⟩ | ⟨a,len,cap,m,n,D,Pl,hcs,_,hl,hm,hmm,hx,hc⟩
  · have:v=.slice none 0 0:=by simpa using hcs
    rw [this]
    exact ⟨[],Sl.nil _ _ _ _⟩
  · have hv:v=.slice (some a) len cap:=by simpa using hcs
    rw [hv]
    have hlm:len≤m:=by rw [hmm];split <;> omega
    have hlen:len≤140737488355328:=by
      have:=hsz _ _ (congrArg Prod.fst hx)
      simpa using this
    have each:∀ i,∃ p:α,i < len→∀ j,j < sz→W.cell? (a.add (i * sz+j))=(encA p)[j]?:=by
      intro i
      by_cases hi:i < len
      · obtain ⟨cs',h1,h2⟩:=hc i (by omega)
        rw [ce] at h1
        obtain ⟨_,hl2,hcell⟩:=World.cells?_some h1
        obtain ⟨p,rfl⟩:=helem cs' n _ h2 hl2
        refine ⟨p,fun _ j hj=>?_⟩
        have:=hcell j hj
        rw [Go.Deep.add_add] at this
        exact this
      · exact ⟨default,fun h=>absurd h hi⟩
    obtain ⟨q,hq⟩:=Classical.axiomOfChoice each
    have hll:((List.range len).map q).length=len:=by simp
    refine ⟨(List.range len).map q,some a,cap,by rw [hll],by rw [hll];exact hl,hm,by rw [hll];exact hlen,?_⟩
    by_cases h0:len=0
    · left;rw [h0];rfl
    · right
      have hc0:=hq 0 (by omega) 0 hsz0
      have hadd:a.add (0 * sz+0)=a:=by simp [Addr.add]
      rw [hadd] at hc0
      have hpos:0 < (encA (q 0)).length:=by rw [hlenA];exact hsz0
      rw [List.getElem?_eq_getElem hpos] at hc0
      obtain ⟨b,off,rfl⟩:=plain_of_cell' hc0
      refine ⟨b,off,rfl,cell_lt hc0,fun f=>f,fun i x hi j u hu=>?_⟩
      have hil:i < len:=by have:=(List.getElem?_eq_some_iff.1 hi).1;simpa using this
      rw [List.getElem?_map,List.getElem?_range hil,Option.map_some] at hi
      injection hi with hi
      subst hi
      have hj:j < sz:=by have:=(List.getElem?_eq_some_iff.1 hu).1;rw [hlenA] at this;exact this
      have:=hq i hil j hj
      rw [plain_add',hu] at this
      rw [← this,Nat.add_assoc]
theorem Tryz.entCellsN:Tryz.prog.cellsOf 107 = 4:=by kernel_rfl
theorem Tryz.nodeCellsN:Tryz.prog.cellsOf 26 = 4:=by kernel_rfl
theorem Tryz.intCellsN:Tryz.prog.cellsOf 3 = 1:=by kernel_rfl
theorem Tryz.entBytesN:Tryz.prog.bytesOf 107 = 48:=by kernel_rfl
theorem Tryz.strBytesN:Tryz.prog.bytesOf 9 = 16:=by kernel_rfl
theorem Tryz.intBytesN:Tryz.prog.bytesOf 3 = 8:=by kernel_rfl
instance:Inhabited EntryA:=⟨⟨⟨#[]⟩,⟨#[]⟩,0,0⟩⟩
section
variable {H:Type} {enc:TypeId × Value→H} {W:World}
theorem elem_str (cs:List Value) (n:Nat) (y:DataW H × List MemPlace) (h:DataW.trod enc Tryz.prog W 0 (fun _=>true) true n 9 cs=some y) (_hl:cs.length=1):∃ x:ByteArray,cs=encS x:=by
  obtain ⟨z,e,_⟩:=DataW.trod_string Tryz.underlying9 h
  exact ⟨z,e⟩
theorem elem_int (cs:List Value) (n:Nat) (y:DataW H × List MemPlace) (h:DataW.trod enc Tryz.prog W 0 (fun _=>true) true n 3 cs=some y) (_hl:cs.length=1):∃ x:Int,cs=encI x:=by
  obtain ⟨z,e,_⟩:=DataW.trod_int Tryz.underlying3 h
  exact ⟨z,e⟩
set_option maxRecDepth 100000 in
theorem elem_ent (cs:List Value) (n:Nat) (y:DataW H × List MemPlace) (h:DataW.trod enc Tryz.prog W 0 (fun _=>true) true n 107 cs=some y) (hl:cs.length=4):∃ x:EntryA,cs=encE x:=by
  obtain ⟨xs,k,_,_,_,hxl,hf⟩:=DataW.trod_struct Tryz.underlying107 h
  match xs,hxl,cs,hl with
  | [y0,y1,y2,y3],_,[v0,v1,v2,v3],_ =>
    have g0:=hf 0 _ rfl
    have g1:=hf 1 _ rfl
    have g2:=hf 2 _ rfl
    have g3:=hf 3 _ rfl
    simp [strCells,Tryz.intCellsN] at g0 g1 g2 g3
    obtain ⟨z0,e0,_⟩:=DataW.trod_string Tryz.underlying9 g0
    obtain ⟨z1,e1,_⟩:=DataW.trod_string Tryz.underlying9 g1
    obtain ⟨z2,e2,_⟩:=DataW.trod_int Tryz.underlying3 g2
    obtain ⟨z3,e3,_⟩:=DataW.trod_int Tryz.underlying3 g3
    simp only [List.cons.injEq,and_true] at e0 e1 e2 e3
    subst e0 e1 e2 e3
    exact ⟨⟨z0,z1,z2,z3⟩,rfl⟩
set_option maxRecDepth 100000 in
theorem read_node {v:Value} {d:DataW H} {p:List MemPlace} {base:Nat} {ts:List TypeId} {ds:List (DataW H)} {j:Nat} (hok:Value.okWide Tryz.prog W .any base 26 v) (h:DataW.Trod enc Tryz.prog W 0 (fun _=>true) true 26 v d p)
    (hsz:(DataW.weightsEach Tryz.prog ts ds).all (· ≤ reachBytes)=true) (ht:ts[j]? = some 26) (hd:ds[j]? = some d) :
    ∃ (n:NodeA) (ve vk vi:Value),v=.agg #[.bool n.leaf,ve,vk,vi]∧Sl NoB W 4 encE ve n.entries∧Sl NoB W 1 encS vk n.keys∧Sl NoB W 1 encI vi n.kids:=by
  obtain ⟨c0,c1,c2,c3,y0,y1,y2,y3,k,rfl,rfl,rfl,hy0,hy1,hy2,hy3⟩:=Go.Joins.open_agg4 Tryz.underlying26 (by kernel_rfl) Tryz.nodeCellsN hok h
  obtain ⟨b0,e0,_⟩:=DataW.trod_bool Tryz.underlying4 hy0
  simp only [List.cons.injEq,and_true] at e0
  subst e0
  have h3:=reachBytes_lt
  obtain ⟨es,hes⟩:=read_slG Tryz.underlying22 Tryz.entCellsN (by omega) (fun _=>rfl) elem_ent hy1 (fun elems spare he=>by
    have hw:(elems.length+spare.length) * Tryz.prog.bytesOf 107 ∈ DataW.weightsEach Tryz.prog ts ds:=DataW.weights_mem_each ht hd _ (by
      rw [he]
      simp only [DataW.weights,Tryz.underlying26,DataW.weightsEach,List.map_cons,List.map_nil,Tryz.underlying22]
      simp)
    have h2:=List.all_eq_true.1 hsz _ hw
    rw [Tryz.entBytesN] at h2
    simp only [decide_eq_true_eq] at h2
    omega)
  obtain ⟨ks,hks⟩:=read_slG Tryz.underlying23 strCells (by omega) (fun _=>rfl) elem_str hy2 (fun elems spare he=>by
    have hw:(elems.length+spare.length) * Tryz.prog.bytesOf 9 ∈ DataW.weightsEach Tryz.prog ts ds:=DataW.weights_mem_each ht hd _ (by
      rw [he]
      simp only [DataW.weights,Tryz.underlying26,DataW.weightsEach,List.map_cons,List.map_nil,Tryz.underlying23]
      simp)
    have h2:=List.all_eq_true.1 hsz _ hw
    rw [Tryz.strBytesN] at h2
    simp only [decide_eq_true_eq] at h2
    omega)
  obtain ⟨is,his⟩:=read_slG Tryz.underlying24 Tryz.intCellsN (by omega) (fun _=>rfl) elem_int hy3 (fun elems spare he=>by
    have hw:(elems.length+spare.length) * Tryz.prog.bytesOf 3 ∈ DataW.weightsEach Tryz.prog ts ds:=DataW.weights_mem_each ht hd _ (by
      rw [he]
      simp only [DataW.weights,Tryz.underlying26,DataW.weightsEach,List.map_cons,List.map_nil,Tryz.underlying24]
      simp)
    have h2:=List.all_eq_true.1 hsz _ hw
    rw [Tryz.intBytesN] at h2
    simp only [decide_eq_true_eq] at h2
    omega)
  exact ⟨⟨b0,es,ks,is⟩,c1,c2,c3,rfl,hes,hks,his⟩
end
end Go.Proofs.YtphafjmdhmpkbaaGreatDoor
