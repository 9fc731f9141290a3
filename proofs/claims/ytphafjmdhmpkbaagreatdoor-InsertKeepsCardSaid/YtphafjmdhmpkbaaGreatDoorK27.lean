/- lookup.find. | ref07.Bytes. | A node's halves: what they weigh, and that they are right enough to be told as bytes. Plain. | insert.Down: a node is put down. | A step of a pager by which some pages come in the place of others: what it leaves alone. Plain. -/
import Derived.Test.YtphafjmdhmpkbaaGreatDoorK26
import Derived.Test.YtphafjmdhmpkbaaGreatDoorK17
import Derived.Test.YtphafjmdhmpkbaaGreatDoorK22
import Derived.IntWalk
import Derived.Test.YtphafjmdhmpkbaaGreatDoorK08
import Derived.Test.YtphafjmdhmpkbaaGreatDoorK21
import Derived.Test.YtphafjmdhmpkbaaGreatDoorK19
namespace Go.Proofs.YtphafjmdhmpkbaaGreatDoor
open Go.RowKit
attribute [local go_sem ↓] Go.wp_at_zero Go.wp_at_succ
def encSt (x:Int × Nat):List Value:=[.int .i64 x.1,.int .i64 (x.2:Int)]
theorem encSt_ok:EncOk encSt 2:=⟨fun _=>rfl,by intro x u hu;simp [encSt] at hu;rcases hu with rfl | rfl <;> rfl⟩
theorem Tryz.mkSt:(Tryz.prog.info? 237).map (fun i=>(i.zero,i.size,i.bytes))=some (some (.agg #[.int .i64 0,.int .i64 0]),2,16):=by kernel_rfl
theorem Tryz.elSt:ElT Tryz.prog 172 237 (.agg #[.int .i64 0,.int .i64 0]) 2 16:=⟨Tryz.underlying172,Tryz.mkSt,rfl,by decide,by decide⟩
theorem kid_cell {F2:Nat→Prop} {w2 w4:World} {b off:Nat} {l:List Int} (h:l=[]∨∃ b' off',some (⟨b,off,none⟩:Addr)=some ⟨b',off',none⟩∧b' < w2.heap.size∧¬ F2 b'∧∀ i x,l[i]? = some x→∀ j u,(encI x)[j]? = some u→w2.cell? ⟨b',off'+i * 1+j,none⟩=some u) (m:Mods F2 w2 w4) {k:Nat} (hk:k < l.length) {z:Int} (hz:z=l[k]) :
    w4.cell? ⟨b,off+k,none⟩=some (.int .i64 z):=by
  obtain ⟨b',off',hbb,_,_,hc⟩:=Sl.at h m (fun _ _ h=>h) k hk
  injection hbb with hbb
  injection hbb with h1 h2
  subst h1 h2
  have:=hc 0 (.int .i64 l[k]) rfl
  rw [hz]
  simpa using this
def FindRes (F:Nat→Prop) (ad:Nat→Addr) (w':World) (r:(List (Int × Nat) × NodeA) ⊕ Err) (e:Ending):Prop :=
  match r with
  | .inl (st,n)=>∃ sv ve vk vi,e=.returned (.tuple #[sv,.agg #[.bool n.leaf,ve,vk,vi],.nilIface])∧Sl F w' 2 encSt sv st∧Sl F w' 4 encE ve n.entries∧Sl F w' 1 encS vk n.keys∧Sl F w' 1 encI vi n.kids
  | .inr (l,k)=>∃ f,e=.returned (.tuple #[.slice none 0 0,nodeZ,faultV f])∧ErrC F ad w' (faultV f) l k
theorem findN_lt {n:NodeA} (hr:rightN n=true) (hl:n.leaf=false) (key:ByteArray):(findN n key).1 < n.kids.length:=by
  rw [findN_inner hl]
  have:=(rightN_inner hr hl).2.1
  have h2:kidAt key n.keys≤n.keys.length:=List.findIdx_le_length
  simp only
  omega
theorem results_tmp_row_tmp {P:Program} {fn:Func} {p u q:Tmp} {ty:TypeId} (h:fn.results=#[.tmp q,.cell p ty,.tmp u]) (tmps:Array Value) (w:World) (g:Nat) (t:TypeId) (cs:Array Value) (d:TypeDesc)
    (hp:tmps.getD p undef=.pointer (some ⟨g,0,none⟩)) (hg:Blk w g cs t)
    (hu:P.underlying ty=some d) (hd:(match d with | .struct _ | .array _ _=>true | _=>false)=true) (hi:(P.info? ty).map (·.size)=some cs.size) :
    (results fn tmps).run P w=.ok (.tuple #[tmps.getD q undef,.agg cs,tmps.getD u undef]) w:=by
  have hg':w.heap[g]? = some (.cells cs t (0,0)):=hg
  have e:(results fn tmps).run P w=((asAddr (tmps.getD p undef)).run P w).andThen fun a w₁=>((loadVar ty a).run P w₁).andThen fun v w₂=>.ok (.tuple #[tmps.getD q undef,v,tmps.getD u undef]) w₂:=by
    simp only [results,h]
    simp [Sem.run_bind,Result.andThen]
  rw [e,hp]
  simp [asAddr,run_loadVar_row w g t ty cs (0,0) d hg' hu hd hi]
section
variable {P P' P1 P2 F F' F1 F2 Q:Nat→Prop} {ad:Nat→Addr} {w w' wr w2:World} {c s:Nat} {G:GA} {l:List Nat} {v v':Value} {st st':List (Int × Nat)} {gen:Nat}
theorem PgR.anti (h:PgR F w P c s G l) (hQ:∀ k,Q k→F k):PgR Q w P c s G l :=
  h.plus (Q:=fun _=>False) (Mods.refl _ w) (fun _ _ f=>f) (fun _ f=>f.elim) (fun k _ hn hq=>hn (hQ k hq))
theorem Nxt.least (n:Nxt P P' F F' ad w w'):Nxt P P' F (fun k=>F k∨P' k) ad w w' :=
  ⟨n.stp,fun _ h=>.inr h,fun _ h=>.inl h,fun k hk h=>h.elim id (fun h=>n.oldF k hk (n.sub k h)),n.env.anti (fun k h=>h.elim (n.grow k) (n.sub k))⟩
structure FiS (F P:Nat→Prop) (ad:Nat→Addr) (w:World) (c s gen:Nat) (G:GA) (l:List Nat) (F1 P1:Nat→Prop) (wr:World) (v:Value) (st:List (Int × Nat)):Prop where
  pg:PgR F1 wr P1 c s G l
  nx:Nxt P P1 F F1 ad w wr
  row:LocR w F1 P1 wr 237 2 encSt v st
  box:Blk wr w.heap.size #[.pointer (some ⟨c,0,none⟩),.pointer (some ⟨s,0,none⟩),.int .u64 (gen:Int)] 45
  boxP:¬ P1 w.heap.size
  res:Blk wr (w.heap.size+1) #[.bool false,.slice none 0 0,.slice none 0 0,.slice none 0 0] 26
  resP:¬ P1 (w.heap.size+1)
  resF:F1 (w.heap.size+1)
theorem FiS.nxt (h:FiS F P ad w c s gen G l F1 P1 wr v st) (n:Nxt P1 P2 F1 F2 ad wr w2) (g:PgR F2 w2 P2 c s G l):FiS F P ad w c s gen G l F2 P2 w2 v st :=
  ⟨g,h.nx.trans n,h.row.nxt n,n.blk h.box h.boxP,n.not h.box.lt h.boxP,n.blk h.res h.resP,n.not h.res.lt h.resP,n.grow _ h.resF⟩
theorem FiS.ext (h:FiS F P ad w c s gen G l F1 P1 wr v st) (m:Ext wr w2):FiS F P ad w c s gen G l F1 P1 w2 v st :=
  h.nxt (Nxt.ext h.nx.env h.nx.sub m) (h.pg.at m)
theorem FiS.app (h:FiS F P ad w c s gen G l F1 P1 wr v st) (ho:Own (fun _=>False) w2 w.heap.size 237 2 encSt v' st') (m:Mods (fun k=>v.ownBlock=some k) wr w2) (hat:v'.ownBlock=v.ownBlock∨v'.ownBlock=some wr.heap.size) :
    FiS F P ad w c s gen G l (plusV F1 v') P1 w2 v' st':=by
  obtain ⟨n,r⟩:=LocR.app h.nx h.row ho m hat (Nat.le_refl _)
  exact ⟨h.pg.app h.row m hat (Nat.le_refl _),n,r,h.box.mods m (fun e=>Own.notB h.row.1 h.box (by decide) _ e rfl),h.boxP,h.res.mods m (fun e=>Own.notB h.row.1 h.res (by decide) _ e rfl),h.resP,.inl h.resF⟩
end
section
variable {F:Nat→Prop} {w w':World}
end
end Go.Proofs.YtphafjmdhmpkbaaGreatDoor
namespace Go.Proofs.YtphafjmdhmpkbaaGreatDoor
open Go.RowKit
theorem bytesE_wt (e:EntryA):((bytesE e).length:Int)=weightE e:=by
  unfold bytesE weightE
  by_cases h:e.chain=0
  · rw [if_pos h,if_pos h]
    simp only [List.length_append,leB_length,bytesT_len]
    omega
  · rw [if_neg h,if_neg h]
    simp only [List.length_append,leB_length,bytesT_len]
    omega
theorem flatE_len:∀ l:List EntryA,((l.flatMap bytesE).length:Int)=sumE l
  | []=>rfl
  | e :: l=>by
    rw [List.flatMap_cons,List.length_append,sumE,← flatE_len l,← bytesE_wt e];omega
theorem flatK_len:∀ (l:List ByteArray) (k:List Int),l.length≤k.length→(((l.zip k).flatMap bytesK).length:Int)=sumK l
  | [],_,_=>rfl
  | s :: l,[],h=>by simp at h
  | s :: l,c :: k,h=>by
    rw [List.zip_cons_cons,List.flatMap_cons,List.length_append,sumK,← flatK_len l k (by simpa using h)]
    unfold bytesK
    rw [List.length_append,bytesT_len,leB_length]
    simp only
    omega
def formN (n:NodeA):Prop:=if n.leaf=true then n.keys=[]∧n.kids=[] else n.entries=[]∧n.kids.length=n.keys.length+1
theorem weight_len {n:NodeA} (h:formN n):weightN n=((bytesN n).length:Int):=by
  unfold formN at h
  unfold weightN bytesN
  cases hl:n.leaf with
  | true =>
    rw [if_pos hl] at h
    simp only [if_true]
    rw [h.1,List.length_append,leB_length]
    have:=flatE_len n.entries
    simp only [sumK]
    omega
  | false =>
    rw [if_neg (by rw [hl];simp)] at h
    simp only [Bool.false_eq_true,if_false]
    rw [h.1,List.length_append,List.length_append,leB_length,leB_length]
    have:=flatK_len n.keys n.kids.tail (by rw [List.length_tail];omega)
    simp only [sumE]
    omega
theorem form_right {n:NodeA} (h:rightN n=true):formN n:=by
  unfold formN
  unfold rightN at h
  cases hl:n.leaf with
  | true =>
    rw [if_pos hl] at h
    simp only [Bool.and_eq_true,List.isEmpty_iff] at h
    rw [if_pos rfl]
    exact ⟨h.1.1.1.2,h.1.1.2⟩
  | false =>
    rw [if_neg (by rw [hl];simp)] at h
    simp only [Bool.and_eq_true,List.isEmpty_iff,decide_eq_true_eq] at h
    rw [if_neg (by simp)]
    exact ⟨h.1.1.1.1.1.1.1,h.1.1.1.1.1.2⟩
theorem sumE_drop_le (l:List EntryA) (k:Nat):sumE (l.drop k)≤sumE l:=by
  have:=sumE_append (l.take k) (l.drop k);rw [List.take_append_drop] at this
  have:=sumE_nonneg (l.take k);omega
theorem sumK_drop_le (l:List ByteArray) (k:Nat):sumK (l.drop k)≤sumK l:=by
  have:=sumK_append (l.take k) (l.drop k);rw [List.take_append_drop] at this
  have:=sumK_nonneg (l.take k);omega
structure PlaceN (n:NodeA) (a:Nat):Prop where
  leaf:n.leaf=true→1≤a∧a < n.entries.length
  inner:n.leaf=false→2≤a∧a+1 < n.kids.length
theorem place_in {n:NodeA} {a:Nat} (h1:cutFrom n≤a) (h2:a < cutFrom n+cutMany n):PlaceN n a:=by
  unfold cutFrom at h1 h2
  unfold cutMany at h2
  constructor
  · intro hl
    simp only [hl,if_true] at h1 h2
    omega
  · intro hl
    simp only [hl,Bool.false_eq_true,if_false] at h1 h2
    omega
section
variable {n:NodeA} {a:Nat}
theorem apart_leafA (hl:n.leaf=true):(apartA n a).1=⟨true,n.entries.take a,[],[]⟩:=by unfold apartA;rw [if_pos hl]
theorem apart_leafB (hl:n.leaf=true):(apartA n a).2.2=⟨true,n.entries.drop a,[],[]⟩:=by unfold apartA;rw [if_pos hl]
theorem apart_innerA (hl:n.leaf=false):(apartA n a).1=⟨false,[],n.keys.take (a - 1),n.kids.take a⟩:=by unfold apartA;rw [if_neg (by rw [hl];simp)]
theorem apart_innerB (hl:n.leaf=false):(apartA n a).2.2=⟨false,[],n.keys.drop a,n.kids.drop a⟩:=by unfold apartA;rw [if_neg (by rw [hl];simp)]
theorem apart_form (h:formN n) (hp:PlaceN n a):formN (apartA n a).1∧formN (apartA n a).2.2:=by
  unfold formN at h
  cases hl:n.leaf with
  | true =>
    rw [apart_leafA hl,apart_leafB hl]
    exact ⟨⟨rfl,rfl⟩,⟨rfl,rfl⟩⟩
  | false =>
    rw [if_neg (by rw [hl];simp)] at h
    have:=hp.inner hl
    rw [apart_innerA hl,apart_innerB hl]
    unfold formN
    simp only [Bool.false_eq_true,if_false,List.length_take,List.length_drop,true_and]
    omega
theorem apart_weight:weightN (apartA n a).1≤weightN n∧weightN (apartA n a).2.2≤weightN n:=by
  have e1:=sumE_nonneg n.entries
  have e2:=sumE_take_le n.entries a
  have e3:=sumE_drop_le n.entries a
  have e4:=sumK_nonneg n.keys
  have e5:=sumK_take_le n.keys (a - 1)
  have e6:=sumK_drop_le n.keys a
  cases hl:n.leaf with
  | true =>
    rw [apart_leafA hl,apart_leafB hl]
    unfold weightN
    simp only [hl,if_true,sumK]
    omega
  | false =>
    rw [apart_innerA hl,apart_innerB hl]
    unfold weightN
    simp only [hl,Bool.false_eq_true,if_false,sumE]
    omega
theorem weight_pos (n:NodeA):2≤weightN n:=by
  have e1:=sumE_nonneg n.entries
  have e4:=sumK_nonneg n.keys
  unfold weightN
  split <;> omega
theorem apart_A (h:formN n) (hp:PlaceN n a):(weightA (apartA n a).1:Int)=weightN (apartA n a).1:=(weight_len (apart_form h hp).1).symm
theorem apart_B (h:formN n) (hp:PlaceN n a):(weightA (apartA n a).2.2:Int)=weightN (apartA n a).2.2:=(weight_len (apart_form h hp).2).symm
theorem unlike_eq (h:formN n) (hp:PlaceN n a):(unlikeA n a:Int)=if weightN (apartA n a).1 - weightN (apartA n a).2.2 < 0 then -(weightN (apartA n a).1 - weightN (apartA n a).2.2) else weightN (apartA n a).1 - weightN (apartA n a).2.2:=by
  unfold unlikeA
  rw [apart_A h hp,apart_B h hp]
  split <;> omega
end
end Go.Proofs.YtphafjmdhmpkbaaGreatDoor
namespace Go.Proofs.YtphafjmdhmpkbaaGreatDoor
open Go.RowKit
attribute [local go_sem ↓] Go.wp_at_zero Go.wp_at_succ
def kindA (n:NodeA):Int:=if n.leaf=true then 3 else 2
def downOk (n:NodeA) (size:Nat):Prop:=rightN n=true∧weightN n≤(size:Int) - 24
instance (n:NodeA) (size:Nat):Decidable (downOk n size):=by unfold downOk;exact inferInstance
def downI (G:GA) (l:List Nat) (old:Nat) (n:NodeA):Option Nat:=if downOk n G.size then placeI l old else none
def downG (G:GA) (l:List Nat) (gen old:Nat) (n:NodeA):GA:=match downI G l old n with
  | none=>G
  | some i=>(placeG G l old).put ⟨kindA n,(i:Int),gen,bytesN n⟩
def downL (G:GA) (l:List Nat) (old:Nat) (n:NodeA):List Nat:=if downOk n G.size then placeL l old else l
def downK (G:GA) (n:NodeA):Nat:=if downOk n G.size then 3 else 1
def DownP (ad:Nat→Addr) (o:Option Nat) (k:Nat) (F':Nat→Prop) (w':World) (e:Ending):Prop :=
  (∃ i,o=some i∧e=.returned (.tuple #[.int .i64 (i:Int),.nilIface]))∨(o=none∧∃ f el,e=.returned (.tuple #[.int .i64 0,faultV f])∧ErrC F' ad w' (faultV f) el k)
theorem DownP.form {ad:Nat→Addr} {o:Option Nat} {k:Nat} {F':Nat→Prop} {w':World} {e:Ending} (h:DownP ad o k F' w' e):∃ iv ev,e=.returned (.tuple #[iv,ev]):=by
  rcases h with ⟨i,_,h⟩ | ⟨_,f,_,h,_⟩
  · exact ⟨_,_,h⟩
  · exact ⟨_,_,h⟩
theorem placeI_lt {l:List Nat} {old i:Nat} (h:placeI l old=some i):i < l.length:=by
  unfold placeI at h
  split at h
  · rename_i h1
    injection h with h
    subst h
    have:=h1.2
    unfold spFresh at this
    simp only [Bool.and_eq_true,decide_eq_true_eq,Int.toNat_natCast] at this
    exact (List.getElem?_eq_some_iff.1 this.2).1
  · exact (spFree_at h).2
theorem placeG_none {G:GA} {l:List Nat} {old:Nat} (h:placeI l old=none):placeG G l old=G:=by
  unfold placeI at h
  unfold placeG
  split at h
  · cases h
  · rw [if_pos h];split <;> rfl
theorem placeG_lim (G:GA) (l:List Nat) (old:Nat):(placeG G l old).size=G.size∧(placeG G l old).blocks=G.blocks∧(placeG G l old).cost=G.cost:=by
  unfold placeG
  split
  · exact ⟨rfl,rfl,rfl⟩
  · split <;> exact ⟨rfl,rfl,rfl⟩
section
variable {P P' F F':Nat→Prop} {ad:Nat→Addr} {w w':World} {c s:Nat} {G:GA} {l:List Nat}
set_option maxRecDepth 100000 in
set_option maxHeartbeats 1000000 in
theorem down_any (hL:Env F ad w) (hP:∀ k,P k→F k) (h:PgR F w P c s G l) (gen old:Nat) (hgen:gen < 18446744073709551616) (n:NodeA) (ve vk vi:Value) (hve:Sl F w 4 encE ve n.entries) (hvk:Sl F w 1 encS vk n.keys) (hvi:Sl F w 1 encI vi n.kids)
    (hlen:rightN n=true→(bytesN n).length≤100000) (hok:placeOk l old) (ho2:old=0∨2≤old) (hob:old < 256) (hll:l.length≤G.blocks) (hco:G.cost < 1000000) :
    Calls Tryz.prog 81 #[pgV c s gen,.int .i64 (old:Int),.agg #[.bool n.leaf,ve,vk,vi]] w (PgDone F P ad w c s (downG G l gen old n) (downL G l old n) (DownP ad (downI G l old n) (downK G n))):=by
  have m0:Ext w ((w.alloc (.cells #[.pointer (some ⟨c,0,none⟩),.pointer (some ⟨s,0,none⟩),.int .u64 (gen:Int)] 45)).alloc (.cells #[.bool n.leaf,ve,vk,vi] 26)):=((Mods.refl _ w).alloc _).alloc _
  have HB0:=Lib.hid ((Blk.new w #[.pointer (some ⟨c,0,none⟩),.pointer (some ⟨s,0,none⟩),.int .u64 (gen:Int)] 45).alloc (.cells #[.bool n.leaf,ve,vk,vi] 26))
  have HN0:Hid (Blk ((w.alloc (.cells #[.pointer (some ⟨c,0,none⟩),.pointer (some ⟨s,0,none⟩),.int .u64 (gen:Int)] 45)).alloc (.cells #[.bool n.leaf,ve,vk,vi] 26)) (w.heap.size+1) #[.bool n.leaf,ve,vk,vi] 26):=Lib.hid (heap_at (by simp))
  have hx:=hL.mods m0.ext
  have HPUT:=Lib.hid (nodePut_any hx n ve vk vi (hve.ext m0) (hvk.ext m0) (hvi.ext m0) hlen)
  have HM0:=Lib.hid m0
  have HP:=Lib.hid hP
  have HG:=Lib.hid (h.at m0)
  have HL:=Lib.hid hx
  have HLW:=Lib.hid hL
  have HX0:Hid (Nxt P P F F ad w _):=Lib.hid (Nxt.ext hL hP m0)
  have HBP:Hid (¬ P w.heap.size∧¬ P (w.heap.size+1)):=Lib.hid ⟨fun hp=>by have:=h.bd _ hp;omega,fun hp=>by have:=h.bd _ hp;omega⟩
  have HOK:=Lib.hid hok
  have HLIM:=Lib.hid h.lim
  have HLEN:=Lib.hid hlen
  have HFT:Hid (rightN n=true→∀ W,Ext w W → Calls Tryz.prog 16 #[.agg #[.bool n.leaf,ve,vk,vi],.int .i64 (G.size:Int)] W fun e w'=>e=.returned (.bool (decide (weightN n≤(G.size:Int) - 24)))∧Ext W w'):=Lib.hid (fun hr W m=>fits_any n ve vk vi W (hve.ext m) (hvk.ext m) (by
    rw [weight_len (form_right hr)];have:=hlen hr;omega) _ (by omega) (by have:=h.lim;omega))
  have HSZ:=Lib.hid (fun W (m:Ext w W)=>inSize_any (h.at m) gen)
  obtain ⟨ea,ec,rfl,_,_,_,_⟩:=hve
  obtain ⟨ka,kc,rfl,_,_,_,_⟩:=hvk
  obtain ⟨ia,ic,rfl,_,_,_,_⟩:=hvi
  clear hL hP h m0 hok hlen hx
  unfold pgV at HSZ ⊢
  go_enter Tryz.func81, Tryz.ntmps81
  go_wp2_with fail
  refine HPUT.out.mono ?_
  rintro e w1 ⟨hm1,⟨hr,a,cc,rfl,hO⟩ | ⟨hr,f,rfl,hE⟩⟩
  · have HM1:=Lib.hid (HM0.out.trans hm1)
    have HR:=Lib.hid hr
    have HO:=Lib.hid hO
    have HB1:=Lib.hid (HB0.out.ext hm1)
    have HN1:=Lib.hid (HN0.out.ext hm1)
    have HX1:=Lib.hid (HX0.out.trans (Nxt.ext HL.out HP.out hm1))
    have HG1:=Lib.hid (HG.out.at hm1)
    have b0:=HB1.out.cell (o:=0) rfl
    have b1:=HB1.out.cell (o:=1) rfl
    have b2:=HB1.out.cell (o:=2) rfl
    have n0:=HN1.out.cell (o:=0) rfl
    have n1:=HN1.out.cell (o:=1) rfl
    have n2:=HN1.out.cell (o:=2) rfl
    have n3:=HN1.out.cell (o:=3) rfl
    clear hm1 hr hO
    go_wp2_with fail
    go_region_held3 (fun w'=>w'.cell? ⟨w.heap.size+1,0,none⟩=some (.bool n.leaf)∧w'.cell? ⟨w.heap.size+1,1,none⟩=some (.slice ea n.entries.length ec)∧w'.cell? ⟨w.heap.size+1,2,none⟩=some (.slice ka n.keys.length kc)∧w'.cell? ⟨w.heap.size+1,3,none⟩=some (.slice ia n.kids.length ic) ∧
        w'.cell? ⟨w.heap.size,0,none⟩=some (.pointer (some ⟨c,0,none⟩))∧w'.cell? ⟨w.heap.size,1,none⟩=some (.pointer (some ⟨s,0,none⟩))∧w'.cell? ⟨w.heap.size,2,none⟩=some (.int .u64 (gen:Int)))
      (first | (with_reducible exact ⟨n0,n1,n2,n3,b0,b1,b2⟩) | (with_reducible exact ⟨y0,y1,y2,y3,d0,d1,d2⟩) | (with_reducible exact ⟨z0,z1,z2,z3,f0,f1,f2⟩) | go_keep)
      (first
        | (go_at_call 125;(with_reducible refine (HSZ.out _ HM1.out.drew).mono ?_);rintro e w2 ⟨rfl,hm2⟩;have y0:=cellE hm2 n0;have y1:=cellE hm2 n1;have y2:=cellE hm2 n2;have y3:=cellE hm2 n3;have d0:=cellE hm2 b0;have d1:=cellE hm2 b1;have d2:=cellE hm2 b2)
        | (go_at_call 16;refine (HFT.out HR.out _ (HM1.out.drew.trans hm2)).mono ?_;rintro e w3 ⟨rfl,hm3⟩;have z0:=cellE hm3 y0;have z1:=cellE hm3 y1;have z2:=cellE hm3 y2;have z3:=cellE hm3 y3;have f0:=cellE hm3 d0;have f1:=cellE hm3 d1;have f2:=cellE hm3 d2)
        | fail)
    have HM2:Hid (Ext w1 w2):=Lib.hid ((Mods.refl _ w1).drew.trans hm2)
    have HM3:=Lib.hid (HM2.out.trans hm3)
    have HB3:=Lib.hid (HB1.out.ext (HM2.out.trans hm3))
    have HN3:=Lib.hid (HN1.out.ext (HM2.out.trans hm3))
    have HX3:=Lib.hid (HX1.out.trans (Nxt.ext HX1.out.env HX1.out.sub (HM2.out.trans hm3)))
    have HG3:=Lib.hid (HG1.out.at (HM2.out.trans hm3))
    have b0:=HB3.out.cell (o:=0) rfl
    have b1:=HB3.out.cell (o:=1) rfl
    have b2:=HB3.out.cell (o:=2) rfl
    have g1:=HX3.out.env.c1
    clear hm3
    cases hfit:decide (weightN n≤(G.size:Int) - 24) with
    | false =>
      have HD:Hid (¬ downOk n G.size):=Lib.hid (fun hd=>by rw [decide_eq_true hd.2] at hfit;cases hfit)
      clear hfit
      go_wp2_with fail
      refine (at_any HX3.out.env _ (old:Int) _ [] 1 (.sent 1 (by decide) (by decide))).mono ?_
      rintro e w4 ⟨f,rfl,hE,hm4⟩
      have HE:=Lib.hid hE
      have HM4:=Lib.hid hm4
      clear hE hm4
      go_wp2_with fail
      go_ret2
      refine ⟨P,F,?_,HX3.out.trans (Nxt.ext HX3.out.env HX3.out.sub HM4.out),?_⟩
      · have e1:downG G l gen old n=G:=by unfold downG downI;rw [if_neg HD.out]
        have e2:downL G l old n=l:=by unfold downL;rw [if_neg HD.out]
        rw [e1,e2];exact HG3.out.at HM4.out
      · have e1:downI G l old n=none:=by unfold downI;rw [if_neg HD.out]
        have e2:downK G n=1:=by unfold downK;rw [if_neg HD.out]
        rw [e1,e2];exact .inr ⟨rfl,f,_,rfl,HE.out⟩
    | true =>
      have HD:Hid (downOk n G.size):=Lib.hid ⟨HR.out,of_decide_eq_true hfit⟩
      have HPL:=place_any HX3.out.env HX3.out.sub HG3.out gen old HOK.out ho2 hob
      unfold pgV at HPL
      have HPC:=Lib.hid HPL
      clear hfit HPL
      go_wp2_with fail
      refine HPC.out.mono ?_
      rintro e w4 ⟨P4,F4,hG4,hN4,hr4⟩
      have HG4:=Lib.hid hG4
      have HX4:=Lib.hid (HX3.out.trans hN4)
      have hp3:¬ P w.heap.size∧¬ P (w.heap.size+1):=HBP.out
      have HB4:=Lib.hid (hN4.blk HB3.out hp3.1)
      have HN4:=Lib.hid (hN4.blk HN3.out hp3.2)
      have HSB:Hid (Sl F4 w4 1 encB (.slice a (bytesN n).length cc) (bytesN n)):=Lib.hid (hN4.sl HX3.out.sub (((HO.out.blocks (G:=F) (fun g hg=>by
        have:=(HO.out.lt g hg).1
        have hlt:=HLW.out.lt g
        intro hf
        have:=hlt hf
        simp at *
        omega)).sl encB_ok.len (by have:=HLEN.out HR.out;omega)).ext HM3.out))
      clear hG4 hN4 hp3
      rcases hr4 with ⟨i,hi,rfl⟩ | ⟨hi,f,rfl,hE⟩
      · have hil:=placeI_lt hi
        have HI:=Lib.hid hi
        have HIL:Hid (i < G.blocks∧i < 256):=Lib.hid (by have:=HLIM.out;omega)
        have b0:=HB4.out.cell (o:=0) rfl
        have b2:=HB4.out.cell (o:=2) rfl
        have n0:=HN4.out.cell (o:=0) (v:=.bool n.leaf) rfl
        have HDI:Hid (downI G l old n=some i):=Lib.hid (by unfold downI;rw [if_pos HD.out,HI.out])
        have HDG:Hid (downG G l gen old n=(placeG G l old).put ⟨kindA n,(i:Int),gen,bytesN n⟩):=Lib.hid (by unfold downG;rw [HDI.out])
        have HDL:Hid (downL G l old n=placeL l old):=Lib.hid (by unfold downL;rw [if_pos HD.out])
        have hwl:((bytesN n).length:Int)+24≤(G.size:Int):=by
          have:=HD.out.2
          rw [weight_len (form_right HR.out)] at this
          omega
        have HPC:Hid (pgCheck ⟨kindA n,(i:Int),gen,bytesN n⟩ ((placeG G l old).size:Int)=none):=Lib.hid (by
          rw [(placeG_lim G l old).1]
          unfold pgCheck
          have:=HLIM.out
          rw [if_neg (by unfold sizedB;simp;omega),if_neg]
          have hk:kindB (kindA n)=true:=by unfold kindA;split <;> rfl
          have:=HIL.out
          simp only [hk]
          simp
          omega)
        clear hi hil hwl
        cases hlf:n.leaf
        all_goals
          rw [hlf] at n0
          have HK:Hid (kindA n=_):=Lib.hid (by unfold kindA;rw [hlf])
          simp only [Bool.false_eq_true,if_false,if_true] at HK
          have HPT:=Lib.hid (fun W (m:Ext w4 W)=>pgPut (HX4.out.env.mods m.ext) HX4.out.sub (HG4.out.at m) ⟨kindA n,(i:Int),gen,bytesN n⟩ _ (HSB.out.ext m) hgen ⟨by simp,by rw [(placeG_lim G l old).2.1];have:=HIL.out;simp;omega⟩ HPC.out (by rw [(placeG_lim G l old).2.2];exact hco))
          unfold pageV at HPT
          simp only [HK.out] at HPT
          clear hlf
          go_wp2_with fail
          refine (HPT.out _ ?_).mono ?_
          · first | exact Mods.refl _ _ | exact (Mods.refl _ _).alloc _
          rintro e w5 ⟨P5,F5,hG5,hN5,rfl⟩
          have HG5:=Lib.hid hG5
          have HX5:=Lib.hid ((HX4.out.trans (Nxt.ext HX4.out.env HX4.out.sub (by first | exact Mods.refl _ _ | exact (Mods.refl _ _).alloc _))).trans hN5)
          clear hG5 hN5
          go_wp2_with fail
          go_ret2
          refine ⟨P5,F5,?_,HX5.out,?_⟩
          · rw [HDG.out,HDL.out,HK.out];exact HG5.out
          · rw [HDI.out];exact .inl ⟨i,rfl,rfl⟩
      · have HDI:Hid (downI G l old n=none):=Lib.hid (by unfold downI;rw [if_pos HD.out,hi])
        have HDG:Hid (downG G l gen old n=placeG G l old):=Lib.hid (by unfold downG;rw [HDI.out,placeG_none hi])
        have HDL:Hid (downL G l old n=placeL l old):=Lib.hid (by unfold downL;rw [if_pos HD.out])
        have HDK:Hid (downK G n=3):=Lib.hid (by unfold downK;rw [if_pos HD.out])
        have HE:=Lib.hid hE
        clear hi hE
        go_wp2_with fail
        refine (wrap_any HX4.out.env _ _ _ _ HE.out).mono ?_
        rintro e w5 ⟨f5,rfl,hE5,hm5⟩
        have HE5:=Lib.hid hE5
        have HM5:=Lib.hid hm5
        clear hE5 hm5
        go_wp2_with fail
        go_ret2
        refine ⟨P4,F4,?_,HX4.out.trans (Nxt.ext HX4.out.env HX4.out.sub HM5.out),?_⟩
        · rw [HDG.out,HDL.out];exact HG4.out.at HM5.out
        · rw [HDI.out,HDK.out];exact .inr ⟨rfl,f5,_,rfl,HE5.out⟩
  · have HD:Hid (¬ downOk n G.size):=Lib.hid (fun hd=>by rw [hd.1] at hr;cases hr)
    have HE:=Lib.hid hE
    have HX1:=Lib.hid (HX0.out.trans (Nxt.ext HL.out HP.out hm1))
    have HG1:=Lib.hid (HG.out.at hm1)
    clear hE hm1 hr
    go_wp2_with fail
    refine (wrap_any HX1.out.env _ _ _ _ HE.out).mono ?_
    rintro e w5 ⟨f5,rfl,hE5,hm5⟩
    have HE5:=Lib.hid hE5
    have HM5:=Lib.hid hm5
    clear hE5 hm5
    go_wp2_with fail
    go_ret2
    refine ⟨P,F,?_,HX1.out.trans (Nxt.ext HX1.out.env HX1.out.sub HM5.out),?_⟩
    · have e1:downG G l gen old n=G:=by unfold downG downI;rw [if_neg HD.out]
      have e2:downL G l old n=l:=by unfold downL;rw [if_neg HD.out]
      rw [e1,e2];exact HG1.out.at HM5.out
    · have e1:downI G l old n=none:=by unfold downI;rw [if_neg HD.out]
      have e2:downK G n=1:=by unfold downK;rw [if_neg HD.out]
      rw [e1,e2];exact .inr ⟨rfl,f5,_,rfl,HE5.out⟩
end
end Go.Proofs.YtphafjmdhmpkbaaGreatDoor
namespace Go.Proofs.YtphafjmdhmpkbaaGreatDoor
open Go.RowKit
structure Upd (G:GA) (l:List Nat) (A:Nat→Prop) (G':GA) (l':List Nat) (A':Nat→Prop):Prop where
  sz:G'.size=G.size
  bl:G'.blocks=G.blocks
  len:l'.length=l.length
  inn:∀ i,A' i→(A i∧l'[i]? = l[i]?)∨(l[i]? = some 0∧l'[i]? = some 2)
  gone:∀ i,A i→¬ A' i→(l[i]? = some 2∧l'[i]? = some 0)∨(l[i]? = some 1∧l'[i]? = some 3)
  rest:∀ i,¬ A i→¬ A' i→l'[i]? = l[i]? ∧ (l[i]? ≠ some 0→G'.view i=G.view i)
  keep:∀ i,l[i]? = some 1∨l[i]? = some 3→G'.look i=G.look i∧(G'.view i=G.view i∨G'.view i=openO (G.look i) i)
def UseL (l:List Nat) (A:Nat→Prop):Prop:=∀ i,A i→l[i]? = some 1∨l[i]? = some 2
section
variable {G G1 G2:GA} {l l1 l2:List Nat} {A A1 A2 B:Nat→Prop}
theorem Upd.refl (G:GA) (l:List Nat) (A:Nat→Prop):Upd G l A G l A :=
  ⟨rfl,rfl,rfl,fun _ h=>.inl ⟨h,rfl⟩,fun _ h n=>absurd h n,fun _ _ _=>⟨rfl,fun _=>rfl⟩,fun _ _=>⟨rfl,.inl rfl⟩⟩
theorem Upd.iff {A' A1':Nat→Prop} (h:Upd G l A G1 l1 A1) (h1:∀ i,A' i ↔ A i) (h2:∀ i,A1' i ↔ A1 i):Upd G l A' G1 l1 A1' :=
  ⟨h.sz,h.bl,h.len,fun i hi=>(h.inn i ((h2 i).1 hi)).imp (fun x=>⟨(h1 i).2 x.1,x.2⟩) id,fun i hi hn=>h.gone i ((h1 i).1 hi) (fun x=>hn ((h2 i).2 x)),fun i hi hn=>h.rest i (fun x=>hi ((h1 i).2 x)) (fun x=>hn ((h2 i).2 x)),h.keep⟩
theorem Upd.use (h:Upd G l A G1 l1 A1) (hu:UseL l A):UseL l1 A1:=fun i hi=>by
  rcases h.inn i hi with ⟨h1,h2⟩ | ⟨_,h2⟩
  · rw [h2];exact hu i h1
  · exact .inr h2
theorem Upd.trans (h:Upd G l A G1 l1 A1) (k:Upd G1 l1 A1 G2 l2 A2) (hu:UseL l A):Upd G l A G2 l2 A2:=by
  have h10:∀ i,A1 i→l1[i]? ≠ some 0:=fun i hi e=>by
    rcases h.use hu i hi with h1 | h1 <;> rw [e] at h1 <;> simp at h1
  have h00:∀ i,A i→l[i]? ≠ some 0:=fun i hi e=>by
    rcases hu i hi with h1 | h1 <;> rw [e] at h1 <;> simp at h1
  refine ⟨k.sz.trans h.sz,k.bl.trans h.bl,k.len.trans h.len,fun i hi=>?_,fun i hi hn=>?_,fun i hi hn=>?_,fun i hi=>?_⟩
  · rcases k.inn i hi with ⟨k1,k2⟩ | ⟨k1,k2⟩
    · rcases h.inn i k1 with ⟨h1,h2⟩ | ⟨h1,h2⟩
      · exact .inl ⟨h1,k2.trans h2⟩
      · exact .inr ⟨h1,k2.trans h2⟩
    · have hn1:¬ A1 i:=fun x=>h10 i x k1
      by_cases ha:A i
      · rcases h.gone i ha hn1 with ⟨h1,_⟩ | ⟨_,h2⟩
        · exact .inl ⟨ha,by rw [k2,h1]⟩
        · rw [k1] at h2;simp at h2
      · have:=(h.rest i ha hn1).1
        exact .inr ⟨by rw [← this];exact k1,k2⟩
  · by_cases h1:A1 i
    · rcases h.inn i h1 with ⟨_,h2⟩ | ⟨h2,_⟩
      · rw [← h2];exact k.gone i h1 hn
      · exact absurd h2 (h00 i hi)
    · have k1:=(k.rest i h1 hn).1
      rw [k1]
      exact h.gone i hi h1
  · by_cases h1:A1 i
    · rcases h.inn i h1 with ⟨h2,_⟩ | ⟨h2,h3⟩
      · exact absurd h2 hi
      · rcases k.gone i h1 hn with ⟨_,k2⟩ | ⟨k2,_⟩
        · exact ⟨by rw [k2,h2],fun e=>absurd h2 e⟩
        · rw [h3] at k2;simp at k2
    · obtain ⟨k1,k2⟩:=k.rest i h1 hn
      obtain ⟨h2,h3⟩:=h.rest i hi h1
      exact ⟨k1.trans h2,fun e=>(k2 (by rw [h2];exact e)).trans (h3 e)⟩
  · have hl1:l1[i]? = some 1∨l1[i]? = some 3:=by
      by_cases h1:A1 i
      · rcases h.inn i h1 with ⟨_,h2⟩ | ⟨h2,_⟩
        · rw [h2];exact hi
        · rcases hi with e | e <;> rw [h2] at e <;> simp at e
      · by_cases ha:A i
        · rcases h.gone i ha h1 with ⟨h2,_⟩ | ⟨_,h2⟩
          · rcases hi with e | e <;> rw [h2] at e <;> simp at e
          · exact .inr h2
        · rw [(h.rest i ha h1).1];exact hi
    obtain ⟨h1,h2⟩:=h.keep i hi
    obtain ⟨k1,k2⟩:=k.keep i hl1
    refine ⟨k1.trans h1,?_⟩
    rcases k2 with k2 | k2
    · rw [k2];exact h2
    · rw [k2,h1];exact .inr rfl
theorem Upd.frame (h:Upd G l A G1 l1 A1) (hB:∀ i,B i→¬ A i∧l[i]? ≠ some 0):Upd G l (fun i=>A i∨B i) G1 l1 (fun i=>A1 i∨B i):=by
  have hB1:∀ i,B i→¬ A1 i:=fun i hi h1=>by
    rcases h.inn i h1 with ⟨h2,_⟩ | ⟨h2,_⟩
    · exact (hB i hi).1 h2
    · exact (hB i hi).2 h2
  refine ⟨h.sz,h.bl,h.len,fun i hi=>?_,fun i hi hn=>?_,fun i hi hn=>?_,h.keep⟩
  · rcases hi with hi | hi
    · exact (h.inn i hi).imp (fun x=>⟨.inl x.1,x.2⟩) id
    · exact .inl ⟨.inr hi,(h.rest i (hB i hi).1 (hB1 i hi)).1⟩
  · rcases hi with hi | hi
    · exact h.gone i hi (fun x=>hn (.inl x))
    · exact absurd (.inr hi) hn
  · exact h.rest i (fun x=>hi (.inl x)) (fun x=>hn (.inl x))
theorem Upd.view (h:Upd G l A G1 l1 A1) {i:Nat} (h1:¬ A i) (h2:l[i]? ≠ some 0):G1.view i=G.view i∧l1[i]? = l[i]? ∧ ¬ A1 i:=by
  have h3:¬ A1 i:=fun h3=>by
    rcases h.inn i h3 with ⟨h4,_⟩ | ⟨h4,_⟩
    · exact h1 h4
    · exact h2 h4
  obtain ⟨h4,h5⟩:=h.rest i h1 h3
  exact ⟨h5 h2,h4,h3⟩
end
def phiL (l:List Nat):Int:=(l.countP (· == 0):Int) - (l.countP (· == 1):Int)
theorem phi_set {l:List Nat} {i x y:Nat} (h:l[i]? = some x):phiL (l.set i y)=phiL l+((if y=0 then 1 else 0) - (if y=1 then 1 else 0)) - ((if x=0 then 1 else 0) - (if x=1 then 1 else 0)):=by
  unfold phiL
  have h0:=countP_set (· == 0) l i y x h
  have h1:=countP_set (· == 1) l i y x h
  simp only [beq_iff_eq] at h0 h1
  have e:∀ (p:Prop) [Decidable p],(if p then (1:Int) else 0)=((if p then (1:Nat) else 0:Nat):Int):=fun p _=>by split <;> rfl
  simp only [e]
  omega
theorem free_some {l:List Nat} (h:0 < spCount l):∃ i,spFree l=some i:=by
  unfold spFree
  cases hf:l.findIdx? (· == 0) with
  | some i=>exact ⟨i,rfl⟩
  | none =>
    rw [List.findIdx?_eq_none_iff] at hf
    unfold spCount at h
    rw [List.countP_pos_iff] at h
    obtain ⟨x,hx,hx0⟩:=h
    rw [hf x hx] at hx0;cases hx0
theorem phi_free {l:List Nat} (h:1≤phiL l):∃ i,spFree l=some i:=free_some (by unfold phiL spCount at *;omega)
theorem phi_last {l:List Nat} {i:Nat} (h:0≤phiL l) (hi:l[i]? = some 1):∃ i,spFree l=some i:=by
  have:0 < l.countP (· == 1):=List.countP_pos_iff.2 ⟨1,List.mem_of_getElem? hi,rfl⟩
  exact free_some (by unfold phiL spCount at *;omega)
/-! ### the steps -/
section
variable {G:GA} {l:List Nat}
theorem put_view (G:GA) (p:PageA) (i:Nat):(G.put p).view i=if i=p.id.toNat then some (.inl p) else G.view i:=by
  show upd G.view p.id.toNat (some (.inl p)) i=_
  unfold upd;rfl
theorem put_look (G:GA) (p:PageA) {i:Nat} (h:i ≠ p.id.toNat):(G.put p).look i=G.look i:=upd_ne _ _ h
theorem drop_view (G:GA) (k i:Nat):(G.drop k).view i=if i=k then openO (G.look k) k else G.view i:=by
  show upd G.view k (openO (G.look k) k) i=_
  unfold upd;rfl
theorem upd_take {i:Nat} (hi:spFree l=some i) (p:PageA) (hp:p.id=(i:Int)):Upd G l (fun _=>False) (G.put p) (l.set i 2) (fun k=>k=i):=by
  have h0:=spFree_at hi
  have hpi:p.id.toNat=i:=by omega
  refine ⟨rfl,rfl,by simp,fun k hk=>?_,fun _ f=>f.elim,fun k _ hk=>?_,fun k hk=>?_⟩
  · subst hk;exact .inr ⟨h0.1,List.getElem?_set_self h0.2⟩
  · exact ⟨List.getElem?_set_ne (fun e=>hk e.symm),fun _=>by rw [put_view,hpi,if_neg hk]⟩
  · have hne:k ≠ i:=fun e=>by rw [e,h0.1] at hk;simp at hk
    exact ⟨put_look G p (by rw [hpi];exact hne),.inl (by rw [put_view,hpi,if_neg hne])⟩
theorem upd_again {i:Nat} (hi:l[i]? = some 2) (p:PageA) (hp:p.id=(i:Int)):Upd G l (fun k=>k=i) (G.put p) l (fun k=>k=i):=by
  have hpi:p.id.toNat=i:=by omega
  refine ⟨rfl,rfl,rfl,fun k hk=>.inl ⟨hk,rfl⟩,fun k hk hn=>absurd hk hn,fun k hk _=>⟨rfl,fun _=>by rw [put_view,hpi,if_neg hk]⟩,fun k hk=>?_⟩
  have hne:k ≠ i:=fun e=>by rw [e,hi] at hk;simp at hk
  exact ⟨put_look G p (by rw [hpi];exact hne),.inl (by rw [put_view,hpi,if_neg hne])⟩
theorem give_last {l:List Nat} {i:Nat} (h2:2≤i) (hi:l[i]? = some 1):spGive l (i:Int)=(l.set i 3,none):=by
  have hlt:=(List.getElem?_eq_some_iff.1 hi).1
  unfold spGive spCheck
  rw [if_neg (by omega)]
  simp only [Int.toNat_natCast,hi]
  simp
theorem give_fresh {l:List Nat} {i:Nat} (h2:2≤i) (hi:l[i]? = some 2):spGive l (i:Int)=(l.set i 0,none):=by
  have hlt:=(List.getElem?_eq_some_iff.1 hi).1
  unfold spGive spCheck
  rw [if_neg (by omega)]
  simp only [Int.toNat_natCast,hi]
  simp
theorem upd_give {i:Nat} (h2:2≤i) (hi:l[i]? = some 1∨l[i]? = some 2):Upd G l (fun k=>k=i) (G.drop i) (spGive l (i:Int)).1 (fun _=>False)∧(spGive l (i:Int)).2=none∧phiL l+1≤phiL (spGive l (i:Int)).1:=by
  have hv:∀ k,k ≠ i→(G.drop i).view k=G.view k:=fun k hk=>by rw [drop_view,if_neg hk]
  rcases hi with hi | hi
  · have hlt:=(List.getElem?_eq_some_iff.1 hi).1
    rw [give_last h2 hi]
    refine ⟨⟨rfl,rfl,by simp,fun _ f=>f.elim,fun k hk _=>?_,fun k hk _=>⟨List.getElem?_set_ne (fun e=>hk e.symm),fun _=>hv k hk⟩,fun k _=>⟨rfl,?_⟩⟩,rfl,?_⟩
    · subst hk;exact .inr ⟨hi,List.getElem?_set_self hlt⟩
    · by_cases e:k=i
      · subst e;exact .inr (by rw [drop_view,if_pos rfl])
      · exact .inl (hv k e)
    · rw [phi_set hi];simp
  · have hlt:=(List.getElem?_eq_some_iff.1 hi).1
    rw [give_fresh h2 hi]
    refine ⟨⟨rfl,rfl,by simp,fun _ f=>f.elim,fun k hk _=>?_,fun k hk _=>⟨List.getElem?_set_ne (fun e=>hk e.symm),fun _=>hv k hk⟩,fun k hk=>⟨rfl,?_⟩⟩,rfl,?_⟩
    · subst hk;exact .inl ⟨hi,List.getElem?_set_self hlt⟩
    · by_cases e:k=i
      · subst e;rw [hi] at hk;simp at hk
      · exact .inl (hv k e)
    · rw [phi_set hi];simp
theorem upd_place {old i:Nat} (ho:old=0∨(2≤old∧(l[old]? = some 1∨l[old]? = some 2))) (hi:placeI l old=some i) (p:PageA) (hp:p.id=(i:Int)) (h0:l[0]? ≠ some 0) :
    Upd G l (fun k=>k=old∧old ≠ 0) ((placeG G l old).put p) (placeL l old) (fun k=>k=i)∧phiL l - (if old=0 then 1 else 0)≤phiL (placeL l old)∧1≤i:=by
  rcases ho with rfl | ⟨h2,ho⟩
  · have e1:placeG G l 0=G:=by unfold placeG;rw [if_pos (.inl rfl)]
    have hf:spFree l=some i:=by unfold placeI at hi;rw [if_neg (by simp)] at hi;exact hi
    have e2:placeL l 0=l.set i 2:=by unfold placeL spTake;rw [if_pos rfl,hf]
    rw [e1,e2]
    refine ⟨(upd_take hf p hp).iff (fun k=>by simp) (fun k=>Iff.rfl),?_,?_⟩
    · rw [phi_set (spFree_at hf).1];simp
    · rcases Nat.eq_zero_or_pos i with e | e
      · rw [e] at hf;exact absurd (spFree_at hf).1 h0
      · exact e
  · have hz:old ≠ 0:=by omega
    rcases ho with ho | ho
    · have hfr:spFresh l (old:Int)=false:=by unfold spFresh;rw [Int.toNat_natCast,ho];simp
      have hf:spFree l=some i:=by unfold placeI at hi;rw [if_neg (by rw [hfr];simp)] at hi;exact hi
      have hne:i ≠ old:=fun e=>by have:=(spFree_at hf).1;rw [e,ho] at this;simp at this
      have e1:placeG G l old=G.drop old:=by unfold placeG;rw [if_neg (by rw [hfr];simp [hz]),if_neg (by rw [hf];simp)]
      have ho2:(l.set i 2)[old]? = some 1:=by rw [List.getElem?_set_ne hne];exact ho
      have e2:placeL l old=(l.set i 2).set old 3:=by
        unfold placeL
        rw [if_neg hz,if_neg (by rw [hfr];simp),hf]
        simp only
        rw [give_last h2 ho2]
      have h0f:=spFree_at hf
      have hol:=(List.getElem?_eq_some_iff.1 ho).1
      have hpi:p.id.toNat=i:=by omega
      rw [e1,e2]
      refine ⟨⟨rfl,rfl,by simp,fun k hk=>?_,fun k hk _=>?_,fun k hk hn=>?_,fun k hk=>?_⟩,?_,?_⟩
      · subst hk
        exact .inr ⟨h0f.1,by rw [List.getElem?_set_ne hne.symm];exact List.getElem?_set_self h0f.2⟩
      · obtain ⟨rfl,_⟩:=hk
        exact .inr ⟨ho,List.getElem?_set_self (by simpa using hol)⟩
      · have hk2:k ≠ old:=fun e=>hk ⟨e,hz⟩
        refine ⟨by rw [List.getElem?_set_ne hk2.symm,List.getElem?_set_ne (fun e=>hn e.symm)],fun _=>?_⟩
        rw [put_view,hpi,if_neg hn,drop_view,if_neg hk2]
      · have hki:k ≠ i:=fun e=>by rw [e,h0f.1] at hk;simp at hk
        refine ⟨put_look (G.drop old) p (by rw [hpi];exact hki),?_⟩
        rw [put_view,hpi,if_neg hki,drop_view]
        by_cases e:k=old
        · subst e;rw [if_pos rfl];exact .inr rfl
        · rw [if_neg e];exact .inl rfl
      · rw [phi_set ho2,phi_set h0f.1];simp [hz]
      · rcases Nat.eq_zero_or_pos i with e | e
        · rw [e] at hf;exact absurd (spFree_at hf).1 h0
        · exact e
    · have hfr:spFresh l (old:Int)=true:=by unfold spFresh;rw [Int.toNat_natCast,ho];simp
      have hio:old=i:=by unfold placeI at hi;rw [if_pos ⟨hz,hfr⟩] at hi;exact Option.some.inj hi
      subst hio
      have e1:placeG G l old=G:=by unfold placeG;rw [if_pos (.inr hfr)]
      have e2:placeL l old=l:=by unfold placeL;rw [if_neg hz,if_pos hfr]
      rw [e1,e2]
      exact ⟨(upd_again ho p hp).iff (fun k=>by simp [hz]) (fun k=>Iff.rfl),by simp [hz],by omega⟩
end
end Go.Proofs.YtphafjmdhmpkbaaGreatDoor
