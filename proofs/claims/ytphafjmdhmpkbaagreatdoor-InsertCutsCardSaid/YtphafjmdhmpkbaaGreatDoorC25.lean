/- lookup.find. | ref07.Bytes. | A node's halves: what they weigh, and that they are right enough to be told as bytes. Plain. | ref13.Weight. | insert.apart: a node, cut ahead of a place. -/
import Derived.Test.YtphafjmdhmpkbaaGreatDoorC24
import Derived.Test.YtphafjmdhmpkbaaGreatDoorC15
import Derived.Test.YtphafjmdhmpkbaaGreatDoorC19
import Derived.IntWalk
import Derived.Test.YtphafjmdhmpkbaaGreatDoorC07
import Derived.Test.YtphafjmdhmpkbaaGreatDoorC18
import Derived.Test.YtphafjmdhmpkbaaGreatDoorC21
import Derived.Deep.RegionHeld3
namespace Go.Proofs.YtphafjmdhmpkbaaGreatDoor
open Go.RowKit
attribute [local go_sem ↓] Go.wp_at_zero Go.wp_at_succ
def encSt (x:Int × Nat):List Value:=[.int .i64 x.1,.int .i64 (x.2:Int)]
theorem encSt_ok:EncOk encSt 2:=⟨fun _=>rfl,by intro x u hu;simp [encSt] at hu;rcases hu with rfl | rfl <;> rfl⟩
theorem Tryz.mkSt:(Tryz.prog.info? 237).map (fun i=>(i.zero,i.size,i.bytes))=some (some (.agg #[.int .i64 0,.int .i64 0]),2,16):=by kernel_rfl
theorem Tryz.elSt:ElT Tryz.prog 172 237 (.agg #[.int .i64 0,.int .i64 0]) 2 16:=⟨Tryz.underlying172,Tryz.mkSt,rfl,by decide,by decide⟩
theorem kid_cell {F2:Nat→Prop} {w2 w4:World} {b off:Nat} {l:List Int} (h:l=[]∨∃ b' off',some (⟨b,off,none⟩:Addr)=some ⟨b',off',none⟩∧b' < w2.heap.size∧¬ F2 b'∧∀ i x,l[i]? = some x→∀ j u,(encI x)[j]? = some u→w2.cell? ⟨b',off'+i * 1+j,none⟩=some u) (m:Mods F2 w2 w4) {k:Nat} (hk:k < l.length) {z:Int} (hz:z=l[k]) :
    w4.cell? ⟨b,off+k,none⟩=some (.int .i64 z):=by
  obtain ⟨b',off',hbb,_,_,hc⟩:=Sl.at h m (fun _ _ h=>h) k hk
  injection hbb with hbb
  injection hbb with h1 h2
  subst h1 h2
  have:=hc 0 (.int .i64 l[k]) rfl
  rw [hz]
  simpa using this
def FindRes (F:Nat→Prop) (ad:Nat→Addr) (w':World) (r:(List (Int × Nat) × NodeA) ⊕ Err) (e:Ending):Prop :=
  match r with
  | .inl (st,n)=>∃ sv ve vk vi,e=.returned (.tuple #[sv,.agg #[.bool n.leaf,ve,vk,vi],.nilIface])∧Sl F w' 2 encSt sv st∧Sl F w' 4 encE ve n.entries∧Sl F w' 1 encS vk n.keys∧Sl F w' 1 encI vi n.kids
  | .inr (l,k)=>∃ f,e=.returned (.tuple #[.slice none 0 0,nodeZ,faultV f])∧ErrC F ad w' (faultV f) l k
theorem findN_lt {n:NodeA} (hr:rightN n=true) (hl:n.leaf=false) (key:ByteArray):(findN n key).1 < n.kids.length:=by
  rw [findN_inner hl]
  have:=(rightN_inner hr hl).2.1
  have h2:kidAt key n.keys≤n.keys.length:=List.findIdx_le_length
  simp only
  omega
theorem results_tmp_row_tmp {P:Program} {fn:Func} {p u q:Tmp} {ty:TypeId} (h:fn.results=#[.tmp q,.cell p ty,.tmp u]) (tmps:Array Value) (w:World) (g:Nat) (t:TypeId) (cs:Array Value) (d:TypeDesc)
    (hp:tmps.getD p undef=.pointer (some ⟨g,0,none⟩)) (hg:Blk w g cs t)
    (hu:P.underlying ty=some d) (hd:(match d with | .struct _ | .array _ _=>true | _=>false)=true) (hi:(P.info? ty).map (·.size)=some cs.size) :
    (results fn tmps).run P w=.ok (.tuple #[tmps.getD q undef,.agg cs,tmps.getD u undef]) w:=by
  have hg':w.heap[g]? = some (.cells cs t (0,0)):=hg
  have e:(results fn tmps).run P w=((asAddr (tmps.getD p undef)).run P w).andThen fun a w₁=>((loadVar ty a).run P w₁).andThen fun v w₂=>.ok (.tuple #[tmps.getD q undef,v,tmps.getD u undef]) w₂:=by
    simp only [results,h]
    simp [Sem.run_bind,Result.andThen]
  rw [e,hp]
  simp [asAddr,run_loadVar_row w g t ty cs (0,0) d hg' hu hd hi]
section
variable {P P' P1 P2 F F' F1 F2 Q:Nat→Prop} {ad:Nat→Addr} {w w' wr w2:World} {c s:Nat} {G:GA} {l:List Nat} {v v':Value} {st st':List (Int × Nat)} {gen:Nat}
theorem PgR.anti (h:PgR F w P c s G l) (hQ:∀ k,Q k→F k):PgR Q w P c s G l :=
  h.plus (Q:=fun _=>False) (Mods.refl _ w) (fun _ _ f=>f) (fun _ f=>f.elim) (fun k _ hn hq=>hn (hQ k hq))
theorem Nxt.least (n:Nxt P P' F F' ad w w'):Nxt P P' F (fun k=>F k∨P' k) ad w w' :=
  ⟨n.stp,fun _ h=>.inr h,fun _ h=>.inl h,fun k hk h=>h.elim id (fun h=>n.oldF k hk (n.sub k h)),n.env.anti (fun k h=>h.elim (n.grow k) (n.sub k))⟩
structure FiS (F P:Nat→Prop) (ad:Nat→Addr) (w:World) (c s gen:Nat) (G:GA) (l:List Nat) (F1 P1:Nat→Prop) (wr:World) (v:Value) (st:List (Int × Nat)):Prop where
  pg:PgR F1 wr P1 c s G l
  nx:Nxt P P1 F F1 ad w wr
  row:LocR w F1 P1 wr 237 2 encSt v st
  box:Blk wr w.heap.size #[.pointer (some ⟨c,0,none⟩),.pointer (some ⟨s,0,none⟩),.int .u64 (gen:Int)] 45
  boxP:¬ P1 w.heap.size
  res:Blk wr (w.heap.size+1) #[.bool false,.slice none 0 0,.slice none 0 0,.slice none 0 0] 26
  resP:¬ P1 (w.heap.size+1)
  resF:F1 (w.heap.size+1)
theorem FiS.nxt (h:FiS F P ad w c s gen G l F1 P1 wr v st) (n:Nxt P1 P2 F1 F2 ad wr w2) (g:PgR F2 w2 P2 c s G l):FiS F P ad w c s gen G l F2 P2 w2 v st :=
  ⟨g,h.nx.trans n,h.row.nxt n,n.blk h.box h.boxP,n.not h.box.lt h.boxP,n.blk h.res h.resP,n.not h.res.lt h.resP,n.grow _ h.resF⟩
theorem FiS.ext (h:FiS F P ad w c s gen G l F1 P1 wr v st) (m:Ext wr w2):FiS F P ad w c s gen G l F1 P1 w2 v st :=
  h.nxt (Nxt.ext h.nx.env h.nx.sub m) (h.pg.at m)
theorem FiS.app (h:FiS F P ad w c s gen G l F1 P1 wr v st) (ho:Own (fun _=>False) w2 w.heap.size 237 2 encSt v' st') (m:Mods (fun k=>v.ownBlock=some k) wr w2) (hat:v'.ownBlock=v.ownBlock∨v'.ownBlock=some wr.heap.size) :
    FiS F P ad w c s gen G l (plusV F1 v') P1 w2 v' st':=by
  obtain ⟨n,r⟩:=LocR.app h.nx h.row ho m hat (Nat.le_refl _)
  exact ⟨h.pg.app h.row m hat (Nat.le_refl _),n,r,h.box.mods m (fun e=>Own.notB h.row.1 h.box (by decide) _ e rfl),h.boxP,h.res.mods m (fun e=>Own.notB h.row.1 h.res (by decide) _ e rfl),h.resP,.inl h.resF⟩
end
def okB (n:NodeA):Prop :=
  if n.leaf=true then n.entries.length < 65536∧∀ (k:Nat) (e:EntryA),n.entries[k]? = some e→e.key.size < 256∧e.value.size < 256∧0≤e.chain∧e.chain < 4294967296∧0≤e.size∧e.size < 4294967296
  else n.kids.length=n.keys.length+1∧n.kids.length < 65536∧(∀ (k:Nat) (s:ByteArray),n.keys[k]? = some s→s.size < 256)∧∀ (k:Nat) (c:Int),n.kids[k]? = some c→0≤c∧c < 4294967296
theorem okB_right {n:NodeA} (h:rightN n=true):okB n:=by
  unfold okB
  cases hl:n.leaf with
  | true =>
    rw [if_pos rfl]
    refine ⟨by have:=right_len hl h;omega,fun k e he=>?_⟩
    have h1:=right_entry hl h he
    unfold rightE at h1
    simp only [Bool.and_eq_true] at h1
    have h2:=(keyB_iff e.key).1 h1.1
    have h3:=h1.2
    split at h3
    · simp only [Bool.and_eq_true,decide_eq_true_eq] at h3;omega
    · simp only [Bool.and_eq_true,decide_eq_true_eq,kidB] at h3;omega
  | false =>
    rw [if_neg (by simp)]
    obtain ⟨g1,g2,g3⟩:=right_256 hl h
    exact ⟨g3,by omega,fun k s hs=>right_keys hl h hs,fun k c hc=>by have:=right_kid hl h hc;omega⟩
section
variable {F:Nat→Prop} {w w':World}
theorem Sl.zero (W:World) (a:Option Addr):Sl (fun _=>False) W 1 encB (.slice a 0 0) ([]:List UInt8):=⟨a,0,rfl,Nat.le_refl _,by simp [maxLen],by simp,.inl rfl⟩
structure ByS (w w1:World) (n:NodeA) (ve vk vi v:Value) (l:List UInt8):Prop where
  ext:Ext w w1
  own:Own (fun _=>False) w1 w.heap.size 5 1 encB v l
  box:Blk w1 w.heap.size #[.bool n.leaf,ve,vk,vi] 26
theorem ByS.next {w1 w2:World} {n:NodeA} {ve vk vi v v':Value} {l l':List UInt8} (h:ByS w w1 n ve vk vi v l) (m:Ext w1 w2) (ho:Own (fun _=>False) w2 w1.heap.size 5 1 encB v' l'):ByS w w2 n ve vk vi v' l' :=
  ⟨h.ext.trans m,ho.rebase h.ext.size,h.box.ext m⟩
theorem ByS.sl {w1:World} {n:NodeA} {ve vk vi v:Value} {l:List UInt8} (h:ByS w w1 n ve vk vi v l) (hl:l.length≤100000):Sl (fun _=>False) w1 1 encB v l:=h.own.sl encB_ok.len (by omega)
set_option maxRecDepth 100000 in
set_option maxHeartbeats 2000000 in
theorem bytesL_any (n:NodeA) (hlf:n.leaf=true) (ve vk vi:Value) (hve:Sl F w 4 encE ve n.entries) (hok:okB n) (hlen:(bytesN n).length≤100000) :
    Calls Tryz.prog 68 #[.agg #[.bool true,ve,vk,vi]] w fun e w'=>∃ v,e=.returned v∧Own (fun _=>False) w' w.heap.size 5 1 encB v (bytesN n)∧Ext w w':=by
  obtain ⟨ae,ce,rfl,he1,he2,he3,hee⟩:=hve
  unfold maxLen at he2
  unfold okB at hok
  rw [if_pos hlf] at hok
  have HEE:=Lib.hid hee
  have HOK:=Lib.hid hok
  have HLF:=Lib.hid hlf
  have HLEN:=Lib.hid hlen
  have HB0:Hid (Blk ((w.alloc (.cells #[.bool true,.slice ae n.entries.length ce,vk,vi] 26)).alloc (.cells #[] 5)) w.heap.size #[.bool n.leaf,.slice ae n.entries.length ce,vk,vi] 26):=Lib.hid (by rw [hlf];exact (Blk.new w _ _).alloc _)
  have h64:n.entries.length < 65536:=hok.1
  clear hee hok hlf hlen
  go_enter Tryz.func68, Tryz.ntmps68
  go_wp2_with fail
  refine (num07_2 (F:=fun _=>False) _ [] ⟨_,0,rfl,Nat.le_refl _,by simp [maxLen],by simp,.inl rfl⟩ n.entries.length h64 (by simp)).mono ?_
  rintro e w1 ⟨v1,rfl,hO1,hm1⟩
  have HS1:Hid (ByS w w1 n (.slice ae n.entries.length ce) vk vi v1 (leafPre n 0)):=Lib.hid (by
    rw [leafPre_zero]
    rw [List.nil_append] at hO1
    exact ⟨(((Mods.refl _ w).alloc _).alloc _).trans hm1,hO1.rebase (base':=w.heap.size) (by simp;omega),HB0.out.ext hm1⟩)
  clear hO1 hm1
  go_wp2_with fail
  go_loopg [3,4] n.entries.length (fun m v3 v4 wr=>∃ (k:Nat),k+m=n.entries.length∧v4=.int .i64 k∧Hid (ByS w wr n (.slice ae n.entries.length ce) vk vi v3 (leafPre n k)))
  case atStart=>exact ⟨0,by omega,rfl,HS1⟩
  case round =>
    obtain ⟨k,hkm,rfl,HS⟩:=hrel
    have b1:=HS.out.box.cell (o:=1) (v:=.slice ae n.entries.length ce) rfl
    by_cases hlt:k < n.entries.length
    · obtain ⟨b,off,rfl,_,_,hc⟩:=Sl.at HEE.out HS.out.ext (fun _ _ f=>f.elim) k hlt
      have hen:n.entries[k]? = some n.entries[k]:=List.getElem?_eq_getElem hlt
      have hpre:=leafPre_step n hen
      have hpl:(leafPre n (k+1)).length≤100000:=Nat.le_trans (leafPre_len HLF.out (k+1)) HLEN.out
      have hoe:=HOK.out.2 k _ hen
      rw [hpre,List.length_append] at hpl
      clear hen
      generalize n.entries[k]=en at *
      obtain ⟨key,value,chain,size⟩:=en
      simp only at hoe
      obtain ⟨o1,o2,o3,o4,o5,o6⟩:=hoe
      have c0:=hc 0 (.string key) rfl
      simp only [Nat.add_zero] at c0
      have c1:=hc 1 (.string value) rfl
      have c2:=hc 2 (.int .i64 chain) rfl
      have c3:=hc 3 (.int .i64 size) rfl
      have HPRE:=Lib.hid hpre
      generalize hq:leafPre n k=q at *
      have i0:(0:Int)≤(k:Int):=by omega
      have i1:(k:Int) < (n.entries.length:Int):=by omega
      clear hc hpre hq
      by_cases hz:chain=0
      · subst hz
        have HBY:Hid (bytesE ⟨key,value,0,size⟩=bytesT key ++ (leB 1 0 ++ bytesT value)):=Lib.hid rfl
        have HPL:Hid (q.length+(bytesT key ++ (leB 1 0 ++ bytesT value)).length≤100000):=Lib.hid hpl
        clear hpl
        go_wp2_with fail
        refine (text07v _ q (HS.out.sl (by have:=HPL.out;omega)) key o1 (by have:=HPL.out;omega)).mono ?_
        rintro e w2 ⟨v2,rfl,hO2,hm2⟩
        have y0:=cellE hm2 b1
        have y1:=cellE hm2 c1
        have y2:=cellE hm2 c2
        have HS2:=Lib.hid (HS.out.next hm2 hO2)
        have HLA:Hid ((q ++ bytesT key).length≤100000):=Lib.hid (by have h1:=HPL.out;simp only [List.length_append] at h1 ⊢;omega)
        have HLB:Hid ((q ++ bytesT key ++ leB 1 0).length≤100000∧(q ++ bytesT key ++ leB 1 0).length≤140737488355328):=Lib.hid (by have h1:=HPL.out;simp only [List.length_append] at h1 ⊢;omega)
        clear hO2 hm2 b1 c0 c1 c2 c3
        go_wp2_with fail
        go_region_held3 (fun w'=>w'.cell? ⟨w.heap.size,1,none⟩=some (.slice (some ⟨b,off,none⟩) n.entries.length ce)∧w'.cell? ⟨b,off+k * 4+1,none⟩=some (.string value))
          (first | (with_reducible exact ⟨y0,y1⟩) | (with_reducible exact ⟨z0,z1⟩) | go_keep)
          (first
            | (go_at_call 109;(with_reducible refine (num07_01 _ (q ++ bytesT key) ((HS2.out.sl HLA.out).ext (Mods.refl _ _).drew) HLA.out).mono ?_);rintro e w3 ⟨v3,rfl,hO3,hm3⟩;have z0:=cellE hm3 y0;have z1:=cellE hm3 y1)
            | (go_at_call 110;(with_reducible refine (text07v _ _ (hO3.sl encB_ok.len HLB.out.2) value o2 HLB.out.1).mono ?_);rintro e w4 ⟨v4,rfl,hO4,hm4⟩;have z0:=cellE hm4 z0;have z1:=cellE hm4 z1)
            | fail)
        have HS4:=Lib.hid ((HS2.out.next ((Mods.refl _ w2).drew.trans hm3) hO3).next hm4 hO4)
        have HEQ:Hid (leafPre n (k+1)=q ++ bytesT key ++ leB 1 0 ++ bytesT value):=Lib.hid (by rw [HPRE.out,HBY.out];simp only [List.append_assoc])
        clear hO3 hm3 hO4 hm4 z0 z1 y0 y1 y2
        go_wp2_with fail
        go_roundg (gk - 1)
        case measure=>omega
        case rel=>exact ⟨k+1,by omega,by go_num,Lib.hid (by rw [HEQ.out];exact HS4.out)⟩
      · have hzb:(chain == 0)=false:=beq_eq_false_iff_ne.2 hz
        obtain ⟨cn,rfl⟩:∃ cn:Nat,chain=(cn:Int):=⟨chain.toNat,by omega⟩
        obtain ⟨sn,rfl⟩:∃ sn:Nat,size=(sn:Int):=⟨size.toNat,by omega⟩
        have HBY:Hid (bytesE ⟨key,value,(cn:Int),(sn:Int)⟩=bytesT key ++ (leB 1 1 ++ (leB 4 cn ++ leB 4 sn))):=Lib.hid (by unfold bytesE;simp only [if_neg hz,Int.toNat_natCast])
        have HPL:Hid (q.length+(bytesT key ++ (leB 1 1 ++ (leB 4 cn ++ leB 4 sn))).length≤100000):=Lib.hid (by rw [← HBY.out];exact hpl)
        have hcn:cn < 4294967296:=by omega
        have hsn:sn < 4294967296:=by omega
        clear hpl hz
        go_wp2_with fail
        refine (text07v _ q (HS.out.sl (by have:=HPL.out;omega)) key o1 (by have:=HPL.out;omega)).mono ?_
        rintro e w2 ⟨v2,rfl,hO2,hm2⟩
        have y0:=cellE hm2 b1
        have y1:=cellE hm2 c2
        have y2:=cellE hm2 c3
        have HS2:=Lib.hid (HS.out.next hm2 hO2)
        have HLA:Hid ((q ++ bytesT key).length≤100000):=Lib.hid (by have h1:=HPL.out;simp only [List.length_append] at h1 ⊢;omega)
        have HLB:Hid ((q ++ bytesT key ++ leB 1 1 ++ leB 4 cn).length≤100000∧(q ++ bytesT key ++ leB 1 1 ++ leB 4 cn).length≤140737488355328∧(q ++ bytesT key ++ leB 1 1).length≤100000∧(q ++ bytesT key ++ leB 1 1).length≤140737488355328):=Lib.hid (by have h1:=HPL.out;simp only [List.length_append] at h1 ⊢;omega)
        clear hO2 hm2 b1 c0 c1 c2 c3
        go_wp2_with fail
        go_region_held3 (fun w'=>w'.cell? ⟨w.heap.size,1,none⟩=some (.slice (some ⟨b,off,none⟩) n.entries.length ce)∧w'.cell? ⟨b,off+k * 4+2,none⟩=some (.int .i64 (cn:Int))∧w'.cell? ⟨b,off+k * 4+3,none⟩=some (.int .i64 (sn:Int)))
          (first | (with_reducible exact ⟨y0,y1,y2⟩) | (with_reducible exact ⟨z0,z1,z2⟩) | go_keep)
          (first
            | (go_at_call 109;(with_reducible refine (num07_11 _ (q ++ bytesT key) ((HS2.out.sl HLA.out).ext (Mods.refl _ _).drew) HLA.out).mono ?_);rintro e w3 ⟨v3,rfl,hO3,hm3⟩;have z0:=cellE hm3 y0;have z1:=cellE hm3 y1;have z2:=cellE hm3 y2)
            | (go_at_call 109;(with_reducible refine (num07_4 _ _ (hO3.sl encB_ok.len HLB.out.2.2.2) cn hcn HLB.out.2.2.1).mono ?_);rintro e w4 ⟨v4,rfl,hO4,hm4⟩;have z0:=cellE hm4 z0;have z1:=cellE hm4 z1;have z2:=cellE hm4 z2)
            | (go_at_call 109;(with_reducible refine (num07_4 _ _ (hO4.sl encB_ok.len HLB.out.2.1) sn hsn HLB.out.1).mono ?_);rintro e w5 ⟨v5,rfl,hO5,hm5⟩;have z0:=cellE hm5 z0;have z1:=cellE hm5 z1;have z2:=cellE hm5 z2)
            | fail)
        have HS4:=Lib.hid (((HS2.out.next ((Mods.refl _ w2).drew.trans hm3) hO3).next hm4 hO4).next hm5 hO5)
        have HEQ:Hid (leafPre n (k+1)=q ++ bytesT key ++ leB 1 1 ++ leB 4 cn ++ leB 4 sn):=Lib.hid (by rw [HPRE.out,HBY.out];simp only [List.append_assoc])
        clear hO3 hm3 hO4 hm4 hO5 hm5 z0 z1 z2 y0 y1 y2
        go_wp2_with fail
        go_roundg (gk - 1)
        case measure=>omega
        case rel=>exact ⟨k+1,by omega,by go_num,Lib.hid (by rw [HEQ.out];exact HS4.out)⟩
    · have hke:k=n.entries.length:=by omega
      rw [leafPre_all HLF.out hke] at HS
      clear hke
      go_wp2_with fail
      go_ret
      exact ⟨_,rfl,HS.out.own,HS.out.ext⟩
set_option maxRecDepth 100000 in
set_option maxHeartbeats 2000000 in
theorem bytesI_any (n:NodeA) (hlf:n.leaf=false) (ve vk vi:Value) (hvk:Sl F w 1 encS vk n.keys) (hvi:Sl F w 1 encI vi n.kids) (hok:okB n) (hlen:(bytesN n).length≤100000) :
    Calls Tryz.prog 68 #[.agg #[.bool false,ve,vk,vi]] w fun e w'=>∃ v,e=.returned v∧Own (fun _=>False) w' w.heap.size 5 1 encB v (bytesN n)∧Ext w w':=by
  obtain ⟨ak,ck,rfl,hk1,hk2,hk3,hkk⟩:=hvk
  obtain ⟨ai,ci,rfl,hi1,hi2,hi3,hii⟩:=hvi
  unfold maxLen at hk2 hi2
  unfold okB at hok
  rw [if_neg (by rw [hlf];simp)] at hok
  obtain ⟨g1,g2,g3,g4⟩:=hok
  have HKK:=Lib.hid hkk
  have HII:=Lib.hid hii
  have HG1:=Lib.hid g1
  have HG3:=Lib.hid g3
  have HG4:=Lib.hid g4
  have HLF:=Lib.hid hlf
  have HLEN:=Lib.hid hlen
  have hkz:0 < n.kids.length:=by omega
  have HKL:Hid (n.keys.length+1=n.kids.length):=Lib.hid g1.symm
  obtain ⟨kb,koff,rfl,_,_,hc0⟩:=Sl.at HII.out (Mods.refl (fun _=>False) w) (fun _ _ f=>f.elim) 0 hkz
  obtain ⟨z,hz⟩:∃ z:Nat,n.kids[0]=(z:Int):=⟨n.kids[0].toNat,by have:=g4 0 _ (List.getElem?_eq_getElem hkz);omega⟩
  have hz32:z < 4294967296:=by have:=g4 0 _ (List.getElem?_eq_getElem hkz);omega
  have HPZ:Hid (innerPre n 0=leB 2 n.kids.length ++ leB 4 z):=Lib.hid (by rw [innerPre_zero,headD_at n.kids hkz,hz];rfl)
  have d0:w.cell? ⟨kb,koff,none⟩=some (.int .i64 (z:Int)):=by
    have:=hc0 0 _ rfl
    rw [hz] at this
    simpa using this
  have m0:Ext w (w.alloc (.cells #[.bool false,ve,.slice ak n.keys.length ck,.slice (some ⟨kb,koff,none⟩) n.kids.length ci] 26)):=(Mods.refl _ w).alloc _
  have HB0:Hid (Blk (w.alloc (.cells #[.bool false,ve,.slice ak n.keys.length ck,.slice (some ⟨kb,koff,none⟩) n.kids.length ci] 26)) w.heap.size #[.bool n.leaf,ve,.slice ak n.keys.length ck,.slice (some ⟨kb,koff,none⟩) n.kids.length ci] 26):=Lib.hid (by rw [hlf];exact Blk.new w _ _)
  have d1:=cellE m0 d0
  have p3:=HB0.out.cell (o:=3) (v:=.slice (some ⟨kb,koff,none⟩) n.kids.length ci) rfl
  have d2:=cellE ((Mods.refl _ _).alloc (.cells #[] 5)) d1
  have p3b:=cellE ((Mods.refl _ _).alloc (.cells #[] 5)) p3
  have i0:(0:Int) < (n.kids.length:Int):=by omega
  have HM0:=Lib.hid m0
  clear hkk hii g1 g3 g4 hlf hlen hc0 hz d0 m0
  go_enter Tryz.func68, Tryz.ntmps68
  go_wp2_with fail
  go_region_held3 (fun w'=>w'.cell? ⟨w.heap.size,3,none⟩=some (.slice (some ⟨kb,koff,none⟩) n.kids.length ci)∧w'.cell? ⟨kb,koff,none⟩=some (.int .i64 (z:Int)))
    (first | (with_reducible exact ⟨p3,d1⟩) | (with_reducible exact ⟨p3b,d2⟩) | (with_reducible exact ⟨z0,z1⟩) | go_keep)
    (first
      | (go_at_call 109;(with_reducible refine (num07_2 (F:=fun _=>False) _ [] (Sl.zero _ _) n.kids.length g2 (Nat.zero_le _)).mono ?_);rintro e w1 ⟨v1,rfl,hO1,hm1⟩;have z0:=cellE hm1 p3b;have z1:=cellE hm1 d2)
      | (go_at_call 109;(with_reducible refine (num07_4 _ _ (hO1.sl encB_ok.len (by simp [leB_length])) z hz32 (by simp [leB_length])).mono ?_);rintro e w2 ⟨v2,rfl,hO2,hm2⟩;have z0:=cellE hm2 z0;have z1:=cellE hm2 z1)
      | fail)
  have HS1:Hid (ByS w w2 n ve (.slice ak n.keys.length ck) (.slice (some ⟨kb,koff,none⟩) n.kids.length ci) v2 (innerPre n 0)):=Lib.hid (by
    rw [HPZ.out]
    rw [List.nil_append] at hO2
    have hx:Ext w w2:=(((HM0.out.alloc (.cells #[] 5)).drew).trans hm1).trans hm2
    exact ⟨hx,hO2.rebase (base':=w.heap.size) (by have:=hm1.size;simp at this;omega),HB0.out.ext ((((Mods.refl _ _).alloc (.cells #[] 5)).drew.trans hm1).trans hm2)⟩)
  clear hO1 hm1 hO2 hm2 z0 z1 d1 d2 p3 p3b
  go_wp2_with fail
  go_loopg [5,6] n.keys.length (fun m v5 v6 wr=>∃ (k:Nat),k+m=n.keys.length∧v6=.int .i64 k∧Hid (ByS w wr n ve (.slice ak n.keys.length ck) (.slice (some ⟨kb,koff,none⟩) n.kids.length ci) v5 (innerPre n k)))
  case atStart=>exact ⟨0,by omega,rfl,HS1⟩
  case round =>
    obtain ⟨k,hkm,rfl,HS⟩:=hrel
    have p2:=HS.out.box.cell (o:=2) (v:=.slice ak n.keys.length ck) rfl
    have p3:=HS.out.box.cell (o:=3) (v:=.slice (some ⟨kb,koff,none⟩) n.kids.length ci) rfl
    by_cases hlt:k < n.keys.length
    · obtain ⟨b,off,rfl,_,_,hc⟩:=Sl.at HKK.out HS.out.ext (fun _ _ f=>f.elim) k hlt
      have hlk:k+1 < n.kids.length:=by rw [← HKL.out];omega
      have hen:n.keys[k]? = some n.keys[k]:=List.getElem?_eq_getElem hlt
      have hkd:n.kids[k+1]? = some n.kids[k+1]:=List.getElem?_eq_getElem hlk
      have hpre:=innerPre_step n hen hkd
      have hks:=HG3.out k _ hen
      have hkr:=HG4.out (k+1) _ hkd
      have hpl:(innerPre n (k+1)).length≤100000:=Nat.le_trans (innerPre_len HLF.out (k+1)) HLEN.out
      rw [hpre,List.length_append] at hpl
      obtain ⟨y,hy⟩:∃ y:Nat,n.kids[k+1]=(y:Int):=⟨n.kids[k+1].toNat,by omega⟩
      have d0:=kid_cell (F2:=F) HII.out (HS.out.ext.ext) hlk hy.symm
      obtain ⟨key,hkey⟩:∃ key,key=n.keys[k]:=⟨_,rfl⟩
      have c0:=hc 0 (.string key) (by rw [hkey];rfl)
      simp only [Nat.add_zero,Nat.mul_one] at c0
      have HBY:Hid (innerPre n (k+1)=innerPre n k ++ (bytesT key ++ leB 4 y)):=Lib.hid (by rw [hpre,hkey];unfold bytesK;simp only [hy,Int.toNat_natCast])
      have HPL:Hid ((innerPre n k).length+(bytesT key ++ leB 4 y).length≤100000):=Lib.hid (by
        have h1:=hpl
        unfold bytesK at h1
        simp only [hy,Int.toNat_natCast,← hkey] at h1
        exact h1)
      rw [← hkey] at hks
      have hy32:y < 4294967296:=by omega
      generalize innerPre n k=q at *
      have i0:(0:Int)≤(k:Int):=by omega
      have i1:(k:Int) < (n.keys.length:Int):=by omega
      have i2:(0:Int)≤(k:Int)+1:=by omega
      have i3:(k:Int)+1 < (n.kids.length:Int):=by omega
      have hw1:IntKind.i64.wrap ((k:Int)+1)=(k:Int)+1:=IntWalk.i64_in _ (by omega)
      have hw2:((k:Int)+1).toNat=k+1:=by omega
      have HLA:Hid (q.length≤100000):=Lib.hid (by have h1:=HPL.out;omega)
      have HLB:Hid ((q ++ bytesT key).length≤100000∧(q ++ bytesT key).length≤140737488355328):=Lib.hid (by have h1:=HPL.out;simp only [List.length_append] at h1 ⊢;omega)
      clear hc hen hkd hpre hpl hkr hy hkey
      go_wp2_with fail
      go_region_held3 (fun w'=>w'.cell? ⟨w.heap.size,2,none⟩=some (.slice (some ⟨b,off,none⟩) n.keys.length ck)∧w'.cell? ⟨w.heap.size,3,none⟩=some (.slice (some ⟨kb,koff,none⟩) n.kids.length ci)∧w'.cell? ⟨b,off+k,none⟩=some (.string key)∧w'.cell? ⟨kb,koff+(k+1),none⟩=some (.int .i64 (y:Int)))
        (first | (with_reducible exact ⟨p2,p3,c0,d0⟩) | (with_reducible exact ⟨z0,z1,z2,z3⟩) | go_keep)
        (first
          | (go_at_call 110;(with_reducible refine (text07v _ q ((HS.out.sl HLA.out).ext (Mods.refl _ _).drew) key hks HLA.out).mono ?_);rintro e w3 ⟨v3,rfl,hO3,hm3⟩;have z0:=cellE hm3 p2;have z1:=cellE hm3 p3;have z2:=cellE hm3 c0;have z3:=cellE hm3 d0)
          | (go_at_call 109;(with_reducible refine (num07_4 _ _ (hO3.sl encB_ok.len HLB.out.2) y hy32 HLB.out.1).mono ?_);rintro e w4 ⟨v4,rfl,hO4,hm4⟩;have z0:=cellE hm4 z0;have z1:=cellE hm4 z1;have z2:=cellE hm4 z2;have z3:=cellE hm4 z3)
          | fail)
      have HS4:=Lib.hid ((HS.out.next ((Mods.refl _ wr).drew.trans hm3) hO3).next hm4 hO4)
      have HEQ:Hid (innerPre n (k+1)=q ++ bytesT key ++ leB 4 y):=Lib.hid (by rw [HBY.out];simp only [List.append_assoc])
      clear hO3 hm3 hO4 hm4 z0 z1 z2 z3 p2 p3 c0 d0 hw1 hw2
      go_wp2_with fail
      go_roundg (gk - 1)
      case measure=>omega
      case rel=>exact ⟨k+1,by omega,by go_num,Lib.hid (by rw [HEQ.out];exact HS4.out)⟩
    · have hke:k=n.keys.length:=by omega
      rw [innerPre_all HLF.out HG1.out hke] at HS
      clear hke
      go_wp2_with fail
      go_ret
      exact ⟨_,rfl,HS.out.own,HS.out.ext⟩
theorem bytes07_any (n:NodeA) (ve vk vi:Value) (hve:Sl F w 4 encE ve n.entries) (hvk:Sl F w 1 encS vk n.keys) (hvi:Sl F w 1 encI vi n.kids) (hok:okB n) (hlen:(bytesN n).length≤100000) :
    Calls Tryz.prog 68 #[.agg #[.bool n.leaf,ve,vk,vi]] w fun e w'=>∃ v,e=.returned v∧Own (fun _=>False) w' w.heap.size 5 1 encB v (bytesN n)∧Ext w w':=by
  cases hlf:n.leaf
  · exact bytesI_any n hlf ve vk vi hvk hvi hok hlen
  · exact bytesL_any n hlf ve vk vi hve hok hlen
end
end Go.Proofs.YtphafjmdhmpkbaaGreatDoor
namespace Go.Proofs.YtphafjmdhmpkbaaGreatDoor
open Go.RowKit
theorem bytesE_wt (e:EntryA):((bytesE e).length:Int)=weightE e:=by
  unfold bytesE weightE
  by_cases h:e.chain=0
  · rw [if_pos h,if_pos h]
    simp only [List.length_append,leB_length,bytesT_len]
    omega
  · rw [if_neg h,if_neg h]
    simp only [List.length_append,leB_length,bytesT_len]
    omega
theorem flatE_len:∀ l:List EntryA,((l.flatMap bytesE).length:Int)=sumE l
  | []=>rfl
  | e :: l=>by
    rw [List.flatMap_cons,List.length_append,sumE,← flatE_len l,← bytesE_wt e];omega
theorem flatK_len:∀ (l:List ByteArray) (k:List Int),l.length≤k.length→(((l.zip k).flatMap bytesK).length:Int)=sumK l
  | [],_,_=>rfl
  | s :: l,[],h=>by simp at h
  | s :: l,c :: k,h=>by
    rw [List.zip_cons_cons,List.flatMap_cons,List.length_append,sumK,← flatK_len l k (by simpa using h)]
    unfold bytesK
    rw [List.length_append,bytesT_len,leB_length]
    simp only
    omega
def formN (n:NodeA):Prop:=if n.leaf=true then n.keys=[]∧n.kids=[] else n.entries=[]∧n.kids.length=n.keys.length+1
theorem weight_len {n:NodeA} (h:formN n):weightN n=((bytesN n).length:Int):=by
  unfold formN at h
  unfold weightN bytesN
  cases hl:n.leaf with
  | true =>
    rw [if_pos hl] at h
    simp only [if_true]
    rw [h.1,List.length_append,leB_length]
    have:=flatE_len n.entries
    simp only [sumK]
    omega
  | false =>
    rw [if_neg (by rw [hl];simp)] at h
    simp only [Bool.false_eq_true,if_false]
    rw [h.1,List.length_append,List.length_append,leB_length,leB_length]
    have:=flatK_len n.keys n.kids.tail (by rw [List.length_tail];omega)
    simp only [sumE]
    omega
theorem form_right {n:NodeA} (h:rightN n=true):formN n:=by
  unfold formN
  unfold rightN at h
  cases hl:n.leaf with
  | true =>
    rw [if_pos hl] at h
    simp only [Bool.and_eq_true,List.isEmpty_iff] at h
    rw [if_pos rfl]
    exact ⟨h.1.1.1.2,h.1.1.2⟩
  | false =>
    rw [if_neg (by rw [hl];simp)] at h
    simp only [Bool.and_eq_true,List.isEmpty_iff,decide_eq_true_eq] at h
    rw [if_neg (by simp)]
    exact ⟨h.1.1.1.1.1.1.1,h.1.1.1.1.1.2⟩
theorem sumE_drop_le (l:List EntryA) (k:Nat):sumE (l.drop k)≤sumE l:=by
  have:=sumE_append (l.take k) (l.drop k);rw [List.take_append_drop] at this
  have:=sumE_nonneg (l.take k);omega
theorem sumK_drop_le (l:List ByteArray) (k:Nat):sumK (l.drop k)≤sumK l:=by
  have:=sumK_append (l.take k) (l.drop k);rw [List.take_append_drop] at this
  have:=sumK_nonneg (l.take k);omega
structure PlaceN (n:NodeA) (a:Nat):Prop where
  leaf:n.leaf=true→1≤a∧a < n.entries.length
  inner:n.leaf=false→2≤a∧a+1 < n.kids.length
theorem place_in {n:NodeA} {a:Nat} (h1:cutFrom n≤a) (h2:a < cutFrom n+cutMany n):PlaceN n a:=by
  unfold cutFrom at h1 h2
  unfold cutMany at h2
  constructor
  · intro hl
    simp only [hl,if_true] at h1 h2
    omega
  · intro hl
    simp only [hl,Bool.false_eq_true,if_false] at h1 h2
    omega
section
variable {n:NodeA} {a:Nat}
theorem apart_leafA (hl:n.leaf=true):(apartA n a).1=⟨true,n.entries.take a,[],[]⟩:=by unfold apartA;rw [if_pos hl]
theorem apart_leafB (hl:n.leaf=true):(apartA n a).2.2=⟨true,n.entries.drop a,[],[]⟩:=by unfold apartA;rw [if_pos hl]
theorem apart_innerA (hl:n.leaf=false):(apartA n a).1=⟨false,[],n.keys.take (a - 1),n.kids.take a⟩:=by unfold apartA;rw [if_neg (by rw [hl];simp)]
theorem apart_innerB (hl:n.leaf=false):(apartA n a).2.2=⟨false,[],n.keys.drop a,n.kids.drop a⟩:=by unfold apartA;rw [if_neg (by rw [hl];simp)]
theorem apart_form (h:formN n) (hp:PlaceN n a):formN (apartA n a).1∧formN (apartA n a).2.2:=by
  unfold formN at h
  cases hl:n.leaf with
  | true =>
    rw [apart_leafA hl,apart_leafB hl]
    exact ⟨⟨rfl,rfl⟩,⟨rfl,rfl⟩⟩
  | false =>
    rw [if_neg (by rw [hl];simp)] at h
    have:=hp.inner hl
    rw [apart_innerA hl,apart_innerB hl]
    unfold formN
    simp only [Bool.false_eq_true,if_false,List.length_take,List.length_drop,true_and]
    omega
theorem apart_weight:weightN (apartA n a).1≤weightN n∧weightN (apartA n a).2.2≤weightN n:=by
  have e1:=sumE_nonneg n.entries
  have e2:=sumE_take_le n.entries a
  have e3:=sumE_drop_le n.entries a
  have e4:=sumK_nonneg n.keys
  have e5:=sumK_take_le n.keys (a - 1)
  have e6:=sumK_drop_le n.keys a
  cases hl:n.leaf with
  | true =>
    rw [apart_leafA hl,apart_leafB hl]
    unfold weightN
    simp only [hl,if_true,sumK]
    omega
  | false =>
    rw [apart_innerA hl,apart_innerB hl]
    unfold weightN
    simp only [hl,Bool.false_eq_true,if_false,sumE]
    omega
theorem weight_pos (n:NodeA):2≤weightN n:=by
  have e1:=sumE_nonneg n.entries
  have e4:=sumK_nonneg n.keys
  unfold weightN
  split <;> omega
theorem apart_right (h:rightN n=true) (hp:PlaceN n a):okB (apartA n a).1∧okB (apartA n a).2.2:=by
  have ho:=okB_right h
  unfold okB at ho
  cases hl:n.leaf with
  | true =>
    rw [if_pos hl] at ho
    rw [apart_leafA hl,apart_leafB hl]
    unfold okB
    simp only [if_true,List.length_take,List.length_drop]
    refine ⟨⟨by omega,fun k e he=>ho.2 k e ?_⟩,⟨by omega,fun k e he=>ho.2 (a+k) e ?_⟩⟩
    · rw [List.getElem?_take] at he
      split at he
      · exact he
      · cases he
    · rw [List.getElem?_drop] at he
      exact he
  | false =>
    rw [if_neg (by rw [hl];simp)] at ho
    have:=hp.inner hl
    rw [apart_innerA hl,apart_innerB hl]
    unfold okB
    simp only [Bool.false_eq_true,if_false,List.length_take,List.length_drop]
    refine ⟨⟨by omega,by omega,fun k e he=>ho.2.2.1 k e ?_,fun k e he=>ho.2.2.2 k e ?_⟩,⟨by omega,by omega,fun k e he=>ho.2.2.1 (a+k) e ?_,fun k e he=>ho.2.2.2 (a+k) e ?_⟩⟩
    · rw [List.getElem?_take] at he
      split at he
      · exact he
      · cases he
    · rw [List.getElem?_take] at he
      split at he
      · exact he
      · cases he
    · rw [List.getElem?_drop] at he
      exact he
    · rw [List.getElem?_drop] at he
      exact he
theorem apart_A (h:formN n) (hp:PlaceN n a):(weightA (apartA n a).1:Int)=weightN (apartA n a).1:=(weight_len (apart_form h hp).1).symm
theorem apart_B (h:formN n) (hp:PlaceN n a):(weightA (apartA n a).2.2:Int)=weightN (apartA n a).2.2:=(weight_len (apart_form h hp).2).symm
theorem unlike_eq (h:formN n) (hp:PlaceN n a):(unlikeA n a:Int)=if weightN (apartA n a).1 - weightN (apartA n a).2.2 < 0 then -(weightN (apartA n a).1 - weightN (apartA n a).2.2) else weightN (apartA n a).1 - weightN (apartA n a).2.2:=by
  unfold unlikeA
  rw [apart_A h hp,apart_B h hp]
  split <;> omega
end
section
variable {F:Nat→Prop} {w w':World}
theorem weight13_any (n:NodeA) (ve vk vi:Value) (hve:Sl F w 4 encE ve n.entries) (hvk:Sl F w 1 encS vk n.keys) (hvi:Sl F w 1 encI vi n.kids) (hok:okB n) (hlen:(bytesN n).length≤100000) (b:Bool) (hb:n.leaf=b) :
    Calls Tryz.prog 17 #[.agg #[.bool b,ve,vk,vi]] w fun e w'=>e=.returned (.int .i64 ((bytesN n).length:Int))∧Ext w w':=by
  subst hb
  have m0:Ext w (w.alloc (.cells #[.bool n.leaf,ve,vk,vi] 26)):=(Mods.refl _ w).alloc _
  have HB:=Lib.hid (bytes07_any n ve vk vi (hve.ext m0) (hvk.ext m0) (hvi.ext m0) hok hlen)
  have M0:=Lib.hid m0
  obtain ⟨ea,ec,rfl,_,_,_,_⟩:=hve
  obtain ⟨ka,kc,rfl,_,_,_,_⟩:=hvk
  obtain ⟨ia,ic,rfl,_,_,_,_⟩:=hvi
  obtain ⟨N,hN⟩:∃ N,N=(bytesN n).length:=⟨_,rfl⟩
  have HN:=Lib.hid hN
  rw [← hN]
  clear m0 hok hlen hN
  go_enter Tryz.func17, Tryz.ntmps17
  go_wp2_with fail
  refine HB.out.mono ?_
  rintro e w1 ⟨v,rfl,hO,hm⟩
  obtain ⟨a,c,rfl,_,_⟩:=hO.form
  have HM:=Lib.hid hm
  rw [← HN.out]
  clear hO hm
  go_wp2_with fail
  go_ret
  exact ⟨rfl,M0.out.trans HM.out⟩
end
end Go.Proofs.YtphafjmdhmpkbaaGreatDoor
namespace Go.Proofs.YtphafjmdhmpkbaaGreatDoor
open Go.RowKit
attribute [local go_sem ↓] Go.wp_at_zero Go.wp_at_succ
def NodeO (w:World) (base:Nat) (v:Value) (n:NodeA):Prop :=
  ∃ ve vk vi,v=.agg #[.bool n.leaf,ve,vk,vi]∧Own (fun _=>False) w base 107 4 encE ve n.entries∧Own (fun _=>False) w base 9 1 encS vk n.keys∧Own (fun _=>False) w base 3 1 encI vi n.kids
theorem Own.slF {α:Type} {F:Nat→Prop} {w:World} {base:Nat} {e:TypeId} {sz:Nat} {enc:α→List Value} {v:Value} {l:List α} (h:Own (fun _=>False) w base e sz enc v l) (hF:∀ k,F k→k < base) (henc:∀ x,(enc x).length=sz) (hl:l.length≤140737488355328):Sl F w sz enc v l :=
  (h.blocks (G:=F) (fun g hg hf=>by have:=(h.lt g hg).1;have:=hF g hf;omega)).sl henc hl
section
variable {F:Nat→Prop} {w w':World} {base:Nat} {v:Value} {n:NodeA}
theorem NodeO.ext (h:NodeO w base v n) (m:Ext w w'):NodeO w' base v n:=by
  obtain ⟨ve,vk,vi,e,h1,h2,h3⟩:=h
  exact ⟨ve,vk,vi,e,h1.ext m,h2.ext m,h3.ext m⟩
theorem NodeO.rebase (h:NodeO w base v n) {b:Nat} (hb:b≤base):NodeO w b v n:=by
  obtain ⟨ve,vk,vi,e,h1,h2,h3⟩:=h
  exact ⟨ve,vk,vi,e,h1.rebase hb,h2.rebase hb,h3.rebase hb⟩
end
def ApartR (w:World) (x:NodeA × ByteArray × NodeA) (e:Ending) (w':World):Prop :=
  ∃ va vb,e=.returned (.tuple #[va,.string x.2.1,vb])∧NodeO w' w.heap.size va x.1∧NodeO w' w.heap.size vb x.2.2∧Ext w w'
theorem Own.some' {α:Type} {F:Nat→Prop} {w:World} {base:Nat} {e:TypeId} {sz:Nat} {enc:α→List Value} {a:Option Addr} {n c:Nat} {l:List α} (h:Own F w base e sz enc (.slice a n c) l) (hl:l ≠ []):∃ g,a=some ⟨g,0,none⟩:=by
  rcases h.1.2 with ⟨_,h0⟩ | ⟨g,cap,cur,h0,_⟩
  · exact absurd (List.eq_nil_of_length_eq_zero h0) hl
  · injection h0 with h0 _ _
    exact ⟨g,h0⟩
section
variable {F:Nat→Prop} {w w':World}
theorem Tryz.nodeSz:(Tryz.prog.info? 26).map (·.size)=some 4:=by kernel_rfl
abbrev nodeZc:Array Value:=#[.bool false,.slice none 0 0,.slice none 0 0,.slice none 0 0]
set_option maxRecDepth 100000 in
set_option maxHeartbeats 1000000 in
theorem apartL_any (n:NodeA) (hlf:n.leaf=true) (ve vk vi:Value) (hve:Sl F w 4 encE ve n.entries) (a:Nat) (ha:1≤a∧a < n.entries.length) (hb:n.entries.length≤100000) :
    Calls Tryz.prog 60 #[.agg #[.bool true,ve,vk,vi],.int .i64 (a:Int)] w (ApartR w (apartA n a)):=by
  have m0:Ext w (((w.alloc (.cells #[.bool true,ve,vk,vi] 26)).alloc (.cells nodeZc 26)).alloc (.cells nodeZc 26)):=(((Mods.refl _ w).alloc _).alloc _).alloc _
  have HB0:=Lib.hid (((Blk.new w #[.bool true,ve,vk,vi] 26).alloc (.cells nodeZc 26)).alloc (.cells nodeZc 26))
  have HR1:Hid (Blk (((w.alloc (.cells #[.bool true,ve,vk,vi] 26)).alloc (.cells nodeZc 26)).alloc (.cells nodeZc 26)) (w.heap.size+1) nodeZc 26):=Lib.hid ((show Blk ((w.alloc (.cells #[.bool true,ve,vk,vi] 26)).alloc (.cells nodeZc 26)) (w.heap.size+1) nodeZc 26 from heap_at (by simp)).alloc _)
  have HR2:Hid (Blk (((w.alloc (.cells #[.bool true,ve,vk,vi] 26)).alloc (.cells nodeZc 26)).alloc (.cells nodeZc 26)) (w.heap.size+1+1) nodeZc 26):=Lib.hid (heap_at (by simp))
  have HM0:=Lib.hid m0
  have HE:=Lib.hid (hve.ext m0)
  obtain ⟨ae,ce,rfl,he1,he2,he3,_⟩:=hve
  unfold maxLen at he2
  obtain ⟨x0,hx0⟩:∃ x0,n.entries[a]? = some x0:=⟨_,List.getElem?_eq_getElem ha.2⟩
  have HAP:Hid (apartA n a=(⟨true,n.entries.take a,[],[]⟩,x0.key,⟨true,n.entries.drop a,[],[]⟩)):=Lib.hid (by unfold apartA;rw [if_pos hlf,hx0])
  have HX0:=Lib.hid hx0
  have hk1:(n.entries.take a).length=a:=by rw [List.length_take];omega
  have hk2:(n.entries.drop a).length=n.entries.length - a:=List.length_drop
  have HK1:=Lib.hid hk1
  have HK2:=Lib.hid hk2
  have hi:(a:Int)≤(n.entries.length:Int):=by omega
  clear m0 hk1 hk2 hlf hx0
  go_enter Tryz.func60, Tryz.ntmps60
  go_wp2_with fail
  refine (laidE_end _ (n.entries.take a) (HE.out.pre a (by omega)) a HK1.out.symm (by rw [HK1.out];omega)).mono ?_
  rintro e w1 ⟨a1,c1,rfl,hO1,hm1⟩
  have HO1:=Lib.hid hO1
  have HM1:=Lib.hid (hm1.alloc (.cells #[.bool true,.slice a1 a c1,.slice none 0 0,.slice none 0 0] 26))
  have b1:=(HB0.out.ext HM1.out).cell (o:=1) (v:=.slice ae n.entries.length ce) rfl
  have hne:¬ ce=a:=by omega
  have hz1:w.heap.size+1+1 < w1.heap.size:=by have:=hm1.size;simp at this;omega
  clear hO1 hm1
  have HP2:Hid (Sl F (w1.alloc (.cells #[.bool true,.slice a1 a c1,.slice none 0 0,.slice none 0 0] 26)) 4 encE (.slice (ae.map (·.add (a * 4))) (n.entries.length - a) (ce - a)) (n.entries.drop a)):=Lib.hid (by
    have:=(HE.out.ext HM1.out).tail_ a (by omega)
    rw [if_neg hne] at this
    exact this)
  go_wp2_with fail
  refine (laidE_beg _ (n.entries.drop a) HP2.out (n.entries.length - a) HK2.out.symm (by rw [HK2.out];omega)).mono ?_
  rintro e w2 ⟨a2,c2,rfl,hO2,hm2⟩
  obtain ⟨g2,rfl⟩:=hO2.some' (fun e0=>by have:=HK2.out;rw [e0] at this;simp at this;omega)
  have hk0:w2.cell? ⟨g2,0,none⟩=some (.string x0.key):=by
    obtain ⟨a',c',e1,_,_,_,e5⟩:=hO2.sl encE_ok.len (by rw [HK2.out];omega)
    injection e1 with e1 _ _
    subst e1
    obtain ⟨b,off,ha,_,hF,hc⟩:=Sl.at e5 (Mods.refl _ w2) (fun _ _ h=>h) 0 (by rw [HK2.out];omega)
    injection ha with ha
    injection ha with ha1 ha2
    subst ha1 ha2
    have:=hc 0 (.string x0.key) (by
      have hx:(n.entries.drop a)[0]? = some x0:=by rw [List.getElem?_drop];exact HX0.out
      have hx2:=(List.getElem?_eq_some_iff.1 hx).2
      rw [hx2];rfl)
    simpa using this
  have hgl:=(hO2.lt g2 rfl).1
  have hg1:g2 ≠ w.heap.size+1:=by simp at hgl;omega
  have hg2:g2 ≠ w.heap.size+1+1:=by simp at hgl;omega
  have hg3:=hg1.symm
  have hg4:=hg2.symm
  clear hgl
  have HO2:=Lib.hid hO2
  have HX:Hid (Blk (w1.alloc (.cells #[.bool true,.slice a1 a c1,.slice none 0 0,.slice none 0 0] 26)) w1.heap.size #[.bool true,.slice a1 a c1,.slice none 0 0,.slice none 0 0] 26):=Lib.hid (Blk.new _ _ _)
  have HM2:=Lib.hid (hm2.alloc (.cells #[.bool true,.slice (some ⟨g2,0,none⟩) (n.entries.length - a) c2,.slice none 0 0,.slice none 0 0] 26))
  have HMM:=Lib.hid (HM0.out.trans (HM1.out.trans HM2.out))
  have HXA:=Lib.hid (HX.out.ext HM2.out)
  have HXB:=Lib.hid (Blk.new w2 #[.bool true,.slice (some ⟨g2,0,none⟩) (n.entries.length - a) c2,.slice none 0 0,.slice none 0 0] 26)
  have hR1:=(HR1.out.ext (HM1.out.trans HM2.out))
  have hR2:=(HR2.out.ext (HM1.out.trans HM2.out))
  have hk0:=cell_alloc hk0 (.cells #[.bool true,.slice (some ⟨g2,0,none⟩) (n.entries.length - a) c2,.slice none 0 0,.slice none 0 0] 26)
  have p0:=HXA.out.cell (o:=0) rfl
  have p1:=HXA.out.cell (o:=1) rfl
  have p2:=HXA.out.cell (o:=2) rfl
  have p3:=HXA.out.cell (o:=3) rfl
  have q0:=HXB.out.cell (o:=0) rfl
  have q1:=HXB.out.cell (o:=1) rfl
  have q2:=HXB.out.cell (o:=2) rfl
  have q3:=HXB.out.cell (o:=3) rfl
  have r0:=hR1.cell (o:=0) rfl
  have r1:=hR1.cell (o:=1) rfl
  have r2:=hR1.cell (o:=2) rfl
  have r3:=hR1.cell (o:=3) rfl
  have rf:=hR1.frozen
  have s0:=hR2.cell (o:=0) rfl
  have s1:=hR2.cell (o:=1) rfl
  have s2:=hR2.cell (o:=2) rfl
  have s3:=hR2.cell (o:=3) rfl
  have sf:=hR2.frozen
  have hl2:w1.heap.size < w2.heap.size:=by have:=hm2.size;simp at this;omega
  have hl3:(0:Int) < ((n.entries.length - a:Nat):Int):=by omega
  have HRA:=Lib.hid hR1
  have HRB:=Lib.hid hR2
  clear hO2 hm2 hR1 hR2
  go_wp2_with fail
  go_region
  go_wp2_with fail
  obtain ⟨X0,hX0⟩:∃ X0,X0=w2.alloc (.cells #[.bool true,.slice (some ⟨g2,0,none⟩) (n.entries.length - a) c2,.slice none 0 0,.slice none 0 0] 26):=⟨_,rfl⟩
  rw [← hX0] at HRA HRB HMM
  have mA:=Mods.set4 (F:=fun k=>k=w.heap.size+1) (Mods.refl _ X0) (R:=w.heap.size+1) (.inr rfl) (.bool true) (.slice a1 a c1) (.slice none 0 0) (.slice none 0 0)
  have hA:=HRA.out.set4 (.bool true) (.slice a1 a c1) (.slice none 0 0) (.slice none 0 0)
  have hB0:=HRB.out.mods mA (by omega)
  have hB:=hB0.set4 (.bool true) (.slice (some ⟨g2,0,none⟩) (n.entries.length - a) c2) (.slice none 0 0) (.slice none 0 0)
  have mB:=Mods.set4 (F:=fun k=>k=w.heap.size+1+1) (Mods.refl _ ((((X0.setCell ⟨w.heap.size+1,0,none⟩ (.bool true)).setCell ⟨w.heap.size+1,1,none⟩ (.slice a1 a c1)).setCell ⟨w.heap.size+1,2,none⟩ (.slice none 0 0)).setCell ⟨w.heap.size+1,3,none⟩ (.slice none 0 0))) (R:=w.heap.size+1+1) (.inr rfl) (.bool true) (.slice (some ⟨g2,0,none⟩) (n.entries.length - a) c2) (.slice none 0 0) (.slice none 0 0)
  have hA2:=hA.mods mB (by omega)
  have hx:=(Mods.set4 (Mods.set4 HMM.out (R:=w.heap.size+1) (.inl (by omega)) (.bool true) (.slice a1 a c1) (.slice none 0 0) (.slice none 0 0)) (R:=w.heap.size+1+1) (.inl (by omega)) (.bool true) (.slice (some ⟨g2,0,none⟩) (n.entries.length - a) c2) (.slice none 0 0) (.slice none 0 0)).drew
  have o1:=(((HO1.out.ext ((Mods.refl _ w1).alloc (.cells #[.bool true,.slice a1 a c1,.slice none 0 0,.slice none 0 0] 26))).ext HM2.out))
  have o2:=HO2.out.ext ((Mods.refl _ w2).alloc (.cells #[.bool true,.slice (some ⟨g2,0,none⟩) (n.entries.length - a) c2,.slice none 0 0,.slice none 0 0] 26))
  rw [← hX0] at o1 o2
  have hb1:=fun g hg=>(o1.lt g hg).1
  have hb2:=fun g hg=>(o2.lt g hg).1
  have o1':=((o1.mods mA (fun g hg=>by have:=hb1 g hg;simp at this;omega)).mods mB (fun g hg=>by have:=hb1 g hg;simp at this;omega)).rebase (base':=w.heap.size) (by simp;omega)
  have o2':=((o2.mods mA (fun g hg=>by have:=hb2 g hg;simp at this;omega)).mods mB (fun g hg=>by have:=hb2 g hg;simp at this;omega)).rebase (base':=w.heap.size) (by simp;omega)
  subst hX0
  refine bodyPost_ret (results_row_tmp_row rfl _ _ (w.heap.size+1) (w.heap.size+1+1) 26 26 _ _ _ rfl hA2.drew rfl hB.drew rfl Tryz.underlying26 rfl Tryz.nodeSz rfl) rfl ?_
  unfold ApartR
  rw [HAP.out]
  exact ⟨_,_,rfl,⟨_,_,_,rfl,o1'.ext (Mods.refl _ _).drew,Own.nil _ _ _ _ _ _,Own.nil _ _ _ _ _ _⟩,⟨_,_,_,rfl,o2'.ext (Mods.refl _ _).drew,Own.nil _ _ _ _ _ _,Own.nil _ _ _ _ _ _⟩,hx⟩
end
end Go.Proofs.YtphafjmdhmpkbaaGreatDoor
