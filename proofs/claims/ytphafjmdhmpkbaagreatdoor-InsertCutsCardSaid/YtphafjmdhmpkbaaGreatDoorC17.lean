/- ref03.Put of a fresh row. | The state of a law of chapter 10: its pager lies in a box. | ref10.Body. | node.writer: num, text. | The reference's tree, built of sorted pairs page by page, as plain Lean. No program in sight. | The reference's tree is a search tree (Tr) of its pairs. Plain. | The reference's tree is a search tree, from the leaves up to the root. Plain. | How many pages the reference's tree has, and that each one fits its block. Plain. | (*node.reader).num, text. | The disk under a pager: Flush; Forget and then Corrupt. | lookup.ready, lookup.check. | What a page that is seen is like: its Id, how many bytes. | what a law's pager() answers. | law13.pager. | space.Fresh. | The reference's pairs of any pairs; the law's, with short values. Plain. -/
import Derived.Test.YtphafjmdhmpkbaaGreatDoorC16
import Derived.Laws.IdiomStrings
import Derived.IntWalk
import Derived.Test.YtphafjmdhmpkbaaGreatDoorC15
import Derived.Test.YtphafjmdhmpkbaaGreatDoorC07
import Derived.Test.YtphafjmdhmpkbaaGreatDoorC13
import Derived.Test.YtphafjmdhmpkbaaGreatDoorC05
import Derived.Test.YtphafjmdhmpkbaaGreatDoorC02
namespace Go.Proofs.YtphafjmdhmpkbaaGreatDoor
open Go.RowKit
theorem leB_snoc:∀ (k n:Nat),leB (k+1) n=leB k n ++ [UInt8.ofNat (n / 256 ^ k)]
  | 0,n=>by simp [leB]
  | k+1,n=>by
    rw [leB,leB_snoc k (n / 256),leB,List.cons_append,Nat.div_div_eq_div_mul,Nat.pow_succ,Nat.mul_comm 256]
theorem leB_len03:∀ (k n:Nat),(leB k n).length=k
  | 0,_=>rfl
  | k+1,n=>by rw [leB,List.length_cons,leB_len03 k]
set_option maxRecDepth 100000 in
theorem Put03_any {F:Nat→Prop} {w:World} (bv:Value) (l:List UInt8) (hb:Sl F w 1 encB bv l) (n W:Nat) (hw:W=1∨W=2∨W=4∨W=8) (hn:n < 256 ^ W) (h64:n < 18446744073709551616) (hlen:l.length≤100000) :
    Calls Tryz.prog 163 #[bv,.int .u64 (n:Int),.int .i64 (W:Int)] w fun e w'=>∃ a c,e=.returned (.tuple #[.slice a (l.length+W) c,.int .i64 0]) ∧
      Own (fun _=>False) w' w.heap.size 5 1 encB (.slice a (l.length+W) c) (l ++ leB W n)∧Ext w w':=by
  have hw8:W≤8:=by omega
  have HB:=Lib.hid hb
  have HN:=Lib.hid hn
  have HW:=Lib.hid hw
  obtain ⟨ba,bc,rfl,i1,i2,i3,i4⟩:=hb
  clear i4 hn hw
  go_enter Tryz.func163, Tryz.ntmps163
  go_wp2_with fail
  refine (Right03_any W HW.out _).mono ?_
  rintro e w1 ⟨rfl,rfl⟩
  go_wp2_with fail
  refine (Fits03_any n W hw8 HN.out h64 _).mono ?_
  rintro e w2 ⟨rfl,hm2⟩
  have HM2:=Lib.hid hm2
  have HSZ:=Lib.hid hm2.size
  clear hm2
  go_wp2_with (at_builtin;refine wpl_app2 Tryz.elB encB_ok rfl _ _ rfl w.heap.size (.slice (some ⟨w2.heap.size,0,none⟩) 0 0) _ ([]:List UInt8) l rfl rfl (Own.made (cur:=#[]) (b:=w2.heap.size) (cap:=0) (l:=([]:List UInt8)) (sz:=1) (enc:=encB) (F:=fun _=>False) (Blk.new w2 #[] 5) HSZ.out (fun f=>f) (by simp) (by simp [maxLen]) rfl rfl encB_ok.len) (HB.out.ext (HM2.out.alloc _)) (by simp;omega) (Nat.le_trans HSZ.out (by simp)) (fun f=>f) ?_;intro a' c' w4 hown hmod hat)
  have HM4:Hid (Ext w w4):=Lib.hid ((HM2.out.alloc (.cells #[] 5)).trans' hmod (fun i hi h=>by have:=HSZ.out;simp [Value.ownBlock] at h;omega))
  have HO4:=Lib.hid hown
  clear hown hmod hat
  go_loopg [1,8,9] W (fun q v1 v8 v9 wr=>∃ (k m:Nat),k+q=W∧v1=.int .u64 m∧v9=.int .i64 k∧m < 18446744073709551616∧Hid (m=n / 256 ^ k)∧Hid (Own (fun _=>False) wr w.heap.size 5 1 encB v8 (l ++ leB k n))∧Hid (Ext w wr))
  case atStart=>exact ⟨0,n,by omega,rfl,rfl,h64,Lib.hid (by simp),Lib.hid (by simpa [leB] using HO4.out),HM4⟩
  case round =>
    obtain ⟨k,m,hk,rfl,rfl,hm,HQ,HO,HM⟩:=hrel
    by_cases hltn:k < W
    · obtain ⟨R,hR⟩:∃ R,R=l ++ leB k n:=⟨_,rfl⟩
      have hfl:R.length=l.length+k:=by rw [hR,List.length_append,leB_len03]
      have HS:Hid (l ++ leB (k+1) n=R ++ [UInt8.ofNat m]):=Lib.hid (by rw [leB_snoc,HQ.out,hR,List.append_assoc])
      rw [← hR] at HO
      clear hR
      obtain ⟨a0,c0,rfl,_⟩:=HO.out.form
      have HSZ2:=Lib.hid HM.out.size
      have he:((UInt8.ofNat m).toNat:Int)=(m:Int) % 256:=by rw [UInt8.toNat_ofNat'];omega
      obtain ⟨x,hx⟩:∃ x,x=UInt8.ofNat m:=⟨_,rfl⟩
      rw [← hx] at HS he
      clear hx
      go_wp2_with (at_builtin;refine wpl_app2 Tryz.elB encB_ok rfl _ _ rfl w.heap.size (.slice a0 R.length c0) (.slice (some ⟨wr.heap.size,0,none⟩) 1 1) R [x] rfl rfl (HO.out.ext ((Mods.refl _ _).alloc _)) (Sl.one (F:=fun _=>False) (x:=x) (t := 5) (fz:=(0,0)) (by rw [show (encB x).toArray=#[.int .u8 ((m:Int) % 256)] by simp [encB,he]];exact heap_at rfl) (fun f=>f)) (by simp [hfl];omega) (Nat.le_trans HSZ2.out (by simp)) (fun f=>f) ?_;intro a5 c5 w5 hown hmod hat)
      go_roundg (gk - 1)
      case measure=>omega
      case rel=>exact ⟨k+1,m / 256,by omega,by go_num,by go_num,by omega,Lib.hid (by rw [HQ.out,Nat.div_div_eq_div_mul,Nat.pow_succ]),Lib.hid (by rw [HS.out];simpa [hfl] using hown),Lib.hid ((HM.out.alloc _).trans' hmod (fun i hi h=>by have:=(HO.out.lt i h).1;omega))⟩
    · obtain rfl:k=W:=by omega
      have hfl:(l ++ leB k n).length=l.length+k:=by rw [List.length_append,leB_len03]
      obtain ⟨a0,c0,rfl,_⟩:=HO.out.form
      go_wp2_with fail
      go_ret2
      exact ⟨a0,c0,by rw [← hfl];rfl,hfl ▸ HO.out,HM.out⟩
section
variable {ad:Nat→Addr} {w0 w w':World} {B c s:Nat} {P P' F F':Nat→Prop} {G G':GA} {l l':List Nat}
end
theorem conv_bytes {P:Program} {src dst e:TypeId} (hs:P.underlying src=some .string) (hd:P.underlying dst=some (.slice e)) (he:P.underlying e=some (.int .u8)) (w:World) (s:ByteArray) (z:Nat) (hz:z=s.size) (hl:s.size≤1000000) :
    ∃ cap w',(convert src dst (.string s)).run P w=.ok (.slice (some ⟨w.heap.size,0,none⟩) z cap) w'∧Ext w w'∧Sl (fun _=>False) w' 1 encB (.slice (some ⟨w.heap.size,0,none⟩) z cap) s.data.toList:=by
  subst hz
  refine ⟨_,_,run_bytes_of_string w src dst e s hs hd he,((Mods.refl _ w).drew).alloc _,_,_,by rw [size_toList],?_,?_,by rw [size_toList];omega,?_⟩
  · rw [size_toList];exact grownCap_ge w _ 0 e
  · exact grownCap_le_maxLen w _ 0 e (by unfold maxLen;omega)
  · refine .inr ⟨w.heap.size,0,rfl,by simp,fun f=>f,fun i x hx j u hu=>?_⟩
    have hil:=(List.getElem?_eq_some_iff.1 hx).1
    rw [size_toList] at hil
    match j,hu with
    | 0,hu =>
      simp only [encB,List.getElem?_cons_zero,Option.some.injEq] at hu
      subst hu
      refine (cells_of_block (b:=w.heap.size) (heap_alloc_new w.drew _) _).trans ?_
      simp only [Nat.zero_add,Nat.mul_one,Nat.add_zero]
      unfold bytesRow
      rw [Array.getElem?_append_left (by rw [Array.size_map];exact hil),Array.getElem?_map]
      have h1:s.data[i]? = some x:=by rw [← Array.getElem?_toList];exact hx
      rw [h1]
      rfl
    | j+1,hu=>simp [encB] at hu
theorem wpl_app_str {P:Program} {w:World} {t u e:TypeId} (T:ElT P t e (.int .u8 0) 1 1) (hu:P.underlying u=some .string)
    {ops:Array Oper} {rest:List Oper} {o:Oper} {a:Act} {Q:Exit→Act→World→Prop} (hgd:o.guard=none) (sx x:Operand)
    (ho:o.op=.call { callee:=.builtin .append,args:=#[sx,x],argTypes:=#[t,u] })
    (base:Nat) (v:Value) (l:List UInt8) (s:ByteArray) (hv:a.eval sx=v) (hx:a.eval x=.string s) (hown:Own (fun _=>False) w base e 1 encB v l) (hb:l.length+s.size≤140737488355328) (hbase:base≤w.heap.size)
    (h:∀ a' c' w',Own (fun _=>False) w' base e 1 encB (.slice a' (l.length+s.size) c') (l ++ s.data.toList)→w.grownBy w' v.ownBlock→wpList P ops Q rest (a.put o.dst (.slice a' (l.length+s.size) c')) w') :
    wpList P ops Q (o :: rest) a w:=by
  refine wpList_plain hgd fun K hK=>?_
  obtain ⟨i,hi,hz,hs1,hb1⟩:=info3 T.info
  obtain ⟨v',w',hr,h2,h3,_⟩:=Go.Lib.run_append_own_string (P:=P) (w:=w) base t u o.type e i T.under hu hi hz hs1 hb1 v l.length _ hown.1 s (by simp only [maxLen];omega) hb hbase
  have hO:Own (fun _=>False) w' base e 1 encB v' (l ++ s.data.toList):=⟨by
    rw [List.length_append,size_toList,List.flatMap_append,← strCells_enc];exact h2,fun _ _ f=>f⟩
  obtain ⟨a',c',hvv,_⟩:=hO.form
  rw [List.length_append,size_toList] at hvv
  subst hvv
  unfold Oper.wp execOp
  simp only [ho,resolve,invoke,builtin,Sem.run_bind,Sem.run_pure,Result.andThen_ok,List.map_toArray,List.map_cons,List.map_nil,hv,hx,hr]
  exact hK _ _ (h a' c' w' hO h3)
structure WrR (base:Nat) (w:World) (B:Nat) (l:List UInt8):Prop where
  box:∃ a c,Blk w B #[.slice a l.length c,.nilIface] 260 ∧ Own (fun _=>False) w base 5 1 encB (.slice a l.length c) l
  ge:base≤B
def WFr (B:Nat) (w w':World):Prop:=∀ (b:Nat) (c:Array Value) (t:TypeId),b ≠ B→t ≠ 5 → Blk w b c t→Blk w' b c t
section
variable {F:Nat→Prop} {ad:Nat→Addr} {w w':World} {base B:Nat} {l:List UInt8}
theorem Own.notB {e t:TypeId} {α:Type} {F:Nat→Prop} {enc:α→List Value} {sz:Nat} {v:Value} {x:List α} {B:Nat} {c:Array Value} (h:Own F w base e sz enc v x) (hB:Blk w B c t) (ht:t ≠ e):∀ g,v.ownBlock=some g→g ≠ B:=by
  intro g hg he
  subst he
  rcases h.1.2 with ⟨rfl,_⟩ | ⟨g',cap,cur,rfl,hbg,hg',_⟩
  · simp [Value.ownBlock] at hg
  · simp [Value.ownBlock] at hg
    subst hg
    unfold Blk at hB
    rw [hg'] at hB
    injection hB with hB
    injection hB with h1 h2
    exact ht h2.symm
set_option maxRecDepth 100000 in
theorem wnum_any (hL:Env F ad w) (hF:∀ k,F k→k < base) (h:WrR base w B l) (n W:Nat) (hW:W=1∨W=2∨W=4) (hn:n < 256 ^ W) (hlen:l.length≤100000) :
    Calls Tryz.prog 174 #[.pointer (some ⟨B,0,none⟩),.int .i64 (n:Int),.int .i64 (W:Int)] w fun e w'=>e=.returned (.tuple #[])∧WrR base w' B (l ++ leB W n)∧Mods (fun k=>base≤k) w w'∧WFr B w w':=by
  obtain ⟨⟨a,c,hB,hO⟩,hge⟩:=h
  have hn2:n < 4294967296:=by
    rcases hW with rfl | rfl | rfl <;> simp at hn <;> omega
  have b0:=hB.cell (o:=0) (v:=.slice a l.length c) rfl
  have b1:=hB.cell (o:=1) (v:=.nilIface) rfl
  have HSL:Hid (Sl F w 1 encB (.slice a l.length c) l):=Lib.hid (Own.sl (F:=F) ⟨hO.1,fun g hg f=>by have:=hO.lt g hg;have:=hF g f;omega⟩ encB_ok.len (by omega))
  have HB:=Lib.hid hB
  have HL:=Lib.hid hL
  have HN:=Lib.hid hn
  have HW:=Lib.hid hW
  have HBL:=Lib.hid hB.lt
  clear hB hO hL hF hn hW
  go_enter Tryz.func174, Tryz.ntmps174
  go_wp2_with fail
  refine (Put_any HL.out _ l HSL.out n W (by have:=HW.out;omega) HN.out hlen).mono ?_
  rintro e w1 ⟨a1,c1,rfl,hO1,hm1⟩
  have hB1:=HB.out.ext hm1
  have f0:=hB1.frozen 0
  have f1:=hB1.frozen 1
  have z0:=hB1.cell (o:=0) rfl
  have z1:=hB1.cell (o:=1) rfl
  have HB1:=Lib.hid hB1
  have hsz:=hm1.size
  have HM:Hid (Mods (fun k=>base≤k) w ((w1.setCell ⟨B,0,none⟩ (.slice a1 (l.length+W) c1)).setCell ⟨B,1,none⟩ .nilIface)):=Lib.hid ((hm1.ext.setCell (p:=⟨B,0,none⟩) (.inr hge) _).setCell (p:=⟨B,1,none⟩) (.inr hge) _)
  have HO1:Hid (Own (fun _=>False) ((w1.setCell ⟨B,0,none⟩ (.slice a1 (l.length+W) c1)).setCell ⟨B,1,none⟩ .nilIface) base 5 1 encB (.slice a1 (l.length+W) c1) (l ++ leB W n)):=Lib.hid (by
    have h1:Own (fun _=>False) w1 base 5 1 encB (.slice a1 (l.length+W) c1) (l ++ leB W n):=Own.rebase ⟨hO1.1,fun _ _ f=>f⟩ (by have:=HBL.out;omega)
    exact h1.mods (((Mods.refl (fun k=>k=B) w1).setCell (F:=fun k=>k=B) (p:=⟨B,0,none⟩) (.inr rfl) _).setCell (F:=fun k=>k=B) (p:=⟨B,1,none⟩) (.inr rfl) _) (fun g hg=>Own.notB h1 hB1 (by decide) g hg))
  have HFR:Hid (WFr B w ((w1.setCell ⟨B,0,none⟩ (.slice a1 (l.length+W) c1)).setCell ⟨B,1,none⟩ .nilIface)):=Lib.hid (fun b c t h1 _ h3=>((h3.ext hm1).set_other (p:=⟨B,0,none⟩) h1 _).set_other (p:=⟨B,1,none⟩) h1 _)
  clear hm1 hB1 hO1
  go_wp2_with fail
  go_end0
  exact ⟨rfl,⟨⟨a1,c1,by rw [List.length_append,leB_length];exact (HB1.out.set 0 _).set 1 _,by rw [List.length_append,leB_length];exact HO1.out⟩,hge⟩,HM.out,HFR.out⟩
set_option maxRecDepth 100000 in
theorem wtext_any (hL:Env F ad w) (hF:∀ k,F k→k < base) (h:WrR base w B l) (s:ByteArray) (hs:s.size < 256) (hlen:l.length≤100000) :
    Calls Tryz.prog 175 #[.pointer (some ⟨B,0,none⟩),.string s] w fun e w'=>e=.returned (.tuple #[])∧WrR base w' B (l ++ bytesT s)∧Mods (fun k=>base≤k) w w'∧WFr B w w':=by
  have HL:=Lib.hid hL
  have HF:=Lib.hid hF
  have HH:=Lib.hid h
  have HW0:=Lib.hid h.box
  clear hL hF h
  go_enter Tryz.func175, Tryz.ntmps175
  go_wp2_with fail
  refine (wnum_any HL.out HF.out HH.out s.size 1 (.inl rfl) (by simpa using hs) hlen).mono ?_
  rintro e w1 ⟨rfl,hR,hm,hfr⟩
  have HFR:=Lib.hid hfr
  clear hfr
  obtain ⟨⟨a,c,hB,hO⟩,hge⟩:=hR
  have hbb:=hB.lt
  have hll:(l ++ leB 1 s.size).length=l.length+1:=by rw [List.length_append,leB_length]
  have HB:=Lib.hid hB
  have HO:=Lib.hid hO
  have HM:=Lib.hid hm
  have HLL:=Lib.hid hll
  generalize hq:l ++ leB 1 s.size=q at *
  have HQ:=Lib.hid hq
  clear hB hO hm hll hq
  have b0:=HB.out.cell (o:=0) (v:=.slice a q.length c) rfl
  have f0:=HB.out.frozen 0
  go_wp2_with (at_builtin;refine wpl_app_str Tryz.elB Tryz.underlying9 rfl _ _ rfl base _ q s rfl rfl HO.out (by rw [HLL.out];omega) (by omega) ?_;intro a2 c2 w2 hO2 hg2;have hgm:=Mods.of_grown hg2;have hB2:Blk w2 B #[.slice a q.length c,.nilIface] 260:=HB.out.mods hgm (fun e=>Own.notB HO.out HB.out (by decide) B e rfl);have z0:=hB2.cell (o:=0) (v:=.slice a q.length c) rfl;have zf:=hB2.frozen 0)
  have HB2:=Lib.hid hB2
  have HM2:Hid (Mods (fun k=>base≤k) w (w2.setCell ⟨B,0,none⟩ (.slice a2 (q.length+s.size) c2))):=Lib.hid (((HM.out.trans (hgm.mono (fun k hk=>(HO.out.lt k hk).1)))).setCell (p:=⟨B,0,none⟩) (.inr hge) _)
  have HO2:Hid (Own (fun _=>False) (w2.setCell ⟨B,0,none⟩ (.slice a2 (q.length+s.size) c2)) base 5 1 encB (.slice a2 (q.length+s.size) c2) (q ++ s.data.toList)):=Lib.hid
    (hO2.mods ((Mods.refl _ w2).setCell (F:=fun k=>k=B) (p:=⟨B,0,none⟩) (.inr rfl) _) (fun g hg=>Own.notB hO2 hB2 (by decide) g hg))
  have HFR2:Hid (WFr B w (w2.setCell ⟨B,0,none⟩ (.slice a2 (q.length+s.size) c2))):=Lib.hid (fun b c t h1 h2 h3=>((HFR.out b c t h1 h2 h3).mods hgm (fun e=>Own.notB HO.out (HFR.out b c t h1 h2 h3) h2 b e rfl)).set_other (p:=⟨B,0,none⟩) h1 _)
  clear hB2 hO2 hg2 hgm
  go_end0
  have e1:l ++ bytesT s=q ++ s.data.toList:=by rw [← HQ.out];unfold bytesT;rw [List.append_assoc]
  have e2:(q ++ s.data.toList).length=q.length+s.size:=by rw [List.length_append,size_toList]
  exact ⟨rfl,⟨⟨a2,c2,by rw [e1,e2];exact HB2.out.set 0 _,by rw [e1,e2];exact HO2.out⟩,hge⟩,HM2.out,HFR2.out⟩
end
/-! ### what stands on the pages -/
theorem bytesT_len (s:ByteArray):(bytesT s).length=1+s.size:=by
  unfold bytesT
  rw [List.length_append,leB_length,Array.length_toList];rfl
theorem bytesE_len {e:EntryA} (h:rightE e=true):(bytesE e).length≤59:=by
  unfold rightE at h
  simp only [Bool.and_eq_true] at h
  have hk:=(keyB_iff e.key).1 h.1
  have h2:=h.2
  unfold bytesE
  rw [List.length_append,bytesT_len]
  by_cases hc:e.chain=0
  · rw [if_pos hc] at h2 ⊢
    simp only [Bool.and_eq_true,decide_eq_true_eq] at h2
    rw [List.length_append,leB_length,bytesT_len];omega
  · rw [if_neg hc]
    simp only [List.length_append,leB_length];omega
theorem flat_len {α:Type} (g:α→List UInt8) (M:Nat):∀ (l:List α),(∀ x ∈ l,(g x).length≤M)→(l.flatMap g).length≤M * l.length
  | [],_=>by simp
  | x :: l,h=>by
    have h1:=flat_len g M l (fun y hy=>h y (List.mem_cons_of_mem _ hy))
    have h2:=h x List.mem_cons_self
    rw [List.flatMap_cons,List.length_append,List.length_cons,Nat.mul_succ];omega
theorem bytesK_len {p:ByteArray × Int} (h:keyB p.1=true):(bytesK p).length≤37:=by
  have hk:=(keyB_iff p.1).1 h
  unfold bytesK
  rw [List.length_append,bytesT_len,leB_length];omega
structure RdR (F:Nat→Prop) (w:World) (B:Nat) (bv:Value) (b:List UInt8) (r:RdA):Prop where
  own:Blk w B #[bv,.int .i64 r.at_,.bool r.bad] 311
  sl:Sl F w 1 encB bv b
  mem:F B
section
variable {F:Nat→Prop} {ad:Nat→Addr} {w w':World} {B:Nat} {bv:Value} {b:List UInt8} {r:RdA}
theorem takeF_small (b:List UInt8) (p:Int) (W:Nat) (hW:W=1∨W=2∨W=4):(takeF b p W).1 < 4294967296:=by
  unfold takeF
  split
  · simp
  · split
    · simp
    · have:=ofLe_lt ((b.drop p.toNat).take W)
      have h2:((b.drop p.toNat).take W).length≤4:=Nat.le_trans (List.length_take_le _ _) (by omega)
      have h3:(256:Nat) ^ ((b.drop p.toNat).take W).length≤256 ^ 4:=Nat.pow_le_pow_right (by omega) h2
      simp only
      omega
theorem RdR.turn (h:RdR F w B bv b r) (r':RdA) (m:Mods (fun k=>k=B) w w') (hB:Blk w' B #[bv,.int .i64 r'.at_,.bool r'.bad] 311):RdR F w' B bv b r' :=
  ⟨hB,h.sl.mods (m.mono (fun k e=>by subst e;exact h.mem)),h.mem⟩
set_option maxRecDepth 100000 in
theorem rdNum_any (hL:Env F ad w) (h:RdR F w B bv b r) (W:Nat) (hW:W=1∨W=2∨W=4) (h0:0≤r.at_) (h1:r.at_≤1000000000000) :
    Calls Tryz.prog 223 #[.pointer (some ⟨B,0,none⟩),.int .i64 (W:Int)] w fun e w'=>e=.returned (.int .i64 ((rdNum b r W).1:Nat))∧RdR F w' B bv b (rdNum b r W).2∧Mods (fun k=>k=B) w w':=by
  obtain ⟨a,bd⟩:=r
  simp only at h0 h1
  have hsm:=takeF_small b a W hW
  obtain ⟨sa,cap,rfl,hz,_,_,_⟩:=_root_.id h.sl
  obtain ⟨n,hn⟩:∃ n,n=(takeF b a W).1:=⟨_,rfl⟩
  rw [← hn] at hsm
  have HN:=Lib.hid hn
  have HH:=Lib.hid h
  have HLd:=Lib.hid (hL.mods (Mods.refl _ w).drew)
  have HSd:=Lib.hid (h.sl.mods (Mods.refl _ w).drew)
  have HW:=Lib.hid hW
  have hW4:W≤4:=by omega
  have c0:=h.own.cell (o:=0) (v:=.slice sa b.length cap) rfl
  have c1:=h.own.cell (o:=1) (v:=.int .i64 a) rfl
  have c2:=h.own.cell (o:=2) (v:=.bool bd) rfl
  clear h hL hW hn
  go_enter Tryz.func223, Tryz.ntmps223
  go_wp2_with fail
  go_region_held3 (fun w'=>w'.cell? ⟨B,0,none⟩=some (.slice sa b.length cap)∧w'.cell? ⟨B,1,none⟩=some (.int .i64 a))
    (first | (with_reducible exact ⟨x0,x1⟩) | go_keep)
    (first
      | (go_at_call 234;refine (Take_any HLd.out _ b HSd.out a W (by have:=HW.out;omega)).mono ?_;rintro e w1 ⟨ev,rfl,hE,hm⟩;rw [← HN.out];have x0:=cellE hm c0;have x1:=cellE hm c1))
  have x2:=cellE hm c2
  have HB:=Lib.hid ((HH.out.own.drew).ext hm)
  have f1:=HB.out.frozen 1
  have f2:=HB.out.frozen 2
  have HM:=Lib.hid (hm.ofDrew)
  have HM2:Hid (∀ x:Bool,Mods (fun k=>k=B) w ((w1.setCell ⟨B,2,none⟩ (.bool x)).setCell ⟨B,1,none⟩ (.int .i64 (a+W)))) :=
    Lib.hid fun x=>HM.out.ext.trans ((Mods.at (fun k=>k=B) w1 B 2 _ rfl).trans (Mods.at (fun k=>k=B) _ B 1 _ rfl))
  clear c0 c1 c2 hm
  cases hT:(takeF b a W).2 with
  | none =>
    rw [hT] at hE
    cases hE
    have HR:Hid (rdNum b ⟨a,bd⟩ W=(n,⟨a+W,bd⟩)):=Lib.hid (by unfold rdNum;simp only [hT,← HN.out];simp)
    clear hT
    cases bd
    all_goals
      go_wp2_with fail
      go_ret
      exact ⟨by rw [HR.out];rfl,by rw [HR.out];exact HH.out.turn _ (HM2.out _) ((HB.out.set 2 _).set 1 _),HM2.out _⟩
  | some er =>
    rw [hT] at hE
    obtain ⟨el,ek⟩:=er
    obtain ⟨f,rfl,hE⟩:=hE
    have HR:Hid (rdNum b ⟨a,bd⟩ W=(n,⟨a+W,true⟩)):=Lib.hid (by unfold rdNum;simp only [hT,← HN.out];simp)
    clear hT hE
    cases bd
    all_goals
      go_wp2_with fail
      go_ret
      exact ⟨by rw [HR.out];rfl,by rw [HR.out];exact HH.out.turn _ (HM2.out _) ((HB.out.set 2 _).set 1 _),HM2.out _⟩
end
section
variable {P P' F F':Nat→Prop} {ad:Nat→Addr} {w w':World} {c s:Nat} {G G':GA} {l l':List Nat}
end
section
variable {P P' F F':Nat→Prop} {ad:Nat→Addr} {w w':World} {c s:Nat}
theorem ready_ok (op:ByteArray) (gen:Nat) : Calls Tryz.prog 88 #[.string op,pgV c s gen] w fun e w'=>e=.returned .nilIface∧Ext w w':=by
  unfold pgV
  have m0:Ext w (w.alloc (.cells #[.pointer (some ⟨c,0,none⟩),.pointer (some ⟨s,0,none⟩),.int .u64 (gen:Int)] 45)):=(Mods.refl _ w).alloc _
  have M0:=Lib.hid m0
  clear m0
  go_enter Tryz.func88, Tryz.ntmps88
  go_wp2_with fail
  go_ret
  exact ⟨rfl,M0.out⟩
def lkCheck (key:ByteArray):Option Err:=if keyB key=true then none else some ([-1],2)
theorem lkCheck_any (hL:Env F ad w) (op:ByteArray) (gen:Nat) (key:ByteArray) : Calls Tryz.prog 100 #[.string op,pgV c s gen,.string key] w fun e w'=>∃ ev,e=.returned ev∧ErrR F ad w' ev (lkCheck key)∧Ext w w':=by
  have HL:=Lib.hid hL
  have hsz:=hL.size
  have HZ:=Lib.hid hsz
  clear hL hsz
  unfold pgV
  have HR:=fun w'=>ready_ok (c:=c) (s:=s) (w:=w') op gen
  unfold pgV at HR
  cases hk:keyB key with
  | true =>
    have HK:Hid (lkCheck key=none):=Lib.hid (by unfold lkCheck;rw [if_pos hk])
    go_enter Tryz.func100, Tryz.ntmps100
    go_wp2_with fail
    refine (HR _).mono ?_
    rintro e w1 ⟨rfl,hm1⟩
    have HM1:=Lib.hid hm1
    clear hm1
    go_wp2_with fail
    refine (key_any key _).mono ?_
    rintro e w2 ⟨rfl,rfl⟩
    rw [hk]
    go_wp2_with fail
    go_ret
    exact ⟨_,rfl,by rw [HK.out];rfl,by first | exact HM1.out | exact ((Mods.refl _ w).alloc _).trans HM1.out⟩
  | false =>
    have HK:Hid (lkCheck key=some ([-1],2)):=Lib.hid (by unfold lkCheck;rw [hk];rfl)
    go_enter Tryz.func100, Tryz.ntmps100
    go_wp2_with fail
    refine (HR _).mono ?_
    rintro e w1 ⟨rfl,hm1⟩
    have hE1:Ext w w1:=by first | exact hm1 | exact ((Mods.refl _ w).alloc _).trans hm1
    have hL1:=HL.out.mods hE1.ext
    have g2:=hL1.c2
    have hz1:=hL1.size
    have HM1:=Lib.hid hE1
    have HL1:=Lib.hid hL1
    clear hm1 hE1 hL1
    go_wp2_with fail
    refine (key_any key _).mono ?_
    rintro e w2 ⟨rfl,rfl⟩
    rw [hk]
    go_wp2_with fail
    refine (new_any HL1.out _ _ [] 2 (.sent 2 (by decide) (by decide))).mono ?_
    rintro e w3 ⟨f,rfl,hE,hm⟩
    have HE:=Lib.hid hE
    have HM:=Lib.hid hm
    clear hE hm
    go_wp2_with fail
    go_ret
    exact ⟨_,rfl,by rw [HK.out];exact ⟨f,rfl,HE.out⟩,HM1.out.trans HM.out⟩
end
theorem vw_ok {C:CaA} (hI:CaInv C) {id:Nat} (hid:id < C.disk.blocks) {p:PageA} (h:C.vw id=.inl p):p.id=(id:Int)∧pgOk p C.disk.size:=by
  unfold CaA.vw at h
  split at h
  · rename_i s hs
    injection h with h
    subst h
    have hm:=List.mem_of_find?_eq_some hs
    have hh:=List.find?_some hs
    obtain ⟨i,hi,e⟩:=List.getElem_of_mem hm
    have hi2:C.slots[i]? = some s:=by rw [← e];exact List.getElem?_eq_getElem hi
    have hf:s.full=true∧s.page.id=(id:Int):=by
      cases hfl:s.full with
      | false=>rw [not_has (.inl hfl)] at hh;cases hh
      | true =>
        by_cases e:s.page.id=(id:Int)
        · exact ⟨rfl,e⟩
        · rw [not_has (.inr e)] at hh;cases hh
    exact ⟨hf.2,(hI.page i s hi2 hf.1).2.2⟩
  · have hl:=hI.len id hid
    unfold openAtP at h
    split at h
    · cases h
    · rename_i h1
      split at h
      · cases h
      · rename_i h2
        injection h with h
        subst h
        simp only [ne_eq,Decidable.not_not] at h2
        unfold openB at h1
        simp only [Bool.not_eq_false,Bool.and_eq_true,decide_eq_true_eq] at h1
        refine ⟨h2,?_,readP_gen _⟩
        rw [← hl]
        exact h1.1
section
variable {P F:Nat→Prop} {ad:Nat→Addr} {w:World} {c s:Nat} {G:GA} {l:List Nat}
theorem PgR.page (h:PgR F w P c s G l) {id:Nat} (hid:id < G.blocks) {p:PageA} (hv:G.view id=some (.inl p)):p.id=(id:Int)∧pgOk p G.size:=by
  obtain ⟨d,sb,bvs,Pd,b2,C,h1,h2,h3,h4,h5,h6,h7⟩:=h
  have:=vw_ok h2 (by rw [h3.blocks];exact hid) (h3.view id _ hv)
  rw [h3.size] at this
  exact this
theorem PgR.got (h:PgR F w P c s G l) {id:Int} {p:PageA} (hv:G.get id=.inl p):p.id=id∧pgOk p G.size∧p.body.length≤1000:=by
  unfold GA.get at hv
  split at hv
  · cases hv
  · rename_i hc
    unfold GA.check at hc
    split at hc
    · cases hc
    · rename_i hr
      split at hv
      · rename_i q hq
        injection hv with hv
        subst hv
        obtain ⟨k1,k2⟩:=h.page (id:=id.toNat) (by omega) hq
        have:=(pgCheck_none k2.1).2.2.2.2.2
        have:=h.lim
        exact ⟨by omega,k2,by omega⟩
      · cases hv
      · cases hv
end
def PagerG (ad:Nat→Addr) (w:World) (n g:Nat) (e:Ending) (w':World):Prop :=
  ∃ (c s:Nat) (P F:Nat→Prop),e=.returned (.tuple #[pgV c s g,.bool true])∧PgR F w' P c s (G0 n) (spNew n)∧Nxt NoB P NoB F ad w w'
def PagerH (F0:Nat→Prop) (ad:Nat→Addr) (w:World) (n g:Nat) (e:Ending) (w':World):Prop :=
  ∃ (c s:Nat) (P F:Nat→Prop),e=.returned (.tuple #[pgV c s g,.bool true])∧PgR F w' P c s (G0 n) (spNew n)∧Nxt NoB P F0 F ad w w'
set_option maxRecDepth 100000 in
theorem pager13F_any {F0:Nat→Prop} {ad:Nat→Addr} {w:World} (hL:Env F0 ad w) (n:Nat) (h8:8≤n) (h256:n≤256) : Calls Tryz.prog 24 #[.int .i64 (n:Int)] w (PagerH F0 ad w n 5):=by
  have m0:Ext w (w.alloc (.cells #[.pointer none,.pointer none,.int .u64 0] 45)):=(Mods.refl _ w).alloc _
  have HL:=Lib.hid (hL.withR m0 (by simp))
  have HB0:=Lib.hid (Blk.new w #[.pointer none,.pointer none,.int .u64 0] 45)
  have HL0:=Lib.hid hL
  have HM0:=Lib.hid m0
  clear hL m0
  go_enter Tryz.func24, Tryz.ntmps24
  go_wp2_with fail
  refine (dkNew_ok n 256 h8 h256 (by omega) (by omega)).mono ?_
  rintro e w1 ⟨d,Pd,rfl,hD,hn,hm⟩
  have HN1:=Lib.hid (Nxt.of (P:=NoB) (P':=Pd) HL.out (fun _ h=>h.elim) ⟨hm,fun k hk h=>by have:=hn k h;omega,hD.bd⟩)
  have HD:=Lib.hid hD
  have HB1:=Lib.hid (HB0.out.ext hm)
  have hrl:=HB1.out.lt
  clear hD hn hm
  go_wp2_with fail
  refine (caNew_ok HN1.out.env (fun _ h=>.inr h) HD.out 5 (by omega) (by omega)).mono ?_
  rintro e w2 ⟨c,sb,bvs,F2,rfl,hC,hN2⟩
  have HC:=Lib.hid hC
  have HN2:=Lib.hid (HN1.out.trans hN2)
  have hrl2:=Nat.lt_of_lt_of_le hrl hN2.size
  clear hC hN2
  go_wp2_with fail
  refine (spNew_any n h8 h256).mono ?_
  rintro e w3 ⟨s,b2,rfl,hS,h1,h2,hm3⟩
  obtain ⟨P,F,hG,hN⟩:=PgR.made (s:=s) (b2:=b2) h8 h256 (q:=5) (by omega) (by omega) HC.out HN2.out hS hm3 h1 h2
  have rb:=hN.blk HB0.out (fun f=>f)
  have r0:=rb.cell (o:=0) rfl
  have r1:=rb.cell (o:=1) rfl
  have r2:=rb.cell (o:=2) rfl
  have rf:=rb.frozen
  have hR:∀ k,P k→k ≠ w.heap.size:=fun k hk e=>by
    subst e;exact hN.stp.old _ (by simp) hk
  have mR:Mods (fun k=>k=w.heap.size) w3 (((w3.setCell ⟨w.heap.size,0,none⟩ (.pointer (some ⟨c,0,none⟩))).setCell ⟨w.heap.size,1,none⟩ (.pointer (some ⟨s,0,none⟩))).setCell ⟨w.heap.size,2,none⟩ (.int .u64 5)):=Mods.set3 (F:=fun k=>k=w.heap.size) (Mods.refl _ w3) (.inr rfl) _ _ _
  have hG4:=hG.plus (F':=F) mR hR (fun k hk=>hN.grow k (.inr hk)) (fun _ _ h=>h)
  have HG:=Lib.hid hG4
  have HN:Hid (Nxt NoB P F0 F ad w _):=Lib.hid ⟨⟨(Mods.set3 (HM0.out.trans hN.stp.mods) (.inl (Nat.le_refl w.heap.size)) (.pointer (some ⟨c,0,none⟩)) (.pointer (some ⟨s,0,none⟩)) (.int .u64 5)),fun k hk hp=>hN.stp.old k (Nat.lt_of_lt_of_le hk HM0.out.size) hp,fun k hk=>Nat.lt_of_lt_of_le (hN.stp.bd k hk) mR.size⟩,
    hN.sub,fun k h=>hN.grow k (.inl h),fun k hk hf=>(hN.oldF k (Nat.lt_of_lt_of_le hk HM0.out.size) hf).elim id (fun e=>by omega),hN.env.mods (mR.mono (fun k hk=>hN.grow k (.inr hk)))⟩
  have HBR:=Lib.hid (Blk.set3 rb (.pointer (some ⟨c,0,none⟩)) (.pointer (some ⟨s,0,none⟩)) (.int .u64 5))
  clear hS h1 h2 hm3 hG hN hG4 mR hR rb
  go_wp2_with fail
  refine bodyPost_ret (results_row_tmp rfl _ _ w.heap.size 45 #[.pointer (some ⟨c,0,none⟩),.pointer (some ⟨s,0,none⟩),.int .u64 5] _ rfl HBR.out Tryz.underlying45 rfl Tryz.pagerSize) rfl ?_
  exact ⟨c,s,P,F,rfl,HG.out,HN.out⟩
theorem pager13_any {ad:Nat→Addr} {w:World} (hL:Env NoB ad w) (n:Nat) (h8:8≤n) (h256:n≤256) : Calls Tryz.prog 24 #[.int .i64 (n:Int)] w (PagerG ad w n 5):=pager13F_any hL n h8 h256
def spFresh (l:List Nat) (id:Int):Bool:=decide (0≤id) && decide (l[id.toNat]? = some 2)
theorem Fresh_any (w:World) (b b2:Nat) (l:List Nat) (h:SpR w b b2 l) (id:Int) :
    Calls Tryz.prog 176 #[.pointer (some ⟨b,0,none⟩),.int .i64 id] w fun e w'=>e=.returned (.bool (spFresh l id))∧w=w':=by
  have c0:=h.own.cell (o:=0) (v:=.slice (some ⟨b2,0,none⟩) l.length l.length) rfl
  have hl:=h.len
  have hl2:=h.len2
  by_cases h0:0≤id
  · obtain ⟨i,rfl⟩:∃ i:Nat,id=i:=⟨id.toNat,by omega⟩
    by_cases h1:i < l.length
    · obtain ⟨x,hx⟩:∃ x,l[i]? = some x:=⟨_,List.getElem?_eq_getElem h1⟩
      have c1:=h.row.cell (spCells_at l i x hx)
      have HR:Hid (spFresh l (i:Int)=decide (x=2)):=Lib.hid (by
        unfold spFresh;rw [decide_eq_true (by omega),Int.toNat_natCast,hx];simp)
      have h2:(i:Int) < (l.length:Int):=by omega
      clear h hx h0 h1
      by_cases hx2:x=2
      · subst hx2
        go_enter Tryz.func176, Tryz.ntmps176
        go_wp2
        go_ret
        exact ⟨by rw [HR.out];rfl,rfl⟩
      · rw [decide_eq_false hx2] at HR
        have hx3:¬ (x:Int)=2:=by omega
        clear hx2
        go_enter Tryz.func176, Tryz.ntmps176
        go_wp2
        go_ret
        exact ⟨by rw [HR.out];simp [hx3],rfl⟩
    · have HR:Hid (spFresh l (i:Int)=false):=Lib.hid (by
        unfold spFresh;rw [Int.toNat_natCast,List.getElem?_eq_none_iff.2 (by omega)];simp)
      have h2:¬ (i:Int) < (l.length:Int):=by omega
      clear h h0 h1
      go_enter Tryz.func176, Tryz.ntmps176
      go_wp2
      go_ret
      exact ⟨by rw [HR.out];rfl,rfl⟩
  · have HR:Hid (spFresh l id=false):=Lib.hid (by unfold spFresh;rw [decide_eq_false h0];rfl)
    clear h
    go_enter Tryz.func176, Tryz.ntmps176
    go_wp2
    go_ret
    exact ⟨by rw [HR.out];rfl,rfl⟩
section
variable {P F:Nat→Prop} {w:World} {c s:Nat} {G:GA} {l:List Nat}
theorem pgFresh (h:PgR F w P c s G l) (id:Int) : Calls Tryz.prog 176 #[.pointer (some ⟨s,0,none⟩),.int .i64 id] w fun e w'=>e=.returned (.bool (spFresh l id))∧w=w':=by
  obtain ⟨d,sb,bvs,Pd,b2,C,h1,h2,h3,h4,h5,h6,h7⟩:=h
  exact Fresh_any w s b2 l h5 id
end
abbrev e0:ByteArray:=⟨#[]⟩
end Go.Proofs.YtphafjmdhmpkbaaGreatDoor
