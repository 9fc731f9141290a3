/- lookup.ready, lookup.check. | node.writer: num, text. | ref03.Right, Fits, Put. | ref03.Put of a fresh row. | The state of a law of chapter 10: its pager lies in a box. | ref10.Body. | The reference's tree, built of sorted pairs page by page, as plain Lean. No program in sight. | The reference's tree is a search tree (Tr) of its pairs. Plain. | The reference's tree is a search tree, from the leaves up to the root. Plain. | How many pages the reference's tree has, and that each one fits its block. Plain. | (*node.reader).num, text. | The disk under a pager: Flush; Forget and then Corrupt. | What a page that is seen is like: its Id, how many bytes. | The reference's pairs of any pairs; the law's, with short values. Plain. | The reference's tree takes each of its pages once; kids stand ahead of what is over them. Plain. | space.Used; ref13.Used. | what a law's pager() answers. | law13.pager. | law13.tells. -/
import Derived.Test.YtphafjmdhmpkbaaGreatDoorK17
import Derived.Test.YtphafjmdhmpkbaaGreatDoorK06
import Derived.Test.YtphafjmdhmpkbaaGreatDoorK08
import Derived.Test.YtphafjmdhmpkbaaGreatDoorK19
import Derived.Test.YtphafjmdhmpkbaaGreatDoorK07
import Derived.Laws.IdiomStrings
import Derived.IntWalk
import Derived.Test.YtphafjmdhmpkbaaGreatDoorK14
import Derived.Test.YtphafjmdhmpkbaaGreatDoorK03
import Derived.Test.YtphafjmdhmpkbaaGreatDoorK05
namespace Go.Proofs.YtphafjmdhmpkbaaGreatDoor
open Go.RowKit
section
variable {P P' F F':Nat→Prop} {ad:Nat→Addr} {w w':World} {c s:Nat}
theorem ready_ok (op:ByteArray) (gen:Nat) : Calls Tryz.prog 88 #[.string op,pgV c s gen] w fun e w'=>e=.returned .nilIface∧Ext w w':=by
  unfold pgV
  have m0:Ext w (w.alloc (.cells #[.pointer (some ⟨c,0,none⟩),.pointer (some ⟨s,0,none⟩),.int .u64 (gen:Int)] 45)):=(Mods.refl _ w).alloc _
  have M0:=Lib.hid m0
  clear m0
  go_enter Tryz.func88, Tryz.ntmps88
  go_wp2_with fail
  go_ret
  exact ⟨rfl,M0.out⟩
def lkCheck (key:ByteArray):Option Err:=if keyB key=true then none else some ([-1],2)
theorem lkCheck_any (hL:Env F ad w) (op:ByteArray) (gen:Nat) (key:ByteArray) : Calls Tryz.prog 100 #[.string op,pgV c s gen,.string key] w fun e w'=>∃ ev,e=.returned ev∧ErrR F ad w' ev (lkCheck key)∧Ext w w':=by
  have HL:=Lib.hid hL
  have hsz:=hL.size
  have HZ:=Lib.hid hsz
  clear hL hsz
  unfold pgV
  have HR:=fun w'=>ready_ok (c:=c) (s:=s) (w:=w') op gen
  unfold pgV at HR
  cases hk:keyB key with
  | true =>
    have HK:Hid (lkCheck key=none):=Lib.hid (by unfold lkCheck;rw [if_pos hk])
    go_enter Tryz.func100, Tryz.ntmps100
    go_wp2_with fail
    refine (HR _).mono ?_
    rintro e w1 ⟨rfl,hm1⟩
    have HM1:=Lib.hid hm1
    clear hm1
    go_wp2_with fail
    refine (key_any key _).mono ?_
    rintro e w2 ⟨rfl,rfl⟩
    rw [hk]
    go_wp2_with fail
    go_ret
    exact ⟨_,rfl,by rw [HK.out];rfl,by first | exact HM1.out | exact ((Mods.refl _ w).alloc _).trans HM1.out⟩
  | false =>
    have HK:Hid (lkCheck key=some ([-1],2)):=Lib.hid (by unfold lkCheck;rw [hk];rfl)
    go_enter Tryz.func100, Tryz.ntmps100
    go_wp2_with fail
    refine (HR _).mono ?_
    rintro e w1 ⟨rfl,hm1⟩
    have hE1:Ext w w1:=by first | exact hm1 | exact ((Mods.refl _ w).alloc _).trans hm1
    have hL1:=HL.out.mods hE1.ext
    have g2:=hL1.c2
    have hz1:=hL1.size
    have HM1:=Lib.hid hE1
    have HL1:=Lib.hid hL1
    clear hm1 hE1 hL1
    go_wp2_with fail
    refine (key_any key _).mono ?_
    rintro e w2 ⟨rfl,rfl⟩
    rw [hk]
    go_wp2_with fail
    refine (new_any HL1.out _ _ [] 2 (.sent 2 (by decide) (by decide))).mono ?_
    rintro e w3 ⟨f,rfl,hE,hm⟩
    have HE:=Lib.hid hE
    have HM:=Lib.hid hm
    clear hE hm
    go_wp2_with fail
    go_ret
    exact ⟨_,rfl,by rw [HK.out];exact ⟨f,rfl,HE.out⟩,HM1.out.trans HM.out⟩
end
theorem wpl_app_str {P:Program} {w:World} {t u e:TypeId} (T:ElT P t e (.int .u8 0) 1 1) (hu:P.underlying u=some .string)
    {ops:Array Oper} {rest:List Oper} {o:Oper} {a:Act} {Q:Exit→Act→World→Prop} (hgd:o.guard=none) (sx x:Operand)
    (ho:o.op=.call { callee:=.builtin .append,args:=#[sx,x],argTypes:=#[t,u] })
    (base:Nat) (v:Value) (l:List UInt8) (s:ByteArray) (hv:a.eval sx=v) (hx:a.eval x=.string s) (hown:Own (fun _=>False) w base e 1 encB v l) (hb:l.length+s.size≤140737488355328) (hbase:base≤w.heap.size)
    (h:∀ a' c' w',Own (fun _=>False) w' base e 1 encB (.slice a' (l.length+s.size) c') (l ++ s.data.toList)→w.grownBy w' v.ownBlock→wpList P ops Q rest (a.put o.dst (.slice a' (l.length+s.size) c')) w') :
    wpList P ops Q (o :: rest) a w:=by
  refine wpList_plain hgd fun K hK=>?_
  obtain ⟨i,hi,hz,hs1,hb1⟩:=info3 T.info
  obtain ⟨v',w',hr,h2,h3,_⟩:=Go.Lib.run_append_own_string (P:=P) (w:=w) base t u o.type e i T.under hu hi hz hs1 hb1 v l.length _ hown.1 s (by simp only [maxLen];omega) hb hbase
  have hO:Own (fun _=>False) w' base e 1 encB v' (l ++ s.data.toList):=⟨by
    rw [List.length_append,size_toList,List.flatMap_append,← strCells_enc];exact h2,fun _ _ f=>f⟩
  obtain ⟨a',c',hvv,_⟩:=hO.form
  rw [List.length_append,size_toList] at hvv
  subst hvv
  unfold Oper.wp execOp
  simp only [ho,resolve,invoke,builtin,Sem.run_bind,Sem.run_pure,Result.andThen_ok,List.map_toArray,List.map_cons,List.map_nil,hv,hx,hr]
  exact hK _ _ (h a' c' w' hO h3)
structure WrR (base:Nat) (w:World) (B:Nat) (l:List UInt8):Prop where
  box:∃ a c,Blk w B #[.slice a l.length c,.nilIface] 260 ∧ Own (fun _=>False) w base 5 1 encB (.slice a l.length c) l
  ge:base≤B
def WFr (B:Nat) (w w':World):Prop:=∀ (b:Nat) (c:Array Value) (t:TypeId),b ≠ B→t ≠ 5 → Blk w b c t→Blk w' b c t
section
variable {F:Nat→Prop} {ad:Nat→Addr} {w w':World} {base B:Nat} {l:List UInt8}
theorem Own.notB {e t:TypeId} {α:Type} {F:Nat→Prop} {enc:α→List Value} {sz:Nat} {v:Value} {x:List α} {B:Nat} {c:Array Value} (h:Own F w base e sz enc v x) (hB:Blk w B c t) (ht:t ≠ e):∀ g,v.ownBlock=some g→g ≠ B:=by
  intro g hg he
  subst he
  rcases h.1.2 with ⟨rfl,_⟩ | ⟨g',cap,cur,rfl,hbg,hg',_⟩
  · simp [Value.ownBlock] at hg
  · simp [Value.ownBlock] at hg
    subst hg
    unfold Blk at hB
    rw [hg'] at hB
    injection hB with hB
    injection hB with h1 h2
    exact ht h2.symm
set_option maxRecDepth 100000 in
theorem wnum_any (hL:Env F ad w) (hF:∀ k,F k→k < base) (h:WrR base w B l) (n W:Nat) (hW:W=1∨W=2∨W=4) (hn:n < 256 ^ W) (hlen:l.length≤100000) :
    Calls Tryz.prog 174 #[.pointer (some ⟨B,0,none⟩),.int .i64 (n:Int),.int .i64 (W:Int)] w fun e w'=>e=.returned (.tuple #[])∧WrR base w' B (l ++ leB W n)∧Mods (fun k=>base≤k) w w'∧WFr B w w':=by
  obtain ⟨⟨a,c,hB,hO⟩,hge⟩:=h
  have hn2:n < 4294967296:=by
    rcases hW with rfl | rfl | rfl <;> simp at hn <;> omega
  have b0:=hB.cell (o:=0) (v:=.slice a l.length c) rfl
  have b1:=hB.cell (o:=1) (v:=.nilIface) rfl
  have HSL:Hid (Sl F w 1 encB (.slice a l.length c) l):=Lib.hid (Own.sl (F:=F) ⟨hO.1,fun g hg f=>by have:=hO.lt g hg;have:=hF g f;omega⟩ encB_ok.len (by omega))
  have HB:=Lib.hid hB
  have HL:=Lib.hid hL
  have HN:=Lib.hid hn
  have HW:=Lib.hid hW
  have HBL:=Lib.hid hB.lt
  clear hB hO hL hF hn hW
  go_enter Tryz.func174, Tryz.ntmps174
  go_wp2_with fail
  refine (Put_any HL.out _ l HSL.out n W (by have:=HW.out;omega) HN.out hlen).mono ?_
  rintro e w1 ⟨a1,c1,rfl,hO1,hm1⟩
  have hB1:=HB.out.ext hm1
  have f0:=hB1.frozen 0
  have f1:=hB1.frozen 1
  have z0:=hB1.cell (o:=0) rfl
  have z1:=hB1.cell (o:=1) rfl
  have HB1:=Lib.hid hB1
  have hsz:=hm1.size
  have HM:Hid (Mods (fun k=>base≤k) w ((w1.setCell ⟨B,0,none⟩ (.slice a1 (l.length+W) c1)).setCell ⟨B,1,none⟩ .nilIface)):=Lib.hid ((hm1.ext.setCell (p:=⟨B,0,none⟩) (.inr hge) _).setCell (p:=⟨B,1,none⟩) (.inr hge) _)
  have HO1:Hid (Own (fun _=>False) ((w1.setCell ⟨B,0,none⟩ (.slice a1 (l.length+W) c1)).setCell ⟨B,1,none⟩ .nilIface) base 5 1 encB (.slice a1 (l.length+W) c1) (l ++ leB W n)):=Lib.hid (by
    have h1:Own (fun _=>False) w1 base 5 1 encB (.slice a1 (l.length+W) c1) (l ++ leB W n):=Own.rebase ⟨hO1.1,fun _ _ f=>f⟩ (by have:=HBL.out;omega)
    exact h1.mods (((Mods.refl (fun k=>k=B) w1).setCell (F:=fun k=>k=B) (p:=⟨B,0,none⟩) (.inr rfl) _).setCell (F:=fun k=>k=B) (p:=⟨B,1,none⟩) (.inr rfl) _) (fun g hg=>Own.notB h1 hB1 (by decide) g hg))
  have HFR:Hid (WFr B w ((w1.setCell ⟨B,0,none⟩ (.slice a1 (l.length+W) c1)).setCell ⟨B,1,none⟩ .nilIface)):=Lib.hid (fun b c t h1 _ h3=>((h3.ext hm1).set_other (p:=⟨B,0,none⟩) h1 _).set_other (p:=⟨B,1,none⟩) h1 _)
  clear hm1 hB1 hO1
  go_wp2_with fail
  go_end0
  exact ⟨rfl,⟨⟨a1,c1,by rw [List.length_append,leB_length];exact (HB1.out.set 0 _).set 1 _,by rw [List.length_append,leB_length];exact HO1.out⟩,hge⟩,HM.out,HFR.out⟩
set_option maxRecDepth 100000 in
theorem wtext_any (hL:Env F ad w) (hF:∀ k,F k→k < base) (h:WrR base w B l) (s:ByteArray) (hs:s.size < 256) (hlen:l.length≤100000) :
    Calls Tryz.prog 175 #[.pointer (some ⟨B,0,none⟩),.string s] w fun e w'=>e=.returned (.tuple #[])∧WrR base w' B (l ++ bytesT s)∧Mods (fun k=>base≤k) w w'∧WFr B w w':=by
  have HL:=Lib.hid hL
  have HF:=Lib.hid hF
  have HH:=Lib.hid h
  have HW0:=Lib.hid h.box
  clear hL hF h
  go_enter Tryz.func175, Tryz.ntmps175
  go_wp2_with fail
  refine (wnum_any HL.out HF.out HH.out s.size 1 (.inl rfl) (by simpa using hs) hlen).mono ?_
  rintro e w1 ⟨rfl,hR,hm,hfr⟩
  have HFR:=Lib.hid hfr
  clear hfr
  obtain ⟨⟨a,c,hB,hO⟩,hge⟩:=hR
  have hbb:=hB.lt
  have hll:(l ++ leB 1 s.size).length=l.length+1:=by rw [List.length_append,leB_length]
  have HB:=Lib.hid hB
  have HO:=Lib.hid hO
  have HM:=Lib.hid hm
  have HLL:=Lib.hid hll
  generalize hq:l ++ leB 1 s.size=q at *
  have HQ:=Lib.hid hq
  clear hB hO hm hll hq
  have b0:=HB.out.cell (o:=0) (v:=.slice a q.length c) rfl
  have f0:=HB.out.frozen 0
  go_wp2_with (at_builtin;refine wpl_app_str Tryz.elB Tryz.underlying9 rfl _ _ rfl base _ q s rfl rfl HO.out (by rw [HLL.out];omega) (by omega) ?_;intro a2 c2 w2 hO2 hg2;have hgm:=Mods.of_grown hg2;have hB2:Blk w2 B #[.slice a q.length c,.nilIface] 260:=HB.out.mods hgm (fun e=>Own.notB HO.out HB.out (by decide) B e rfl);have z0:=hB2.cell (o:=0) (v:=.slice a q.length c) rfl;have zf:=hB2.frozen 0)
  have HB2:=Lib.hid hB2
  have HM2:Hid (Mods (fun k=>base≤k) w (w2.setCell ⟨B,0,none⟩ (.slice a2 (q.length+s.size) c2))):=Lib.hid (((HM.out.trans (hgm.mono (fun k hk=>(HO.out.lt k hk).1)))).setCell (p:=⟨B,0,none⟩) (.inr hge) _)
  have HO2:Hid (Own (fun _=>False) (w2.setCell ⟨B,0,none⟩ (.slice a2 (q.length+s.size) c2)) base 5 1 encB (.slice a2 (q.length+s.size) c2) (q ++ s.data.toList)):=Lib.hid
    (hO2.mods ((Mods.refl _ w2).setCell (F:=fun k=>k=B) (p:=⟨B,0,none⟩) (.inr rfl) _) (fun g hg=>Own.notB hO2 hB2 (by decide) g hg))
  have HFR2:Hid (WFr B w (w2.setCell ⟨B,0,none⟩ (.slice a2 (q.length+s.size) c2))):=Lib.hid (fun b c t h1 h2 h3=>((HFR.out b c t h1 h2 h3).mods hgm (fun e=>Own.notB HO.out (HFR.out b c t h1 h2 h3) h2 b e rfl)).set_other (p:=⟨B,0,none⟩) h1 _)
  clear hB2 hO2 hg2 hgm
  go_end0
  have e1:l ++ bytesT s=q ++ s.data.toList:=by rw [← HQ.out];unfold bytesT;rw [List.append_assoc]
  have e2:(q ++ s.data.toList).length=q.length+s.size:=by rw [List.length_append,size_toList]
  exact ⟨rfl,⟨⟨a2,c2,by rw [e1,e2];exact HB2.out.set 0 _,by rw [e1,e2];exact HO2.out⟩,hge⟩,HM2.out,HFR2.out⟩
end
section
variable {ad:Nat→Addr} {w0 w w':World} {B c s:Nat} {P P' F F':Nat→Prop} {G G':GA} {l l':List Nat}
end
/-! ### what stands on the pages -/
theorem pw_rising:∀ {l:List ByteArray},(l.Pairwise fun a b=>ltS a b=true)→risingS l=true
  | [],_=>rfl
  | [_],_=>rfl
  | a :: b :: l,h=>by
    have h1:=List.pairwise_cons.1 h
    simp only [risingS,Bool.and_eq_true]
    exact ⟨h1.1 b List.mem_cons_self,pw_rising h1.2⟩
def PairsOk (l:List PairS):Prop:=∀ x ∈ l,keyB x.1=true∧x.2.size≤4096
theorem bytesT_len (s:ByteArray):(bytesT s).length=1+s.size:=by
  unfold bytesT
  rw [List.length_append,leB_length,Array.length_toList];rfl
theorem bytesE_len {e:EntryA} (h:rightE e=true):(bytesE e).length≤59:=by
  unfold rightE at h
  simp only [Bool.and_eq_true] at h
  have hk:=(keyB_iff e.key).1 h.1
  have h2:=h.2
  unfold bytesE
  rw [List.length_append,bytesT_len]
  by_cases hc:e.chain=0
  · rw [if_pos hc] at h2 ⊢
    simp only [Bool.and_eq_true,decide_eq_true_eq] at h2
    rw [List.length_append,leB_length,bytesT_len];omega
  · rw [if_neg hc]
    simp only [List.length_append,leB_length];omega
theorem flat_len {α:Type} (g:α→List UInt8) (M:Nat):∀ (l:List α),(∀ x ∈ l,(g x).length≤M)→(l.flatMap g).length≤M * l.length
  | [],_=>by simp
  | x :: l,h=>by
    have h1:=flat_len g M l (fun y hy=>h y (List.mem_cons_of_mem _ hy))
    have h2:=h x List.mem_cons_self
    rw [List.flatMap_cons,List.length_append,List.length_cons,Nat.mul_succ];omega
theorem bytesK_len {p:ByteArray × Int} (h:keyB p.1=true):(bytesK p).length≤37:=by
  have hk:=(keyB_iff p.1).1 h
  unfold bytesK
  rw [List.length_append,bytesT_len,leB_length];omega
structure RdR (F:Nat→Prop) (w:World) (B:Nat) (bv:Value) (b:List UInt8) (r:RdA):Prop where
  own:Blk w B #[bv,.int .i64 r.at_,.bool r.bad] 311
  sl:Sl F w 1 encB bv b
  mem:F B
section
variable {F:Nat→Prop} {ad:Nat→Addr} {w w':World} {B:Nat} {bv:Value} {b:List UInt8} {r:RdA}
theorem takeF_small (b:List UInt8) (p:Int) (W:Nat) (hW:W=1∨W=2∨W=4):(takeF b p W).1 < 4294967296:=by
  unfold takeF
  split
  · simp
  · split
    · simp
    · have:=ofLe_lt ((b.drop p.toNat).take W)
      have h2:((b.drop p.toNat).take W).length≤4:=Nat.le_trans (List.length_take_le _ _) (by omega)
      have h3:(256:Nat) ^ ((b.drop p.toNat).take W).length≤256 ^ 4:=Nat.pow_le_pow_right (by omega) h2
      simp only
      omega
theorem RdR.turn (h:RdR F w B bv b r) (r':RdA) (m:Mods (fun k=>k=B) w w') (hB:Blk w' B #[bv,.int .i64 r'.at_,.bool r'.bad] 311):RdR F w' B bv b r' :=
  ⟨hB,h.sl.mods (m.mono (fun k e=>by subst e;exact h.mem)),h.mem⟩
set_option maxRecDepth 100000 in
theorem rdNum_any (hL:Env F ad w) (h:RdR F w B bv b r) (W:Nat) (hW:W=1∨W=2∨W=4) (h0:0≤r.at_) (h1:r.at_≤1000000000000) :
    Calls Tryz.prog 223 #[.pointer (some ⟨B,0,none⟩),.int .i64 (W:Int)] w fun e w'=>e=.returned (.int .i64 ((rdNum b r W).1:Nat))∧RdR F w' B bv b (rdNum b r W).2∧Mods (fun k=>k=B) w w':=by
  obtain ⟨a,bd⟩:=r
  simp only at h0 h1
  have hsm:=takeF_small b a W hW
  obtain ⟨sa,cap,rfl,hz,_,_,_⟩:=_root_.id h.sl
  obtain ⟨n,hn⟩:∃ n,n=(takeF b a W).1:=⟨_,rfl⟩
  rw [← hn] at hsm
  have HN:=Lib.hid hn
  have HH:=Lib.hid h
  have HLd:=Lib.hid (hL.mods (Mods.refl _ w).drew)
  have HSd:=Lib.hid (h.sl.mods (Mods.refl _ w).drew)
  have HW:=Lib.hid hW
  have hW4:W≤4:=by omega
  have c0:=h.own.cell (o:=0) (v:=.slice sa b.length cap) rfl
  have c1:=h.own.cell (o:=1) (v:=.int .i64 a) rfl
  have c2:=h.own.cell (o:=2) (v:=.bool bd) rfl
  clear h hL hW hn
  go_enter Tryz.func223, Tryz.ntmps223
  go_wp2_with fail
  go_region_held3 (fun w'=>w'.cell? ⟨B,0,none⟩=some (.slice sa b.length cap)∧w'.cell? ⟨B,1,none⟩=some (.int .i64 a))
    (first | (with_reducible exact ⟨x0,x1⟩) | go_keep)
    (first
      | (go_at_call 234;refine (Take_any HLd.out _ b HSd.out a W (by have:=HW.out;omega)).mono ?_;rintro e w1 ⟨ev,rfl,hE,hm⟩;rw [← HN.out];have x0:=cellE hm c0;have x1:=cellE hm c1))
  have x2:=cellE hm c2
  have HB:=Lib.hid ((HH.out.own.drew).ext hm)
  have f1:=HB.out.frozen 1
  have f2:=HB.out.frozen 2
  have HM:=Lib.hid (hm.ofDrew)
  have HM2:Hid (∀ x:Bool,Mods (fun k=>k=B) w ((w1.setCell ⟨B,2,none⟩ (.bool x)).setCell ⟨B,1,none⟩ (.int .i64 (a+W)))) :=
    Lib.hid fun x=>HM.out.ext.trans ((Mods.at (fun k=>k=B) w1 B 2 _ rfl).trans (Mods.at (fun k=>k=B) _ B 1 _ rfl))
  clear c0 c1 c2 hm
  cases hT:(takeF b a W).2 with
  | none =>
    rw [hT] at hE
    cases hE
    have HR:Hid (rdNum b ⟨a,bd⟩ W=(n,⟨a+W,bd⟩)):=Lib.hid (by unfold rdNum;simp only [hT,← HN.out];simp)
    clear hT
    cases bd
    all_goals
      go_wp2_with fail
      go_ret
      exact ⟨by rw [HR.out];rfl,by rw [HR.out];exact HH.out.turn _ (HM2.out _) ((HB.out.set 2 _).set 1 _),HM2.out _⟩
  | some er =>
    rw [hT] at hE
    obtain ⟨el,ek⟩:=er
    obtain ⟨f,rfl,hE⟩:=hE
    have HR:Hid (rdNum b ⟨a,bd⟩ W=(n,⟨a+W,true⟩)):=Lib.hid (by unfold rdNum;simp only [hT,← HN.out];simp)
    clear hT hE
    cases bd
    all_goals
      go_wp2_with fail
      go_ret
      exact ⟨by rw [HR.out];rfl,by rw [HR.out];exact HH.out.turn _ (HM2.out _) ((HB.out.set 2 _).set 1 _),HM2.out _⟩
end
section
variable {P P' F F':Nat→Prop} {ad:Nat→Addr} {w w':World} {c s:Nat} {G G':GA} {l l':List Nat}
theorem pgDiskFlush (hL:Env F ad w) (hP:∀ k,P k→F k) (h:PgR F w P c s G l) :
    ∃ d,(Calls Tryz.prog 46 #[.pointer (some ⟨c,0,none⟩)] w fun e w'=>e=.returned (.pointer (some ⟨d,0,none⟩))∧w=w') ∧
      (∀ w1,Ext w w1 → Calls Tryz.prog 47 #[.pointer (some ⟨d,0,none⟩)] w1 (PgDone F P ad w1 c s G.flushD l (fun _ _ e=>e=.returned .nilIface))):=by
  obtain ⟨d,sb,bvs,Pd,b2,C,h1,h2,h3,h4,h5,h6,h7⟩:=h
  refine ⟨d,caDisk_any h1,fun w1 m=>?_⟩
  have hL1:=hL.mods (m.ext (F:=F))
  have k1:=h1.at m
  have k5:=h5.mods m (fun f=>f) (fun f=>f)
  obtain ⟨bl,gs,ws,wv,kv,g1,g2⟩:=k1.disk
  refine (dkFlush_ok hL1 (fun k hk=>hP k ((h6 k).2 (.inl (.inl hk)))) g1 g2 h2.off h2.lit).mono ?_
  rintro e w2 ⟨Pd',F2,rfl,hD,n⟩
  have hPF:∀ k,caF c sb Pd k→F k:=fun k hk=>hP k ((h6 k).2 (.inl hk))
  have kC:=k1.disk' hPF n hD
  obtain ⟨q1,q2⟩:=rel_flushD h2 (waits h1) h3
  have nA:=n.part (Q:=fun k=>k=c∨k=sb) (fun k hk=>hPF k (.inr hk)) hL1
  obtain ⟨P2,r1,r2⟩:=PgR.step (C':=flushDC C) hL1 hP k5 h6 h7 kC q1 q2 h4 nA
  exact ⟨P2,F2,r1,r2,rfl⟩
end
theorem vw_ok {C:CaA} (hI:CaInv C) {id:Nat} (hid:id < C.disk.blocks) {p:PageA} (h:C.vw id=.inl p):p.id=(id:Int)∧pgOk p C.disk.size:=by
  unfold CaA.vw at h
  split at h
  · rename_i s hs
    injection h with h
    subst h
    have hm:=List.mem_of_find?_eq_some hs
    have hh:=List.find?_some hs
    obtain ⟨i,hi,e⟩:=List.getElem_of_mem hm
    have hi2:C.slots[i]? = some s:=by rw [← e];exact List.getElem?_eq_getElem hi
    have hf:s.full=true∧s.page.id=(id:Int):=by
      cases hfl:s.full with
      | false=>rw [not_has (.inl hfl)] at hh;cases hh
      | true =>
        by_cases e:s.page.id=(id:Int)
        · exact ⟨rfl,e⟩
        · rw [not_has (.inr e)] at hh;cases hh
    exact ⟨hf.2,(hI.page i s hi2 hf.1).2.2⟩
  · have hl:=hI.len id hid
    unfold openAtP at h
    split at h
    · cases h
    · rename_i h1
      split at h
      · cases h
      · rename_i h2
        injection h with h
        subst h
        simp only [ne_eq,Decidable.not_not] at h2
        unfold openB at h1
        simp only [Bool.not_eq_false,Bool.and_eq_true,decide_eq_true_eq] at h1
        refine ⟨h2,?_,readP_gen _⟩
        rw [← hl]
        exact h1.1
section
variable {P F:Nat→Prop} {ad:Nat→Addr} {w:World} {c s:Nat} {G:GA} {l:List Nat}
theorem PgR.page (h:PgR F w P c s G l) {id:Nat} (hid:id < G.blocks) {p:PageA} (hv:G.view id=some (.inl p)):p.id=(id:Int)∧pgOk p G.size:=by
  obtain ⟨d,sb,bvs,Pd,b2,C,h1,h2,h3,h4,h5,h6,h7⟩:=h
  have:=vw_ok h2 (by rw [h3.blocks];exact hid) (h3.view id _ hv)
  rw [h3.size] at this
  exact this
theorem PgR.got (h:PgR F w P c s G l) {id:Int} {p:PageA} (hv:G.get id=.inl p):p.id=id∧pgOk p G.size∧p.body.length≤1000:=by
  unfold GA.get at hv
  split at hv
  · cases hv
  · rename_i hc
    unfold GA.check at hc
    split at hc
    · cases hc
    · rename_i hr
      split at hv
      · rename_i q hq
        injection hv with hv
        subst hv
        obtain ⟨k1,k2⟩:=h.page (id:=id.toNat) (by omega) hq
        have:=(pgCheck_none k2.1).2.2.2.2.2
        have:=h.lim
        exact ⟨by omega,k2,by omega⟩
      · cases hv
      · cases hv
end
abbrev e0:ByteArray:=⟨#[]⟩
def addP (acc:List PairS) (x:PairS):List PairS:=if keyB x.1=true∧x.2.size≤4096 then withP x.1 x.2 false acc else acc
def pairsP (l:List PairS):List PairS:=l.foldl addP []
theorem pairsP_snoc (l:List PairS) (x:PairS):pairsP (l ++ [x])=addP (pairsP l) x:=by
  unfold pairsP;rw [List.foldl_append];rfl
theorem withP_len (key value:ByteArray) (over:Bool):∀ l:List PairS,(withP key value over l).length≤l.length+1
  | []=>by simp [withP]
  | x :: l=>by
    have:=withP_len key value over l
    unfold withP
    split
    · simp only [List.length_cons];omega
    · split
      · split <;> simp
      · simp
theorem addP_ok {acc:List PairS} {x:PairS} (h1:SortedP acc) (h2:PairsOk acc):SortedP (addP acc x)∧PairsOk (addP acc x)∧(addP acc x).length≤acc.length+1:=by
  unfold addP
  split
  · rename_i hc
    refine ⟨sorted_withP h1,fun y hy=>?_,withP_len _ _ _ _⟩
    rcases mem_withP hy with rfl | hy
    · exact hc
    · exact h2 y hy
  · exact ⟨h1,h2,by omega⟩
theorem foldP_ok:∀ (l acc:List PairS),SortedP acc→PairsOk acc→SortedP (l.foldl addP acc)∧PairsOk (l.foldl addP acc)∧(l.foldl addP acc).length≤acc.length+l.length
  | [],acc,h1,h2=>⟨h1,h2,by simp⟩
  | x :: l,acc,h1,h2=>by
    obtain ⟨k1,k2,k3⟩:=addP_ok (x:=x) h1 h2
    obtain ⟨j1,j2,j3⟩:=foldP_ok l (addP acc x) k1 k2
    exact ⟨j1,j2,by simp only [List.length_cons] at j3 ⊢;rw [List.foldl_cons];omega⟩
theorem pairsP_ok (l:List PairS):SortedP (pairsP l)∧PairsOk (pairsP l)∧(pairsP l).length≤l.length:=by
  obtain ⟨h1,h2,h3⟩:=foldP_ok l [] List.Pairwise.nil (fun x h=>by simp at h)
  exact ⟨h1,h2,by simpa [pairsP] using h3⟩
end Go.Proofs.YtphafjmdhmpkbaaGreatDoor
namespace Go.Proofs.YtphafjmdhmpkbaaGreatDoor
open Go.RowKit
attribute [local go_sem ↓] Go.wp_at_zero Go.wp_at_succ
def spIn (x:Nat):Bool:=x == 1 || x == 2
def usedTo (l:List Nat) (k:Nat):List Int:=((List.range k).filter (fun i=>spIn (l.getD i 0))).map (fun (i:Nat)=>(i:Int))
theorem usedTo_succ (l:List Nat) (k:Nat):usedTo l (k+1)=usedTo l k ++ if spIn (l.getD k 0)=true then [(k:Int)] else []:=by
  unfold usedTo
  rw [List.range_succ,List.filter_append,List.map_append]
  congr 1
  by_cases h:spIn (l.getD k 0)=true
  · rw [if_pos h,List.filter_cons_of_pos (p:=fun i=>spIn (l.getD i 0)) h];rfl
  · rw [if_neg h,List.filter_cons_of_neg (p:=fun i=>spIn (l.getD i 0)) h];rfl
theorem usedTo_len (l:List Nat) (k:Nat):(usedTo l k).length≤k:=by
  unfold usedTo
  rw [List.length_map]
  exact Nat.le_trans (List.length_filter_le _ _) (by simp)
set_option maxRecDepth 100000 in
set_option maxHeartbeats 1000000 in
theorem Used_any (w:World) (b b2:Nat) (l:List Nat) (h:SpR w b b2 l) :
    Calls Tryz.prog 37 #[.pointer (some ⟨b,0,none⟩)] w fun e w'=>∃ uv,e=.returned uv∧Own (fun _=>False) w' w.heap.size 3 1 encI uv (usedTo l l.length)∧Ext w w':=by
  have c0:=h.own.cell (o:=0) (v:=.slice (some ⟨b2,0,none⟩) l.length l.length) rfl
  have hl:=h.len
  have hl2:=h.len2
  have HS:=Lib.hid h
  clear h
  go_enter Tryz.func37, Tryz.ntmps37
  go_wp2_with fail
  go_loopg [3,13] l.length (fun m v3 v13 wr=>∃ (k:Nat) (uv:Value),k+m=l.length∧uv=v3∧v13=.int .i64 (k:Int)∧Hid (Own (fun _=>False) wr w.heap.size 3 1 encI uv (usedTo l k)∧Ext w wr))
  case atStart=>exact ⟨0,_,by omega,rfl,rfl,Lib.hid ⟨Own.nil _ _ _ _ _ _,Mods.refl _ _⟩⟩
  case round =>
    obtain ⟨k,v3,hk,rfl,rfl,HR⟩:=hrel
    by_cases hlt:k < l.length
    · obtain ⟨x,hx⟩:∃ x,x=l[k]:=⟨_,rfl⟩
      have hx2:l[k]? = some x:=by rw [hx];simp [hlt]
      have hc:=(HS.out.row.ext HR.out.2).cell (spCells_at l k x hx2)
      have hgd:l.getD k 0=x:=by simp [List.getD,hx2]
      obtain ⟨n,hn⟩:∃ n,n=(usedTo l k).length:=⟨_,rfl⟩
      have hn2:n≤k:=by rw [hn];exact usedTo_len l k
      obtain ⟨pa,pc,hv, -, -⟩:=_root_.id HR.out.1.form
      rw [← hn] at hv
      have HU:=Lib.hid (usedTo_succ l k)
      rw [hgd] at HU
      by_cases hi:spIn x=true
      · rw [if_pos hi] at HU
        have HLN:=Lib.hid hn.symm
        have HOW:=Lib.hid (HR.out.1.ext ((Mods.refl _ wr).alloc (.cells #[.int .i64 (k:Int)] 3)))
        have HSZ:=Lib.hid HR.out.2.size
        have hx12:x=1∨x=2:=by unfold spIn at hi;simpa using hi
        subst hv
        clear hx hx2 hi hn hgd
        rcases hx12 with rfl | rfl
        all_goals
          go_wp2_with (first
            | (at_builtin;refine wpl_app2 Tryz.elI encI_ok rfl _ _ rfl w.heap.size (.slice pa n pc) (.slice (some ⟨wr.heap.size,0,none⟩) 1 1) (usedTo l k) [(k:Int)] rfl rfl HOW.out (Sl.one (F:=fun _=>False) (x:=(k:Int)) (t := 3) (fz:=(0,0)) (heap_at rfl) (fun f=>f)) (by rw [HLN.out];simp only [List.length_cons,List.length_nil];omega) (Nat.le_trans HSZ.out (by simp)) (fun f=>f) ?_;intro a' c' w4 hown4 hmod4 hat4;rw [HLN.out] at hown4 ⊢;simp only [List.length_cons,List.length_nil,Nat.zero_add] at hown4 ⊢;have HO4:=Lib.hid hown4;have HM4:=Lib.hid hmod4;have HA4:=Lib.hid HR.out.1.lt;clear hown4 hmod4 hat4)
            | fail)
          go_roundg (gk - 1)
          case measure=>omega
          case rel =>
            refine ⟨k+1,_,by omega,rfl,by go_num,Lib.hid ⟨by rw [HU.out];exact HO4.out,(HR.out.2.alloc (.cells #[.int .i64 (k:Int)] 3)).trans' HM4.out (fun i hi hg=>?_)⟩⟩
            have:=(HA4.out i hg).1
            omega
      · rw [if_neg hi] at HU
        have h1:((x:Int) == 1)=false:=by rw [beq_eq_false_iff_ne];intro e;exact hi (by unfold spIn;simp;omega)
        have h2:((x:Int) == 2)=false:=by rw [beq_eq_false_iff_ne];intro e;exact hi (by unfold spIn;simp;omega)
        have HRR:Hid (Own (fun _=>False) wr w.heap.size 3 1 encI v3 (usedTo l (k+1))∧Ext w wr):=Lib.hid (by rw [HU.out,List.append_nil];exact HR.out)
        clear hx hx2 hi hn hgd hv
        go_wp2_with fail
        go_roundg (gk - 1)
        case measure=>omega
        case rel=>exact ⟨k+1,_,by omega,rfl,by go_num,HRR⟩
    · have hkq:k=l.length:=by omega
      have HF:Hid (Own (fun _=>False) wr w.heap.size 3 1 encI v3 (usedTo l l.length)):=Lib.hid (by have:=HR.out.1;rw [hkq] at this;exact this)
      have HM:=Lib.hid HR.out.2
      clear hkq
      go_wp2_with fail
      go_ret
      exact ⟨_,rfl,HF.out,HM.out⟩
section
variable {P F:Nat→Prop} {w:World} {c s:Nat} {G:GA} {l:List Nat}
theorem pgUsed (h:PgR F w P c s G l) : Calls Tryz.prog 37 #[.pointer (some ⟨s,0,none⟩)] w fun e w'=>∃ uv,e=.returned uv∧Own (fun _=>False) w' w.heap.size 3 1 encI uv (usedTo l l.length)∧Ext w w':=by
  obtain ⟨d,sb,bvs,Pd,b2,C,_,_,_,_,hs,_,_⟩:=h
  exact Used_any w s b2 l hs
end
def usedP (pgs:List Int) (n:Nat):List Int:=((List.range n).filter (fun (i:Nat)=>decide (i < 2) || pgs.contains (i:Int))).map (fun (i:Nat)=>(i:Int))
theorem usedP_succ (pgs:List Int) (k:Nat):usedP pgs (k+1)=usedP pgs k ++ if (decide (k < 2) || pgs.contains (k:Int))=true then [(k:Int)] else []:=by
  unfold usedP
  rw [List.range_succ,List.filter_append,List.map_append]
  congr 1
  by_cases h:(decide (k < 2) || pgs.contains (k:Int))=true
  · rw [if_pos h,List.filter_cons_of_pos (p:=fun i:Nat=>decide (i < 2) || pgs.contains (i:Int)) h];rfl
  · rw [if_neg h,List.filter_cons_of_neg (p:=fun i:Nat=>decide (i < 2) || pgs.contains (i:Int)) h];rfl
theorem usedP_len (pgs:List Int) (k:Nat):(usedP pgs k).length≤k:=by
  unfold usedP
  rw [List.length_map]
  exact Nat.le_trans (List.length_filter_le _ _) (by simp)
theorem contains_take (pgs:List Int) (k:Nat) (z:Int) (x:Int) (h:pgs[k]? = some x):(pgs.take (k+1)).contains z=((pgs.take k).contains z || (x == z)):=by
  rw [take_one pgs k x h,Bool.eq_iff_iff]
  simp only [List.contains_iff_mem,Bool.or_eq_true,List.mem_append,List.mem_singleton,beq_iff_eq]
  exact or_congr Iff.rfl eq_comm
set_option maxRecDepth 100000 in
set_option maxHeartbeats 2000000 in
theorem Used13_any {F:Nat→Prop} {w:World} (pgs:List Int) (pv:Value) (hp:Sl F w 1 encI pv pgs) (n:Nat) (hn:n≤256) :
    Calls Tryz.prog 52 #[pv,.int .i64 (n:Int)] w fun e w'=>∃ uv,e=.returned uv∧Own (fun _=>False) w' w.heap.size 3 1 encI uv (usedP pgs n)∧Ext w w':=by
  have HP:=Lib.hid hp
  obtain ⟨qa,qc,rfl,b1,b2,b3, -⟩:=hp
  unfold maxLen at b2
  have HO0:Hid (Own (fun _=>False) (w.alloc (.cells #[] 3)) w.heap.size 3 1 encI (.slice (some ⟨w.heap.size,0,none⟩) 0 0) (usedP pgs 0)):=Lib.hid (Own.empty (fun k f=>f.elim) _ _ _ encI_ok.len)
  have HM0:Hid (Ext w (w.alloc (.cells #[] 3))):=Lib.hid ((Mods.refl _ w).alloc _)
  go_enter Tryz.func52, Tryz.ntmps52
  go_wp2_with fail
  go_loopg [5,6] n (fun m v5 v6 wr=>∃ (k:Nat) (uv:Value),k+m=n∧uv=v5∧v6=.int .i64 (k:Int)∧Hid (Own (fun _=>False) wr w.heap.size 3 1 encI uv (usedP pgs k)∧Ext w wr))
  case atStart=>exact ⟨0,_,by omega,rfl,rfl,Lib.hid ⟨HO0.out,HM0.out⟩⟩
  case round =>
    obtain ⟨k,v3,hk,rfl,rfl,HR⟩:=hrel
    obtain ⟨wo,rfl⟩:∃ wo:World,wo=wr:=⟨_,rfl⟩
    obtain ⟨go,rfl⟩:∃ go:Nat,go=gk:=⟨_,rfl⟩
    by_cases hlt:k < n
    · go_wp2_with fail
      go_loopg [7,8] pgs.length (fun m v7 v8 wr=>∃ (j:Nat) (bz:Bool),wr=wo∧j+m=pgs.length∧v7=.bool bz∧v8=.int .i64 (j:Int)∧Hid (bz=(decide (k < 2) || (pgs.take j).contains (k:Int))))
      case atStart=>exact ⟨0,_,rfl,by omega,rfl,rfl,Lib.hid (by simp;omega)⟩
      case round =>
        obtain ⟨j,bz,rfl,hj,rfl,rfl,HB⟩:=hrel
        by_cases hlj:j < pgs.length
        · obtain ⟨x,hx⟩:∃ x,x=pgs[j]:=⟨_,rfl⟩
          have hx2:pgs[j]? = some x:=by rw [hx];simp [hlj]
          obtain ⟨qb,qoff,hqa,hc⟩:=HP.out.elem hlj HR.out.2
          have d0:=hc 0 (.int .i64 x) (by rw [hx];rfl)
          simp only [Nat.add_zero,Nat.mul_one] at d0
          subst hqa
          have HT:=Lib.hid (contains_take pgs j (k:Int) x hx2)
          have i1:(0:Int)≤(j:Int):=by omega
          have i2:(j:Int) < (pgs.length:Int):=by omega
          clear hc hx hx2
          cases bz with
          | true =>
            go_wp2_with fail
            go_roundg (gk - 1)
            case measure=>omega
            case rel=>exact ⟨j+1,true,rfl,by omega,rfl,by go_num,Lib.hid (by rw [HT.out,← Bool.or_assoc,← HB.out];rfl)⟩
          | false =>
            go_wp2_with fail
            go_roundg (gk - 1)
            case measure=>omega
            case rel=>exact ⟨j+1,(x == (k:Int)),rfl,by omega,rfl,by go_num,Lib.hid (by rw [HT.out,← Bool.or_assoc,← HB.out];simp)⟩
        · have hjq:j=pgs.length:=by omega
          have HBB:Hid (bz=(decide (k < 2) || pgs.contains (k:Int))):=Lib.hid (by have:=HB.out;rw [hjq,List.take_length] at this;exact this)
          have HU:=Lib.hid (usedP_succ pgs k)
          obtain ⟨q,hq⟩:∃ q,q=(usedP pgs k).length:=⟨_,rfl⟩
          have hq2:q≤k:=by rw [hq];exact usedP_len pgs k
          obtain ⟨pa,pc,hv, -, -⟩:=_root_.id HR.out.1.form
          rw [← hq] at hv
          clear hjq
          cases bz with
          | true =>
            have HU2:Hid (usedP pgs (k+1)=usedP pgs k ++ [(k:Int)]):=Lib.hid (by rw [HU.out,if_pos HBB.out.symm])
            have HLN:=Lib.hid hq.symm
            have HOW:=Lib.hid (HR.out.1.ext ((Mods.refl _ wr).alloc (.cells #[.int .i64 (k:Int)] 3)))
            have HSZ:=Lib.hid HR.out.2.size
            subst hv
            clear hq
            go_wp2_with (first
              | (at_builtin;refine wpl_app2 Tryz.elI encI_ok rfl _ _ rfl w.heap.size (.slice pa q pc) (.slice (some ⟨wr.heap.size,0,none⟩) 1 1) (usedP pgs k) [(k:Int)] rfl rfl HOW.out (Sl.one (F:=fun _=>False) (x:=(k:Int)) (t := 3) (fz:=(0,0)) (heap_at rfl) (fun f=>f)) (by rw [HLN.out];simp only [List.length_cons,List.length_nil];omega) (Nat.le_trans HSZ.out (by simp)) (fun f=>f) ?_;intro a' c' w4 hown4 hmod4 hat4;rw [HLN.out] at hown4 ⊢;simp only [List.length_cons,List.length_nil,Nat.zero_add] at hown4 ⊢;have HO4:=Lib.hid hown4;have HM4:=Lib.hid hmod4;have HA4:=Lib.hid HR.out.1.lt;clear hown4 hmod4 hat4)
              | fail)
            go_roundg (go - 1)
            case measure=>omega
            case rel =>
              refine ⟨k+1,_,by omega,rfl,by go_num,Lib.hid ⟨by rw [HU2.out];exact HO4.out,(HR.out.2.alloc (.cells #[.int .i64 (k:Int)] 3)).trans' HM4.out (fun i hi hg=>?_)⟩⟩
              have:=(HA4.out i hg).1
              omega
          | false =>
            have HRR:Hid (Own (fun _=>False) wr w.heap.size 3 1 encI v3 (usedP pgs (k+1))∧Ext w wr):=Lib.hid (by rw [HU.out,if_neg (by rw [← HBB.out];simp),List.append_nil];exact HR.out)
            clear hq hv
            go_wp2_with fail
            go_roundg (go - 1)
            case measure=>omega
            case rel=>exact ⟨k+1,_,by omega,rfl,by go_num,HRR⟩
    · have hkq:k=n:=by omega
      have HF:Hid (Own (fun _=>False) wo w.heap.size 3 1 encI v3 (usedP pgs n)):=Lib.hid (by have:=HR.out.1;rw [hkq] at this;exact this)
      have HM:=Lib.hid HR.out.2
      clear hkq
      go_wp2_with fail
      go_ret
      exact ⟨_,rfl,HF.out,HM.out⟩
end Go.Proofs.YtphafjmdhmpkbaaGreatDoor
namespace Go.Proofs.YtphafjmdhmpkbaaGreatDoor
open Go.RowKit
def PagerG (ad:Nat→Addr) (w:World) (n g:Nat) (e:Ending) (w':World):Prop :=
  ∃ (c s:Nat) (P F:Nat→Prop),e=.returned (.tuple #[pgV c s g,.bool true])∧PgR F w' P c s (G0 n) (spNew n)∧Nxt NoB P NoB F ad w w'
def PagerH (F0:Nat→Prop) (ad:Nat→Addr) (w:World) (n g:Nat) (e:Ending) (w':World):Prop :=
  ∃ (c s:Nat) (P F:Nat→Prop),e=.returned (.tuple #[pgV c s g,.bool true])∧PgR F w' P c s (G0 n) (spNew n)∧Nxt NoB P F0 F ad w w'
set_option maxRecDepth 100000 in
theorem pager13F_any {F0:Nat→Prop} {ad:Nat→Addr} {w:World} (hL:Env F0 ad w) (n:Nat) (h8:8≤n) (h256:n≤256) : Calls Tryz.prog 24 #[.int .i64 (n:Int)] w (PagerH F0 ad w n 5):=by
  have m0:Ext w (w.alloc (.cells #[.pointer none,.pointer none,.int .u64 0] 45)):=(Mods.refl _ w).alloc _
  have HL:=Lib.hid (hL.withR m0 (by simp))
  have HB0:=Lib.hid (Blk.new w #[.pointer none,.pointer none,.int .u64 0] 45)
  have HL0:=Lib.hid hL
  have HM0:=Lib.hid m0
  clear hL m0
  go_enter Tryz.func24, Tryz.ntmps24
  go_wp2_with fail
  refine (dkNew_ok n 256 h8 h256 (by omega) (by omega)).mono ?_
  rintro e w1 ⟨d,Pd,rfl,hD,hn,hm⟩
  have HN1:=Lib.hid (Nxt.of (P:=NoB) (P':=Pd) HL.out (fun _ h=>h.elim) ⟨hm,fun k hk h=>by have:=hn k h;omega,hD.bd⟩)
  have HD:=Lib.hid hD
  have HB1:=Lib.hid (HB0.out.ext hm)
  have hrl:=HB1.out.lt
  clear hD hn hm
  go_wp2_with fail
  refine (caNew_ok HN1.out.env (fun _ h=>.inr h) HD.out 5 (by omega) (by omega)).mono ?_
  rintro e w2 ⟨c,sb,bvs,F2,rfl,hC,hN2⟩
  have HC:=Lib.hid hC
  have HN2:=Lib.hid (HN1.out.trans hN2)
  have hrl2:=Nat.lt_of_lt_of_le hrl hN2.size
  clear hC hN2
  go_wp2_with fail
  refine (spNew_any n h8 h256).mono ?_
  rintro e w3 ⟨s,b2,rfl,hS,h1,h2,hm3⟩
  obtain ⟨P,F,hG,hN⟩:=PgR.made (s:=s) (b2:=b2) h8 h256 (q:=5) (by omega) (by omega) HC.out HN2.out hS hm3 h1 h2
  have rb:=hN.blk HB0.out (fun f=>f)
  have r0:=rb.cell (o:=0) rfl
  have r1:=rb.cell (o:=1) rfl
  have r2:=rb.cell (o:=2) rfl
  have rf:=rb.frozen
  have hR:∀ k,P k→k ≠ w.heap.size:=fun k hk e=>by
    subst e;exact hN.stp.old _ (by simp) hk
  have mR:Mods (fun k=>k=w.heap.size) w3 (((w3.setCell ⟨w.heap.size,0,none⟩ (.pointer (some ⟨c,0,none⟩))).setCell ⟨w.heap.size,1,none⟩ (.pointer (some ⟨s,0,none⟩))).setCell ⟨w.heap.size,2,none⟩ (.int .u64 5)):=Mods.set3 (F:=fun k=>k=w.heap.size) (Mods.refl _ w3) (.inr rfl) _ _ _
  have hG4:=hG.plus (F':=F) mR hR (fun k hk=>hN.grow k (.inr hk)) (fun _ _ h=>h)
  have HG:=Lib.hid hG4
  have HN:Hid (Nxt NoB P F0 F ad w _):=Lib.hid ⟨⟨(Mods.set3 (HM0.out.trans hN.stp.mods) (.inl (Nat.le_refl w.heap.size)) (.pointer (some ⟨c,0,none⟩)) (.pointer (some ⟨s,0,none⟩)) (.int .u64 5)),fun k hk hp=>hN.stp.old k (Nat.lt_of_lt_of_le hk HM0.out.size) hp,fun k hk=>Nat.lt_of_lt_of_le (hN.stp.bd k hk) mR.size⟩,
    hN.sub,fun k h=>hN.grow k (.inl h),fun k hk hf=>(hN.oldF k (Nat.lt_of_lt_of_le hk HM0.out.size) hf).elim id (fun e=>by omega),hN.env.mods (mR.mono (fun k hk=>hN.grow k (.inr hk)))⟩
  have HBR:=Lib.hid (Blk.set3 rb (.pointer (some ⟨c,0,none⟩)) (.pointer (some ⟨s,0,none⟩)) (.int .u64 5))
  clear hS h1 h2 hm3 hG hN hG4 mR hR rb
  go_wp2_with fail
  refine bodyPost_ret (results_row_tmp rfl _ _ w.heap.size 45 #[.pointer (some ⟨c,0,none⟩),.pointer (some ⟨s,0,none⟩),.int .u64 5] _ rfl HBR.out Tryz.underlying45 rfl Tryz.pagerSize) rfl ?_
  exact ⟨c,s,P,F,rfl,HG.out,HN.out⟩
theorem pager13_any {ad:Nat→Addr} {w:World} (hL:Env NoB ad w) (n:Nat) (h8:8≤n) (h256:n≤256) : Calls Tryz.prog 24 #[.int .i64 (n:Int)] w (PagerG ad w n 5):=pager13F_any hL n h8 h256
end Go.Proofs.YtphafjmdhmpkbaaGreatDoor
namespace Go.Proofs.YtphafjmdhmpkbaaGreatDoor
open Go.RowKit
attribute [local go_sem ↓] Go.wp_at_zero Go.wp_at_succ
section
variable {F:Nat→Prop} {ad:Nat→Addr} {w w':World}
set_option maxRecDepth 100000 in
theorem tells13_any (hL:Env F ad w) (hfu:Full ad) (ev:Value) (o:Option Err) (he:ErrR F ad w ev o) (k:Nat) (hk:k < 100) : Calls Tryz.prog 28 #[ev,.int .i64 (k:Int)] w fun e w'=>e=.returned (.bool (decide (codeO o=k)))∧w=w':=by
  have HL:=Lib.hid hL
  have HFU:=Lib.hid hfu
  clear hL hfu
  cases o with
  | none =>
    obtain rfl:ev=.nilIface:=he
    by_cases h0:k=0
    · subst h0
      go_enter Tryz.func28, Tryz.ntmps28
      go_wp2_with fail
      refine (code_nil _).mono ?_
      rintro e w1 ⟨rfl,rfl⟩
      go_wp2_with fail
      go_ret
      exact ⟨rfl,rfl⟩
    · have hd:((k:Int) == 0)=false:=by rw [beq_eq_false_iff_ne];omega
      go_enter Tryz.func28, Tryz.ntmps28
      go_wp2_with fail
      go_ret
      refine ⟨?_,rfl⟩
      have:decide (codeO none=k)=false:=by rw [decide_eq_false_iff_not];exact fun e=>h0 e.symm
      rw [this]
      rfl
  | some er =>
    obtain ⟨el,ek⟩:=er
    obtain ⟨b,rfl,he⟩:=he
    have hek:=he.code
    have HE:=Lib.hid he
    clear he
    by_cases h0:k=0
    · subst h0
      go_enter Tryz.func28, Tryz.ntmps28
      go_wp2_with fail
      go_ret
      refine ⟨?_,rfl⟩
      have:decide (codeO (some (el,ek))=0)=false:=by rw [decide_eq_false_iff_not];show ¬ ek=0;omega
      rw [this]
      rfl
    · have hd:((k:Int) == 0)=false:=by rw [beq_eq_false_iff_ne];omega
      go_enter Tryz.func28, Tryz.ntmps28
      go_wp2_with fail
      refine (code_any HL.out HFU.out _ el ek HE.out).mono ?_
      rintro e w1 ⟨rfl,rfl⟩
      go_wp2_with fail
      go_ret
      refine ⟨?_,rfl⟩
      have:decide (codeO (some (el,ek))=k)=((ek:Int) == (k:Int)):=by
        show decide (ek=k)=_
        rw [Bool.eq_iff_iff,decide_eq_true_iff,beq_iff_eq];omega
      rw [this]
      rfl
end
end Go.Proofs.YtphafjmdhmpkbaaGreatDoor
