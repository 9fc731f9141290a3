/- insert.check; insert.Put of a short pair into an empty tree. | insert.Put. | A tree that grows pair by pair on an empty disk: pages, blocks in use, room. Plain. | A whole tree on any pages: what lookup.Get and lookup.Walk tell of it. Plain. -/
import Derived.Test.YtphafjmdhmpkbaaGreatDoorK34
import Derived.Test.YtphafjmdhmpkbaaGreatDoorK35
import Derived.BigQuiet
import Derived.Test.YtphafjmdhmpkbaaGreatDoorK30
import Derived.Test.YtphafjmdhmpkbaaGreatDoorK20
import Derived.Test.YtphafjmdhmpkbaaGreatDoorK19
namespace Go.Proofs.YtphafjmdhmpkbaaGreatDoor
open Go.RowKit
attribute [local go_sem ↓] Go.wp_at_zero Go.wp_at_succ
def checkK (key v:ByteArray):Option Err:=if keyB key=false then some ([-1],2) else if 4096 < v.size then some ([-1],8) else none
section
variable {P P' F F':Nat→Prop} {ad:Nat→Addr} {w w':World} {c s:Nat} {G:GA} {l:List Nat}
set_option maxRecDepth 100000 in
theorem inCheck_any (hL:Env F ad w) (gen:Nat) (key v:ByteArray) (hfu:Full ad∨v.size≤4096) :
    Calls Tryz.prog 78 #[pgV c s gen,.string key,.string v] w fun e w'=>∃ ev,e=.returned ev∧ErrR F ad w' ev (checkK key v)∧Ext w w':=by
  unfold pgV
  have m0:Ext w (w.alloc (.cells #[.pointer (some ⟨c,0,none⟩),.pointer (some ⟨s,0,none⟩),.int .u64 (gen:Int)] 45)):=(Mods.refl _ w).alloc _
  have hL0:=hL.mods m0.ext
  have g2:=hL0.c2
  have HL:=Lib.hid hL0
  have M0:=Lib.hid m0
  have HFU:=Lib.hid hfu
  clear hL hL0 m0 hfu
  cases hk:keyB key with
  | false =>
    have HR:Hid (checkK key v=some ([-1],2)):=Lib.hid (by unfold checkK;rw [if_pos hk])
    have HK:=Lib.hid (key_any key)
    rw [hk] at HK
    clear hk
    go_enter Tryz.func78, Tryz.ntmps78
    go_wp2_with fail
    refine (HK.out _).mono ?_
    rintro e w1 ⟨rfl,rfl⟩
    go_wp2_with fail
    refine (new_any HL.out _ _ [] 2 (.sent 2 (by decide) (by decide))).mono ?_
    rintro e w1 ⟨f,rfl,hE,hm⟩
    have HE:=Lib.hid hE
    have HM:=Lib.hid hm
    clear hE hm
    go_wp2_with fail
    go_ret
    exact ⟨_,rfl,by rw [HR.out];exact ⟨f,rfl,HE.out⟩,M0.out.trans HM.out⟩
  | true =>
    have HK:=Lib.hid (key_any key)
    rw [hk] at HK
    by_cases hv:4096 < v.size
    · have HR:Hid (checkK key v=some ([-1],8)):=Lib.hid (by unfold checkK;rw [if_neg (by rw [hk];simp),if_pos hv])
      have hv2:(4096:Int) < (v.size:Int):=by omega
      have g8:=HL.out.c8 (HFU.out.resolve_right (by omega))
      clear hk hv
      go_enter Tryz.func78, Tryz.ntmps78
      go_wp2_with fail
      refine (HK.out _).mono ?_
      rintro e w1 ⟨rfl,rfl⟩
      go_wp2_with fail
      refine (new_any HL.out _ _ [] 8 (.sent 8 (by decide) (by decide))).mono ?_
      rintro e w1 ⟨f,rfl,hE,hm⟩
      have HE:=Lib.hid hE
      have HM:=Lib.hid hm
      clear hE hm
      go_wp2_with fail
      go_ret
      exact ⟨_,rfl,by rw [HR.out];exact ⟨f,rfl,HE.out⟩,M0.out.trans HM.out⟩
    · have HR:Hid (checkK key v=none):=Lib.hid (by unfold checkK;rw [if_neg (by rw [hk];simp),if_neg hv])
      have hv2:¬ (4096:Int) < (v.size:Int):=by omega
      clear hk hv
      go_enter Tryz.func78, Tryz.ntmps78
      go_wp2_with fail
      refine (HK.out _).mono ?_
      rintro e w1 ⟨rfl,rfl⟩
      go_wp2_with fail
      go_ret
      exact ⟨_,rfl,by rw [HR.out];rfl,M0.out⟩
def PutNo (F _P:Nat→Prop) (ad:Nat→Addr) (w:World) (k:Nat) (e:Ending) (w':World):Prop :=
  ∃ f el,e=.returned (.tuple #[.int .i64 0,.bool false,faultV f])∧ErrC F ad w' (faultV f) el k∧Ext w w'
set_option maxRecDepth 100000 in
theorem putNo_any (hL:Env F ad w) (gen:Nat) (root:Int) (key v:ByteArray) (hfu:Full ad∨v.size≤4096) (el:List Int) (k:Nat) (hk:checkK key v=some (el,k)) :
    Calls Tryz.prog 26 #[pgV c s gen,.int .i64 root,.string key,.string v] w (PutNo F P ad w k):=by
  have m0:Ext w (w.alloc (.cells #[.pointer (some ⟨c,0,none⟩),.pointer (some ⟨s,0,none⟩),.int .u64 (gen:Int)] 45)):=(Mods.refl _ w).alloc _
  have HC:=inCheck_any (c:=c) (s:=s) (hL.mods m0.ext) gen key v hfu
  rw [hk] at HC
  unfold pgV at HC ⊢
  have HC:=Lib.hid HC
  have M0:=Lib.hid m0
  clear hL m0 hk hfu
  go_enter Tryz.func26, Tryz.ntmps26
  go_wp2_with fail
  refine HC.out.mono ?_
  rintro e w1 ⟨ev,rfl,⟨f,rfl,hE⟩,hm⟩
  have HE:=Lib.hid hE
  have HM:=Lib.hid hm
  clear hE hm
  go_wp2_with fail
  refine bodyPost_ret (v:=.tuple #[.int .i64 0,.bool false,faultV f]) (by simp [results,Tryz.results26,go_sem]) rfl ?_
  exact ⟨f,_,rfl,HE.out,M0.out.trans HM.out⟩
end
def PutRP (F P:Nat→Prop) (ad:Nat→Addr) (w:World) (c s:Nat) (G:GA) (l:List Nat) (r:StA (Nat × Bool)) (e:Ending) (w':World):Prop :=
  ∃ (P' F':Nat→Prop) (G':GA) (l':List Nat),PgR F' w' P' c s G' l'∧Nxt P P' F F' ad w w' ∧
    ((∃ i nw, r = .inl (G', l', (i, nw)) ∧ e = .returned (.tuple #[.int .i64 ((i : Nat) : Int), .bool nw, .nilIface])) ∨
     (∃ k f el,r=.inr k∧FrG G l G' l'∧e=.returned (.tuple #[.int .i64 0,.bool false,faultV f])∧ErrC F' ad w' (faultV f) el k))
def putS (G:GA) (l:List Nat) (gen root:Nat) (key v:ByteArray):StA OutA:=if root=0 then leafA G l gen 0 leaf0 key v else putA gen key v 16 G l root
theorem putR_eq {G:GA} {l:List Nat} {gen root:Nat} {key v:ByteArray} (hk:keyB key=true) (hv:v.size≤4096):putR G l gen root key v=match putS G l gen root key v with
    | .inr k=>.inr k
    | .inl (G1,l1,o)=>if o.two=false then .inl (G1,l1,(o.id0,o.news)) else match downI G1 l1 0 (rootA o) with
      | none=>.inr (downK G1 (rootA o))
      | some i=>.inl (downG G1 l1 gen 0 (rootA o),downL G1 l1 0 (rootA o),(i,o.news)):=by
  unfold putR
  rw [show putCheck key v=none by unfold putCheck;rw [if_neg (by rw [hk];simp),if_neg (by omega)]]
  rfl
section
variable {G G1:GA} {l l1:List Nat} {gen root d:Nat} {ps:List PairS} {pgs:List Nat}
theorem putS_mid {key v:ByteArray} (hc:CtxG G l) (hT:TD G gen root d ps pgs) (hu:UseL l (fun k=>k ∈ pgs)) (hkb:keyB key=true) (hv:v.size≤4096) {o:OutA} (h:putS G l gen root key v=.inl (G1,l1,o)) :
    CtxG G1 l1∧FrG G l G1 l1∧G1.cost≤G.cost+60∧(o.two=true→keyB o.key=true):=by
  unfold putS at h
  have hs:=hc.s256
  rcases hT.tree with ⟨rfl,rfl,rfl,rfl⟩ | ⟨hd,hT2⟩
  · rw [if_pos rfl] at h
    rcases leafPut_tr (gen:=gen) (lo:=e0) (hi:=none) (n:=leaf0) (key:=key) (v:=v) (ps:=[]) (q:=[]) hc (.inl rfl) rfl rfl (by unfold weightN leaf0;simp [sumE,sumK];omega) .nil (fun x hx=>by simp at hx) (inB_all key) hkb hv List.nodup_nil (fun k hk=>by simp at hk) (fun h=>absurd rfl h) with ⟨a1,a2⟩ | ⟨G2,l2,o2,pgs,a1,a2,a3,a4,a5⟩
    · rw [a1] at h;cases h
    · have hco:=leaf_cost hv hc.s256 hc.s1024 h
      rw [a1] at h
      injection h with h
      injection h with h1 h2
      injection h2 with h2 h3
      subst h1 h2 h3
      exact ⟨a3.ctx,a3.upd.fr (fun i hi=>by rcases hi with ⟨_,h⟩ | h;exact absurd rfl h;simp at h),by omega,fun h2=>a3.keys _ (by unfold outKeys;rw [if_pos h2];simp)⟩
  · have hd7:=(hT.few hc.b256).2
    have hroot:root ≠ 0:=by
      obtain ⟨r,hr⟩:=TrD.head _ _ _ _ _ _ hT2
      have:=hT.lt root (by rw [hr];simp)
      omega
    rw [if_neg hroot] at h
    have hco:=put_cost hv 16 G l root hc.s256 hc.s1024 h
    rcases put_tr (gen:=gen) hkb hv d 16 G l root e0 none ps pgs hc hT2 hT.nodup hu (inB_all key) (by omega) with ⟨a1,a2⟩ | ⟨G2,l2,o2,pgs',a1,a2,a3,a4⟩
    · rw [a1] at h;cases h
    · rw [a1] at h
      injection h with h
      injection h with h1 h2
      injection h2 with h2 h3
      subst h1 h2 h3
      exact ⟨a3.ctx,a3.upd.fr (fun i hi=>(hT.lt i hi).1),by omega,fun h2=>a3.keys _ (by unfold outKeys;rw [if_pos h2];simp)⟩
end
section
variable {P P0 P' P1 P2 F F0 F' F1 F2:Nat→Prop} {ad:Nat→Addr} {w0 w w' w1 w2:World} {c s:Nat} {G:GA} {l:List Nat}
theorem Nxt.less (n1:Nxt P P1 F F1 ad w w1) (n2:Nxt P1 P2 F' F2 ad w1 w2) (h1:∀ k,F k→F' k) (h2:∀ k,F' k→F1 k):Nxt P P2 F F2 ad w w2 :=
  ⟨n1.stp.trans n2.stp,n2.sub,fun k h=>n2.grow k (h1 k h),fun k hk h=>n1.oldF k hk (h2 k (n2.oldF k (Nat.lt_of_lt_of_le hk n1.size) h)),n2.env⟩
def QSt (F P:Nat→Prop) (ad:Nat→Addr) (w:World) (c s gen X:Nat) (G:GA) (l:List Nat) (r:StA OutA) (ev:Value) (wx:World):Prop :=
  ∃ (P' F':Nat→Prop) (G':GA) (l':List Nat) (o:OutA),PgR F' wx P' c s G' l'∧Nxt P P' F F' ad w wx∧VarR F' P' w wx w.heap.size #[.pointer (some ⟨c,0,none⟩),.pointer (some ⟨s,0,none⟩),.int .u64 (gen:Int)] 45 ∧
    VarR F' P' w wx X (outC o) 127 ∧ ((r=.inl (G',l',o)∧ev=.nilIface)∨(∃ k f el,r=.inr k∧FrG G l G' l'∧ev=faultV f∧ErrC F' ad wx (faultV f) el k))
theorem downI_no0 {n:NodeA} (h:downI G l 0 n=none) (gen:Nat):downG G l gen 0 n=G∧downL G l 0 n=l:=by
  refine ⟨by unfold downG;rw [h],?_⟩
  unfold downI at h
  unfold downL
  split at h
  · rename_i hd
    rw [if_pos hd]
    unfold placeI at h
    rw [if_neg (by simp)] at h
    unfold placeL
    rw [if_pos rfl]
    unfold spTake
    rw [h]
  · rename_i hd;rw [if_neg hd]
theorem Sl.ids {x y:Int} {b:Nat} (hb:b < w.heap.size) (hF:¬ F b) (h0:w.cell? ⟨b,0,none⟩=some (.int .i64 x)) (h1:w.cell? ⟨b,1,none⟩=some (.int .i64 y)):Sl F w 1 encI (.slice (some ⟨b,0,none⟩) 2 2) [x,y]:=by
  refine ⟨_,2,rfl,Nat.le_refl _,by simp [maxLen],by simp,.inr ⟨b,0,rfl,hb,hF,fun i z hi j u hu=>?_⟩⟩
  have hj:j=0∧u=.int .i64 z:=by
    cases j with
    | zero=>exact ⟨rfl,by simpa [encI] using hu.symm⟩
    | succ j=>simp [encI] at hu
  obtain ⟨rfl,rfl⟩:=hj
  match i,hi with
  | 0,hi=>simp only [List.getElem?_cons_zero,Option.some.injEq] at hi;subst hi;exact h0
  | 1,hi=>simp only [List.getElem?_cons_succ,List.getElem?_cons_zero,Option.some.injEq] at hi;subst hi;exact h1
  | i+2,hi=>simp at hi
set_option maxRecDepth 100000 in
set_option maxHeartbeats 4000000 in
theorem insPutR_any {gen root d:Nat} {ps:List PairS} {pgs:List Nat} {key v:ByteArray} (hL:Env F ad w) (hP:∀ k,P k→F k) (h:PgR F w P c s G l) (hgen:gen < 18446744073709551616) (hc:CtxG G l) (hT:TD G gen root d ps pgs) (hu:UseL l (fun k=>k ∈ pgs)) (hkb:keyB key=true) (hv:v.size≤4096) (hco:G.cost+300≤1000000) :
    Calls Tryz.prog 26 #[pgV c s gen,.int .i64 (root:Int),.string key,.string v] w (PutRP F P ad w c s G l (putR G l gen root key v)):=by
  obtain ⟨w1,hw1⟩:∃ w1,w1=w.alloc (.cells #[.pointer (some ⟨c,0,none⟩),.pointer (some ⟨s,0,none⟩),.int .u64 (gen:Int)] 45):=⟨_,rfl⟩
  have m0:Ext w w1:=by rw [hw1];exact (Mods.refl _ w).alloc _
  have hz:w1.heap.size=w.heap.size+1:=by rw [hw1];simp
  have hN:Nxt P P F (fun k=>F k∨k=w.heap.size) ad w w1:=Nxt.new hL hP (Q:=fun k=>k=w.heap.size) m0 (fun k hk=>by omega) (fun k hk=>by omega)
  have hB:VarR (fun k=>F k∨k=w.heap.size) P w w1 w.heap.size #[.pointer (some ⟨c,0,none⟩),.pointer (some ⟨s,0,none⟩),.int .u64 (gen:Int)] 45:=⟨by rw [hw1];exact Blk.new w _ _,.inr rfl,fun hp=>by have:=h.bd _ hp;omega,Nat.le_refl _⟩
  have hG:=h.plusNew hP (Q:=fun k=>k=w.heap.size) m0 (fun k hk=>by omega)
  have HCK:=inCheck_any (c:=c) (s:=s) hN.env gen key v (.inr hv)
  rw [show checkK key v=none by unfold checkK;rw [if_neg (by rw [hkb];simp),if_neg (by omega)]] at HCK
  have HPS:=Lib.hid (fun (G1:GA) (l1:List Nat) (o:OutA) (h:putS G l gen root key v=.inl (G1,l1,o))=>putS_mid hc hT hu hkb hv h)
  have HPR:=Lib.hid (putR_eq (G:=G) (l:=l) (gen:=gen) (root:=root) hkb hv)
  have HC:=Lib.hid hc
  have HT:=Lib.hid hT
  have HU:=Lib.hid hu
  have HB1:=Lib.hid hB
  have HN1:=Lib.hid hN
  have HG1:=Lib.hid hG
  have HFW:=Lib.hid (fun k (hk:F k)=>hL.lt k hk)
  have HW1:=Lib.hid hw1
  unfold pgV at HCK ⊢
  have HCK:=Lib.hid HCK
  clear hL hP h m0 hN hB hG hc hT hu hw1
  go_enter Tryz.func26, Tryz.ntmps26
  go_wp2_with fail
  rw [← HW1.out]
  refine HCK.out.mono ?_
  rintro e w2 ⟨ev,rfl,hE,hm2⟩
  cases hE
  have hN2:=HN1.out.trans (Nxt.ext HN1.out.env HN1.out.sub hm2)
  have hz2:=hm2.size
  obtain ⟨g1,g2,g3⟩:=grow1 (w0:=w) hN2 (HG1.out.at hm2) outZc 127 (by omega)
  obtain ⟨w3,hw3⟩:∃ w3,w3=w2.alloc (.cells outZc 127):=⟨_,rfl⟩
  obtain ⟨X,hX⟩:∃ X,X=w2.heap.size:=⟨_,rfl⟩
  obtain ⟨F3,hF3⟩:∃ F3:Nat→Prop,F3=fun k=>(F k∨k=w.heap.size)∨k=w2.heap.size:=⟨_,rfl⟩
  rw [← hF3,← hw3] at g1 g2 g3
  rw [← hX] at g3
  have HN3:=Lib.hid (hN2.trans g1)
  have HG3:=Lib.hid g2
  have HX3:=Lib.hid g3
  have HB3:=Lib.hid ((HB1.out.ext hm2).nxt g1)
  have HXZ:Hid (w.heap.size < X):=Lib.hid (by omega)
  have b0:=HB3.out.blk.cell (o:=0) rfl
  have b1:=HB3.out.blk.cell (o:=1) rfl
  have b2:=HB3.out.blk.cell (o:=2) rfl
  have x0:=HX3.out.blk.cell (o:=0) rfl
  have x1:=HX3.out.blk.cell (o:=1) rfl
  have x2:=HX3.out.blk.cell (o:=2) rfl
  have x3:=HX3.out.blk.cell (o:=3) rfl
  have x4:=HX3.out.blk.cell (o:=4) rfl
  have xf:=HX3.out.blk.frozen
  have HW3:=Lib.hid hw3
  have HXD:=Lib.hid hX
  clear hN2 g1 g2 g3 hw3 hX hF3 hm2 hz2
  go_upto_if 23 with fail
  rw [← HXD.out,← HW3.out]
  go_cut [13] (fun v13 wx=>∃ ev,v13=ev∧Hid (QSt F P ad w c s gen X G l (putS G l gen root key v) ev wx))
  case first =>
    by_cases hr:root=0
    · subst hr
      have hlo:LeafOk G l gen 0 leaf0 key v:=leafOk_of (ps:=[]) (q:=[]) HC.out (.inl rfl) rfl rfl (by unfold weightN leaf0;have:=HC.out.s256;simp [sumE,sumK];omega) .nil hkb hv List.nodup_nil (fun k hk=>by simp at hk) (fun h=>absurd rfl h) (by omega)
      have HLF:=insLeaf_any (w:=w3) leaf0 key v HN3.out.env HN3.out.sub HG3.out gen 0 hgen (.slice none 0 0) (.slice none 0 0) (.slice none 0 0) (Sl.nil _ _ _ _) (Sl.nil _ _ _ _) (Sl.nil _ _ _ _) hlo
      have HPZ:Hid (putS G l gen 0 key v=leafA G l gen 0 leaf0 key v):=Lib.hid (by unfold putS;rw [if_pos rfl])
      unfold pgV at HLF
      rw [show ((0:Nat):Int)=0 from rfl] at HLF ⊢
      have HLF:=Lib.hid HLF
      clear hlo
      go_wp2_with fail
      refine HLF.out.mono ?_
      rintro e w9 hq
      obtain ⟨P9,F9,G9,l9,o,ev,hG9,hN9,rfl,hr9⟩:=hq.q
      have hX9:=HX3.out.nxt hN9
      have HB9:=Lib.hid (HB3.out.nxt hN9)
      have x0:=hX9.blk.cell (o:=0) rfl
      have x1:=hX9.blk.cell (o:=1) rfl
      have x2:=hX9.blk.cell (o:=2) rfl
      have x3:=hX9.blk.cell (o:=3) rfl
      have x4:=hX9.blk.cell (o:=4) rfl
      have xf:=hX9.blk.frozen
      have mX:=Mods.set5 (F:=fun k=>k=X) (Mods.refl _ w9) (R:=X) (.inr rfl) (.int .i64 (o.id0:Int)) (.int .i64 (o.id1:Int)) (.string o.key) (.bool o.two) (.bool o.news)
      have hmF:=hX9.mF mX
      have HQ:Hid (QSt F P ad w c s gen X G l (putS G l gen 0 key v) ev (((((w9.setCell ⟨X,0,none⟩ (.int .i64 (o.id0:Int))).setCell ⟨X,1,none⟩ (.int .i64 (o.id1:Int))).setCell ⟨X,2,none⟩ (.string o.key)).setCell ⟨X,3,none⟩ (.bool o.two)).setCell ⟨X,4,none⟩ (.bool o.news))):=Lib.hid (by
        refine ⟨P9,F9,G9,l9,o,hG9.var hX9 mX,(HN3.out.trans hN9).var hX9 mX,HB9.out.other mX (by have:=HXZ.out;omega),⟨hX9.blk.set5 _ _ _ _ _,hX9.f,hX9.p,hX9.new⟩,?_⟩
        rw [HPZ.out]
        rcases hr9 with h9 | ⟨k,f9,el,h1,h2,h3,h4⟩
        · exact .inl h9
        · exact .inr ⟨k,f9,el,h1,h2,h3,h4.mods hmF⟩)
      clear hq hG9 hN9 hr9 hX9 mX hmF
      go_wp2_with fail
      go_meet
      exact ⟨ev,rfl,HQ⟩
    · have hri:¬ (root:Int)=0:=by omega
      have hT2:1≤d∧TrD G gen d e0 none root ps pgs:=by
        rcases HT.out.tree with ⟨h,_⟩ | h
        · exact absurd h hr
        · exact h
      have hd7:=(HT.out.few HC.out.b256).2
      have HLF:=insPut_any (w:=w3) hgen hkb hv d 16 root e0 none ps pgs 1 HN3.out.env HN3.out.sub HG3.out HC.out hT2.2 HT.out.nodup HU.out (inB_all key) (by omega) (by omega) (by omega) hco
      have HPZ:Hid (putS G l gen root key v=putA gen key v 16 G l root):=Lib.hid (by unfold putS;rw [if_neg hr])
      unfold pgV at HLF
      rw [show ((1:Nat):Int)=1 from rfl] at HLF
      have HLF:=Lib.hid HLF
      clear hT2 hd7 hr
      go_wp2_with fail
      refine HLF.out.mono ?_
      rintro e w9 hq
      obtain ⟨P9,F9,G9,l9,o,ev,hG9,hN9,rfl,hr9⟩:=hq.q
      have hX9:=HX3.out.nxt hN9
      have HB9:=Lib.hid (HB3.out.nxt hN9)
      have x0:=hX9.blk.cell (o:=0) rfl
      have x1:=hX9.blk.cell (o:=1) rfl
      have x2:=hX9.blk.cell (o:=2) rfl
      have x3:=hX9.blk.cell (o:=3) rfl
      have x4:=hX9.blk.cell (o:=4) rfl
      have xf:=hX9.blk.frozen
      have mX:=Mods.set5 (F:=fun k=>k=X) (Mods.refl _ w9) (R:=X) (.inr rfl) (.int .i64 (o.id0:Int)) (.int .i64 (o.id1:Int)) (.string o.key) (.bool o.two) (.bool o.news)
      have hmF:=hX9.mF mX
      have HQ:Hid (QSt F P ad w c s gen X G l (putS G l gen root key v) ev (((((w9.setCell ⟨X,0,none⟩ (.int .i64 (o.id0:Int))).setCell ⟨X,1,none⟩ (.int .i64 (o.id1:Int))).setCell ⟨X,2,none⟩ (.string o.key)).setCell ⟨X,3,none⟩ (.bool o.two)).setCell ⟨X,4,none⟩ (.bool o.news))):=Lib.hid (by
        refine ⟨P9,F9,G9,l9,o,hG9.var hX9 mX,(HN3.out.trans hN9).var hX9 mX,HB9.out.other mX (by have:=HXZ.out;omega),⟨hX9.blk.set5 _ _ _ _ _,hX9.f,hX9.p,hX9.new⟩,?_⟩
        rw [HPZ.out]
        rcases hr9 with h9 | ⟨k,f9,el,h1,h2,h3,h4⟩
        · exact .inl h9
        · exact .inr ⟨k,f9,el,h1,h2,h3,h4.mods hmF⟩)
      clear hq hG9 hN9 hr9 hX9 mX hmF
      go_wp2_with fail
      go_meet
      exact ⟨ev,rfl,HQ⟩
  obtain ⟨ev,rfl,HQ⟩:=hcut
  obtain ⟨w4,hw4⟩:∃ w4,w4=wc:=⟨_,rfl⟩
  rw [← hw4] at HQ ⊢
  obtain ⟨P4,F4,G4,l4,o,hG4,hN4,hB4,hX4,hr⟩:=HQ.out
  have HG4:=Lib.hid hG4
  have HN4:=Lib.hid hN4
  have HB4:=Lib.hid hB4
  have HX4:=Lib.hid hX4
  have b0:=hB4.blk.cell (o:=0) (v:=.pointer (some ⟨c,0,none⟩)) rfl
  have b1:=hB4.blk.cell (o:=1) (v:=.pointer (some ⟨s,0,none⟩)) rfl
  have b2:=hB4.blk.cell (o:=2) (v:=.int .u64 (gen:Int)) rfl
  have x0:=hX4.blk.cell (o:=0) (v:=.int .i64 (o.id0:Int)) rfl
  have x1:=hX4.blk.cell (o:=1) (v:=.int .i64 (o.id1:Int)) rfl
  have x2:=hX4.blk.cell (o:=2) (v:=.string o.key) rfl
  have x3:=hX4.blk.cell (o:=3) (v:=.bool o.two) rfl
  have x4:=hX4.blk.cell (o:=4) (v:=.bool o.news) rfl
  clear hG4 hN4 hB4 hX4 hw4 xf HQ
  rcases hr with ⟨hs,rfl⟩ | ⟨k,f4,el,hs,hfr,rfl,hE⟩
  · have HS:=Lib.hid hs
    have HPM:=Lib.hid (HPS.out _ _ _ hs)
    obtain ⟨tw,htw⟩:∃ tw,o.two=tw:=⟨_,rfl⟩
    rw [htw] at x3
    have HTW:=Lib.hid htw
    clear hs htw
    cases tw with
    | false =>
      go_wp2_with fail
      go_quiet (fail)
      go_wp2_with fail
      refine bodyPost_ret (v:=.tuple #[.int .i64 (o.id0:Int),.bool o.news,.nilIface]) (by simp [results,Tryz.results26,go_sem]) rfl ?_
      exact ⟨P4,F4,G4,l4,HG4.out.at ((Mods.refl _ _).drewN _),HN4.out.trans (Nxt.ext HN4.out.env HN4.out.sub ((Mods.refl _ _).drewN _)),.inl ⟨o.id0,o.news,by rw [HPR.out,HS.out];simp only;rw [if_pos HTW.out],rfl⟩⟩
    | true =>
      obtain ⟨w5,hw5⟩:∃ w5,w5=(w4.alloc (.cells #[.string o.key] 9)).drew:=⟨_,rfl⟩
      have m5:Ext w4 w5:=by rw [hw5];exact ((Mods.refl _ _).alloc _).drew
      obtain ⟨hc4,hf4,hco4,hk4⟩:=HPM.out
      have hX5:=HX4.out.ext m5
      have hne:∀ k,P4 k→F4 k∧k ≠ X:=fun k hk=>⟨HN4.out.sub k hk,fun e=>HX4.out.p (e ▸ hk)⟩
      have hkx:=(keyB_iff _).1 (hk4 HTW.out)
      have hsl1:Sl (fun k=>F4 k∧k ≠ X) w5 1 encS (.slice (some ⟨w4.heap.size,0,none⟩) 1 1) [o.key]:=by
        have h1:Sl (fun k=>F4 k∧k ≠ X) (w4.alloc (.cells #[.string o.key] 9)) 1 encS (.slice (some ⟨w4.heap.size,0,none⟩) 1 1) [o.key]:=Sl.one (t := 9) (fz:=(0,0)) (heap_at rfl) (fun f=>Nat.lt_irrefl _ (HN4.out.env.lt _ f.1))
        rw [hw5];exact h1.ext (Mods.refl _ _).drew
      have hsl2:Sl (fun k=>F4 k∧k ≠ X) w5 1 encI (.slice (some ⟨X,0,none⟩) 2 2) [(o.id0:Int),(o.id1:Int)]:=Sl.ids hX5.blk.lt (fun h=>h.2 rfl) (hX5.blk.cell (o:=0) rfl) (hX5.blk.cell (o:=1) rfl)
      have HDN:=down_any (w:=w5) ((HN4.out.env.mods m5.ext).anti (fun k h=>h.1)) hne ((HG4.out.at m5).anti (fun k h=>h.1)) gen 0 hgen (rootA o) (.slice none 0 0) (.slice (some ⟨w4.heap.size,0,none⟩) 1 1) (.slice (some ⟨X,0,none⟩) 2 2) (Sl.nil _ _ _ _) hsl1 hsl2
        (fun hr=>by have h1:=weight_len (form_right hr);have h2:weightN (rootA o)≤100:=by { unfold weightN rootA;simp [sumE,sumK];omega };omega) (.inl rfl) (.inl rfl) (by omega) (by have:=hc4.len;omega) (by omega)
      unfold pgV at HDN
      rw [show ((0:Nat):Int)=0 from rfl,show (rootA o).leaf=false from rfl,hw5] at HDN
      have HDN:=Lib.hid HDN
      have HNE:=Lib.hid hne
      have HF4:=Lib.hid hf4
      have b0a:=cell_alloc b0 (.cells #[.string o.key] 9)
      have b1a:=cell_alloc b1 (.cells #[.string o.key] 9)
      have b2a:=cell_alloc b2 (.cells #[.string o.key] 9)
      have x2a:=cell_alloc x2 (.cells #[.string o.key] 9)
      have ne0:=World.new_ne w4 _ b0
      have ne1:=World.new_ne w4 _ b1
      have ne2:=World.new_ne w4 _ b2
      have ne3:=World.new_ne w4 _ x2
      clear hc4 hf4 hco4 hk4 hX5 hne hkx hsl1 hsl2
      rw [hw5] at m5
      have M5:=Lib.hid m5
      clear m5 hw5
      go_wp2_with fail
      go_region_held3 (fun w'=>w'.cell? ⟨w.heap.size,0,none⟩=some (.pointer (some ⟨c,0,none⟩))∧w'.cell? ⟨w.heap.size,1,none⟩=some (.pointer (some ⟨s,0,none⟩))∧w'.cell? ⟨w.heap.size,2,none⟩=some (.int .u64 (gen:Int))∧w'.cell? ⟨X,2,none⟩=some (.string o.key))
        (first | (with_reducible exact ⟨b0,b1,b2,x2⟩) | (with_reducible exact ⟨b0a,b1a,b2a,x2a⟩) | (with_reducible exact ⟨y0,y1,y2,y3⟩) | go_keep)
        (first
          | (go_at_call 81;refine (HDN.out).mono ?_;rintro e w9 ⟨P9,F9,hG9,hN9,hr9⟩;obtain ⟨iv,ev,rfl⟩:=hr9.form;have hB9:=(HB4.out.ext M5.out);have y0:=cellP hN9.stp.mods (hB9.blk.cell (o:=0) (v:=.pointer (some ⟨c,0,none⟩)) rfl) HB4.out.p;have y1:=cellP hN9.stp.mods (hB9.blk.cell (o:=1) (v:=.pointer (some ⟨s,0,none⟩)) rfl) HB4.out.p;have y2:=cellP hN9.stp.mods (hB9.blk.cell (o:=2) (v:=.int .u64 (gen:Int)) rfl) HB4.out.p;have y3:=cellP hN9.stp.mods ((HX4.out.ext M5.out).blk.cell (o:=2) (v:=.string o.key) rfl) HX4.out.p)
          | fail)
      have hn9:=Nxt.less (HN4.out.trans (Nxt.ext HN4.out.env HN4.out.sub M5.out)) hN9 (fun k hk=>⟨HN4.out.grow k hk,fun e=>by have:=HFW.out k hk;have:=HXZ.out;omega⟩) (fun k h=>h.1)
      have x4:=(hN9.blk (HX4.out.ext M5.out).blk HX4.out.p).cell (o:=4) (v:=.bool o.news) rfl
      have HN9:=Lib.hid hn9
      have HG9:=Lib.hid hG9
      clear hN9 hG9 hn9 hB9 y0 y1 y2 y3 b0 b1 b2 x0 x1 x2 x3 b0a b1a b2a x2a ne0 ne1 ne2 ne3
      rcases hr9 with ⟨i,hi,he⟩ | ⟨hno,f,el,he,hE⟩
      · obtain ⟨rfl,rfl⟩:iv=.int .i64 (i:Int)∧ev=.nilIface:=by simpa using he
        have HI:=Lib.hid hi
        clear hi he
        go_wp2_with fail
        go_quiet (fail)
        go_wp2_with fail
        refine bodyPost_ret (v:=.tuple #[.int .i64 (i:Int),.bool o.news,.nilIface]) (by simp [results,Tryz.results26,go_sem]) rfl ?_
        exact ⟨P9,F9,_,_,HG9.out.at ((Mods.refl _ _).drewN _),HN9.out.trans (Nxt.ext HN9.out.env HN9.out.sub ((Mods.refl _ _).drewN _)),.inl ⟨i,o.news,by rw [HPR.out,HS.out];simp only;rw [if_neg (by rw [HTW.out];simp),HI.out],rfl⟩⟩
      · obtain ⟨rfl,rfl⟩:iv=.int .i64 0∧ev=faultV f:=by simpa using he
        have HNO:=Lib.hid hno
        have HE:=Lib.hid hE
        clear hno hE he
        go_wp2_with fail
        refine (wrap_any HN9.out.env _ _ _ _ HE.out).mono ?_
        rintro e w10 ⟨b,rfl,hE5,hm5⟩
        have HE5:=Lib.hid hE5
        have HM5:=Lib.hid hm5
        clear hE5 hm5
        go_wp2_with fail
        refine bodyPost_ret (v:=.tuple #[.int .i64 0,.bool false,faultV b]) (by simp [results,Tryz.results26,go_sem]) rfl ?_
        refine ⟨P9,F9,_,_,HG9.out.at HM5.out,HN9.out.trans (Nxt.ext HN9.out.env HN9.out.sub HM5.out),.inr ⟨_,b,_,by rw [HPR.out,HS.out];simp only;rw [if_neg (by rw [HTW.out];simp),HNO.out],?_,rfl,HE5.out⟩⟩
        rw [(downI_no0 HNO.out gen).1,(downI_no0 HNO.out gen).2]
        exact HF4.out
  · have HS:=Lib.hid hs
    have HE:=Lib.hid hE
    have HFR:=Lib.hid hfr
    clear hs hE hfr
    go_wp2_with fail
    refine (wrap_any HN4.out.env _ _ _ _ HE.out).mono ?_
    rintro e w5 ⟨b,rfl,hE5,hm5⟩
    have HE5:=Lib.hid hE5
    have HM5:=Lib.hid hm5
    clear hE5 hm5
    go_wp2_with fail
    refine bodyPost_ret (v:=.tuple #[.int .i64 0,.bool false,faultV b]) (by simp [results,Tryz.results26,go_sem]) rfl ?_
    exact ⟨P4,F4,G4,l4,HG4.out.at HM5.out,HN4.out.trans (Nxt.ext HN4.out.env HN4.out.sub HM5.out),.inr ⟨k,b,_,by rw [HPR.out,HS.out],HFR.out,rfl,HE5.out⟩⟩
end
end Go.Proofs.YtphafjmdhmpkbaaGreatDoor
namespace Go.Proofs.YtphafjmdhmpkbaaGreatDoor
open Go.RowKit
structure Lawn (n:Nat) (G:GA) (l:List Nat) (root d:Nat) (ps:List PairS) (pgs:List Nat):Prop where
  ctx:CtxG G l
  td:TD G 5 root d ps pgs
  blk:G.blocks=n
  size:G.size=256
  lay:∀ i,i < n→l[i]? = some (if i < 2 then 1 else if i ∈ pgs then 2 else 0)
  val:∀ x ∈ ps,x.2.size≤400
  room:phiL l+(pgs.length:Int)=(n:Int) - 4
structure Lot (n:Nat) (G:GA) (l:List Nat) (root d:Nat) (ps:List PairS) (pgs:List Nat):Prop where
  ctx:CtxG G l
  td:TD G 5 root d ps pgs
  used:usedTo l l.length=usedP (iL pgs) n
section
variable {n:Nat} {G:GA} {l:List Nat} {root d:Nat} {ps:List PairS} {pgs:List Nat}
theorem Lawn.use (h:Lawn n G l root d ps pgs):UseL l (fun k=>k ∈ pgs):=fun i hi=>by
  have hb:=h.td.lt i hi
  have:=h.lay i (by have:=h.blk;omega)
  rw [if_neg (by omega),if_pos hi] at this
  exact .inr this
theorem Lawn.used (h:Lawn n G l root d ps pgs):usedTo l l.length=usedP (iL pgs) n:=by
  have hl:l.length=n:=by rw [h.ctx.len,h.blk]
  unfold usedTo usedP
  rw [hl]
  congr 1
  refine List.filter_congr (fun i hi=>?_)
  have hi:=List.mem_range.1 hi
  have:=h.lay i hi
  have hg:l.getD i 0=(if i < 2 then 1 else if i ∈ pgs then 2 else 0):=by simp [List.getD,this]
  rw [hg]
  have hc:(iL pgs).contains (i:Int)=decide (i ∈ pgs):=by
    rw [Bool.eq_iff_iff,List.contains_iff_mem,decide_eq_true_iff]
    unfold iL
    rw [List.mem_map]
    exact ⟨fun ⟨a, h1, h2⟩ => by have : a = i := by omega
                                 exact this ▸ h1,fun h=>⟨i,h,rfl⟩⟩
  rw [hc]
  by_cases h2:i < 2
  · rw [if_pos h2];simp [spIn,h2]
  · rw [if_neg h2]
    by_cases h3:i ∈ pgs
    · rw [if_pos h3];simp [spIn,h3]
    · rw [if_neg h3];simp [spIn,h2,h3]
theorem Lawn.lot (h:Lawn n G l root d ps pgs):Lot n G l root d ps pgs:=⟨h.ctx,h.td,h.used⟩
theorem putR_cost {G':GA} {l':List Nat} {r:Nat × Bool} {gen:Nat} {key v:ByteArray} (hc:CtxG G l) (hT:TD G gen root d ps pgs) (hu:UseL l (fun k=>k ∈ pgs)) (hkb:keyB key=true) (hv:v.size≤4096) (h:putR G l gen root key v=.inl (G',l',r)):G'.cost≤G.cost+61:=by
  rw [putR_eq hkb hv] at h
  cases hs:putS G l gen root key v with
  | inr k=>rw [hs] at h;cases h
  | inl x =>
    obtain ⟨G1,l1,o⟩:=x
    obtain ⟨_,_,h3,_⟩:=putS_mid hc hT hu hkb hv hs
    rw [hs] at h
    simp only at h
    split at h
    · injection h with h;injection h with h _;subst h;omega
    · split at h
      · cases h
      · injection h with h;injection h with h _;subst h
        have:=(downG_lim G1 l1 gen 0 (rootA o)).2.2
        omega
theorem Lawn.put (h:Lawn n G l root d ps pgs) {key v:ByteArray} (hkb:keyB key=true) (hv:v.size≤400) :
    (putR G l 5 root key v=.inr 3∧phiL l≤(ndV G.size v:Nat)+d+1) ∨
    ∃ G' l' root' d' pgs',putR G l 5 root key v=.inl (G',l',(root',(findP key ps).isNone))∧Lawn n G' l' root' d' (withP key v true ps) pgs'∧G'.cost≤G.cost+61∧2≤root':=by
  rcases putR_tr h.ctx h.td h.use hkb (show v.size≤4096 by omega) with a | ⟨G',l',root',d',pgs',a1,a2,a3,a4,a5,a6,a7⟩
  · exact .inl a
  · refine .inr ⟨G',l',root',d',pgs',a1,⟨a5,a3,by rw [a2.bl,h.blk],by rw [a2.sz,h.size],fun i hi=>?_,fun x hx=>?_,?_⟩,putR_cost h.ctx h.td h.use hkb (by omega) a1,a6⟩
    · have hl:=h.lay i hi
      by_cases h2:i ∈ pgs'
      · have hlt:=a3.lt i h2
        rw [if_neg (by omega),if_pos h2]
        rcases a2.inn i h2 with ⟨b1,b2⟩ | ⟨_,b2⟩
        · rw [b2,hl,if_neg (by omega),if_pos b1]
        · exact b2
      · by_cases h1:i ∈ pgs
        · have hlt:=h.td.lt i h1
          rw [if_neg (by omega),if_pos h1] at hl
          rw [if_neg (by omega),if_neg h2]
          rcases a2.gone i h1 h2 with ⟨_,b2⟩ | ⟨b1,_⟩
          · exact b2
          · rw [hl] at b1;cases b1
        · rw [(a2.rest i h1 h2).1,hl,if_neg h1,if_neg h2]
    · rcases mem_withP hx with rfl | hx
      · exact hv
      · exact h.val x hx
    · have:=a2.phi h.use h.td.nodup a3.nodup
      have:=h.room
      omega
theorem ndV_400 (v:ByteArray) (h:v.size≤400):ndV 256 v≤2:=by
  unfold ndV
  split
  · omega
  · unfold ndS;omega
theorem chS_400:∀ (ps:List PairS),(∀ x ∈ ps,x.2.size≤400)→chS 256 ps≤2 * ps.length
  | [],_=>by simp [chS]
  | x :: ps,h=>by
    have h1:=chS_400 ps (fun y hy=>h y (List.mem_cons_of_mem _ hy))
    have h2:=ndV_400 x.2 (h x List.mem_cons_self)
    rw [chS_cons,List.length_cons]
    omega
theorem Lawn.fits (h:Lawn 250 G l root d ps pgs) (hf:ps.length≤40) {key v:ByteArray} (hkb:keyB key=true) (hv:v.size≤400) :
    ∃ G' l' root' d' pgs',putR G l 5 root key v=.inl (G',l',(root',(findP key ps).isNone))∧Lawn 250 G' l' root' d' (withP key v true ps) pgs'∧G'.cost≤G.cost+61∧2≤root':=by
  rcases h.put hkb hv with ⟨_,a⟩ | a
  · have hcn:=h.td.count.1
    have hd:=(h.td.few h.ctx.b256).2
    have h1:=chS_400 ps h.val
    have h2:=ndV_400 v hv
    have h3:=h.room
    rw [h.size] at a hcn
    have h4:pgs.length≤2 * ps.length+chS 256 ps:=by omega
    omega
  · exact a
theorem Lawn.new (n:Nat) (h:n=250∨n=12):Lawn n (G0 n) (spNew n) 0 0 [] []:=by
  have e:∀ i,i < n→(spNew n)[i]? = some (if i < 2 then 1 else if i ∈ ([]:List Nat) then 2 else 0):=by
    rcases h with rfl | rfl
    · decide +kernel
    · decide +kernel
  refine ⟨⟨?_,?_,?_,by show 256≤256;omega,by show 256≤1024;omega⟩,TD.none _ _,rfl,rfl,e,fun x hx=>by simp at hx,?_⟩
  · unfold LowL
    rcases h with rfl | rfl <;> decide +kernel
  · show (spNew n).length=n
    rcases h with rfl | rfl <;> decide +kernel
  · show n≤256
    rcases h with rfl | rfl <;> omega
  · rcases h with rfl | rfl <;> decide +kernel
end
section
variable {G G':GA} {gen:Nat} {T:TreeT} {lo:ByteArray} {hi:Option ByteArray} {l:List PairS} {q:List Nat} {kk:List ByteArray} {cc:List Int}
theorem Kids.parts (h:Kids T lo hi kk cc l q):∃ (parts:List (List PairS × List Nat)),parts.length=cc.length∧l=(parts.map (·.1)).flatten∧q=(parts.map (·.2)).flatten ∧
    ∀ (i:Nat) (k:Int) (p:List PairS × List Nat),cc[i]? = some k→parts[i]? = some p→∃ c:Nat,k=(c:Int)∧T (loAt lo kk i) (hiAt hi kk i) c p.1 p.2:=by
  induction h with
  | @one lo hi c l q h =>
    refine ⟨[(l,q)],rfl,by simp,by simp,fun i k p hk hp=>?_⟩
    match i,hk,hp with
    | 0,hk,hp =>
      simp at hk hp
      subst hk hp
      exact ⟨c,rfl,h⟩
    | i+1,hk,_=>simp at hk
  | @cons lo hi s c keys kids l1 l2 q1 q2 h h2 h3 ih =>
    obtain ⟨parts,e1,rfl,rfl,e4⟩:=ih
    have hlen:=h3.len
    refine ⟨(l1,q1) :: parts,by simp [e1],by simp,by simp,fun i k p hk hp=>?_⟩
    match i,hk,hp with
    | 0,hk,hp =>
      simp at hk hp
      subst hk hp
      exact ⟨c,rfl,h⟩
    | i+1,hk,hp =>
      simp only [List.getElem?_cons_succ] at hk hp
      obtain ⟨c',rfl,hT⟩:=e4 i k p hk hp
      refine ⟨c',rfl,?_⟩
      have e5:loAt lo (s :: keys) (i+1)=loAt s keys i:=by
        unfold loAt
        rw [if_neg (by omega),Nat.add_sub_cancel]
        by_cases h0:i=0
        · subst h0;simp
        · rw [if_neg h0]
          have hik:=(List.getElem?_eq_some_iff.1 hk).1
          obtain ⟨j,rfl⟩:∃ j,i=j+1:=⟨i - 1,by omega⟩
          have:j < keys.length:=by omega
          simp [List.getD,this]
      have e6:hiAt hi (s :: keys) (i+1)=hiAt hi keys i:=by unfold hiAt;rw [List.getElem?_cons_succ]
      rw [e5,e6]
      exact hT
theorem EntC.tells {e:EntryA} {v:ByteArray} {ids:List Nat} (h:EntC G gen e v ids) (hs:256≤G.size) (hb:G.blocks≤256):tellsE G.R2 e=some v:=by
  unfold tellsE
  rcases h with ⟨c1,c2,_⟩ | ⟨c1,c2⟩
  · rw [if_pos c1,c2]
  · rw [if_neg c1]
    obtain ⟨_,w2,_,w4⟩:=c2.walk hs hb
    unfold GA.R2
    rw [if_pos w2,w4]
theorem Ents.tells {es:List EntryA} (h:Ents G gen es l q) (hs:256≤G.size) (hb:G.blocks≤256):∀ (i:Nat) (e:EntryA) (x:PairS),es[i]? = some e→l[i]? = some x→e.key=x.1∧tellsE G.R2 e=some x.2:=by
  induction h with
  | nil=>intro i e x he;simp at he
  | @cons e x ids es l q h1 h2 _ ih =>
    intro i f y hf hy
    match i,hf,hy with
    | 0,hf,hy =>
      simp at hf hy
      subst hf hy
      exact ⟨h1,h2.tells hs hb⟩
    | i+1,hf,hy=>exact ih i f y (by simpa using hf) (by simpa using hy)
theorem TrD.tr (hs:256≤G.size) (hb:G.blocks≤256):∀ (d:Nat) (lo:ByteArray) (hi:Option ByteArray) (id:Nat) (l:List PairS) (q:List Nat),TrD G gen d lo hi id l q→Tr G.node G.R2 lo hi id d l
  | 0,_,_,_,_,_,h=>h.elim
  | d+1,lo,hi,id,l,q,h=>by
    obtain ⟨n,q,hp,hr,rfl,h⟩:=h
    have hn:=(pg_load hp).2
    rcases h with ⟨hl,rfl,hne,he,hbd⟩ | ⟨hl,hk⟩
    · exact .leaf hn hl hr he.len (he.tells hs hb) hbd
    · obtain ⟨parts,e1,rfl,rfl,e4⟩:=hk.parts
      refine .inner hn hl hr (by rw [List.length_map];exact e1) (fun i k p hkk hp=>?_) hk.keysIn
      rw [List.getElem?_map,Option.map_eq_some_iff] at hp
      obtain ⟨pp,hpp,rfl⟩:=hp
      obtain ⟨c,rfl,hT⟩:=e4 i k pp hkk hpp
      rw [Int.toNat_natCast]
      exact TrD.tr hs hb d _ _ _ _ _ hT
theorem TD.treeG {root d:Nat} {ps:List PairS} {pgs:List Nat} (h:TD G gen root d ps pgs) (hs:256≤G.size) (hb:G.blocks≤256):TreeG G root d ps:=by
  rcases h.tree with ⟨rfl,rfl,rfl,rfl⟩ | ⟨hd,hT⟩
  · exact .inl ⟨rfl,rfl,rfl⟩
  · have h7:=(h.few hb).2
    obtain ⟨r,hr⟩:=TrD.head _ _ _ _ _ _ hT
    have h2:=h.lt root (by rw [hr];simp)
    exact .inr ⟨h2.1,by omega,by omega,TrD.tr hs hb _ _ _ _ _ _ hT⟩
/-! ### walk -/
theorem chained_goD {e:EntryA} {v:ByteArray} {ids:List Nat} (h:EntC G gen e v ids) (hs:256≤G.size) (hb:G.blocks≤256) (st:WkS) (hn:(st.pages ++ iL ids).Nodup):chainedW G gen e st=.inl { st with pages:=st.pages ++ iL ids }:=by
  unfold chainedW
  rcases h with ⟨c1,_,c3⟩ | ⟨c1,c2⟩
  · rw [if_pos c1,c3];simp [iL]
  · rw [if_neg c1]
    obtain ⟨w1,_,w3,_⟩:=c2.walk hs hb
    rw [w1,w3]
    refine ids_go ids (fun i hi=>?_) st hn
    obtain ⟨j,hj,hji⟩:=List.getElem_of_mem hi
    obtain ⟨g,hg,hpg⟩:=c2.page
    have hv:=hpg j hj
    have e:ids.getD j 0=i:=by simp [List.getD,hj,hji]
    rw [e] at hv
    refine ⟨chPage g v.data.toList (G.size - 28) ids j,?_⟩
    unfold youngW
    rw [get_view (c2.lt i hi).2 hv]
    simp only
    rw [if_neg (by show ¬ gen < g;omega)]
theorem ents_goD {a:Place} (hs:256≤G.size) (hb:G.blocks≤256) {es:List EntryA} (h:Ents G gen es l q):∀ (st:WkS),((es.map (·.key)).Pairwise fun a b=>ltS a b=true)→(∀ e ∈ es,ltS st.last e.key=true∧ltS e.key a.lo=false∧(a.hi ≠ e0→ltS e.key a.hi=true))→(st.pages ++ iL q).Nodup →
    entsW G gen a es st=.inl { st with pages:=st.pages ++ iL q,keys:=st.keys ++ es.map (·.key) }:=by
  induction h with
  | nil=>intro st _ _ _;simp [iL,entsW]
  | @cons e x ids es l q h1 h2 h3 ih =>
    intro st hr hk hn
    obtain ⟨k1,k2,k3⟩:=hk e List.mem_cons_self
    rw [List.map_cons,List.pairwise_cons] at hr
    rw [iL_app] at hn
    have hbad:entBad a st e=false:=by
      unfold entBad
      rw [leS_not k1,k2]
      by_cases hh:a.hi=e0
      · simp [hh]
      · rw [leS_not (k3 hh)];simp
    have hcg:=chained_goD h2 hs hb { st with keys:=st.keys ++ [e.key] } (by
      refine hn.sublist ?_
      rw [← List.append_assoc]
      exact List.sublist_append_left _ _)
    rw [entsW,hbad,if_neg (by simp),hcg]
    simp only
    rw [ih _ hr.2 (fun x hx=>?_) (by simpa using hn)]
    · simp [iL_app]
    · obtain ⟨_,j2,j3⟩:=hk x (List.mem_cons_of_mem _ hx)
      rw [last_snoc]
      exact ⟨hr.1 _ (List.mem_map_of_mem hx),j2,j3⟩
theorem pg_young {id:Nat} {n:NodeA} (h:PgN G gen id n):∃ p,youngW G gen (id:Int)=.inl p∧decodeA p=.inl n:=by
  obtain ⟨p,h1,h2,h3⟩:=h.page
  refine ⟨p,?_,h3⟩
  unfold youngW
  rw [get_view h.lt h1]
  simp only
  rw [if_neg (by omega)]
theorem walk_trd (hs : 256 ≤ G.size) (hb : G.blocks ≤ 256) : ∀ (d : Nat) (lo : ByteArray) (hi : Option ByteArray) (id : Nat) (l : List PairS) (q : List Nat), TrD G gen d lo hi id l q → ∀ (f dep : Nat) (hbd : ByteArray) (st : WkS), d ≤ f → 1 ≤ dep → hiR hi hbd → (st.depth = 0 ∨ st.depth + 1 = dep + d) → (st.pages ++ iL q).Nodup → (∀ x ∈ l, ltS st.last x.1 = true) →
      nodeW G gen f ⟨(id:Int),dep,lo,hbd⟩ st=.inl ⟨st.pages ++ iL q,st.keys ++ l.map (·.1),dep+d - 1⟩
  | 0,_,_,_,_,_,h,_,_,_,_,_,_,_,_,_,_=>h.elim
  | d+1,lo,hi,id,l,pgs,h,0,_,_,_,hf,_,_,_,_,_=>by omega
  | d+1,lo,hi,id,l,pgs,h,f+1,dep,hbd,st,hf,hdep,hh,hd,hn,hlast=>by
    have hs2:=TrD.sorted _ _ _ _ _ _ h
    obtain ⟨n,q,hp,hr,rfl,h⟩:=h
    obtain ⟨p,hy,hdec⟩:=pg_young hp
    have hnot:(id:Int) ∉ st.pages:=fun hm=>by
      rw [List.nodup_append] at hn
      exact hn.2.2 _ hm (id:Int) (by simp [iL]) rfl
    rw [nodeW]
    unfold seeW
    rw [if_neg hnot]
    simp only [hy,hdec]
    rcases h with ⟨hl,rfl,hne,he,hbnd⟩ | ⟨hl,hk⟩
    · rw [if_pos hl]
      have hkeys:=he.keys
      unfold leafW
      obtain ⟨s1,hs1⟩:∃ s1,s1=atDepth ⟨(id:Int),dep,lo,hbd⟩ { st with pages:=st.pages ++ [(id:Int)] }:=⟨_,rfl⟩
      have hs3:s1=⟨st.pages ++ [(id:Int)],st.keys,dep⟩:=by
        rw [hs1]
        unfold atDepth
        rcases hd with hd | hd
        · simp [hd]
        · have h:st.depth=dep:=by omega
          have h0:¬ st.depth=0:=by omega
          rw [if_neg h0]
          simp only [h]
      rw [← hs1,hs3]
      simp only
      have hene:n.entries ≠ []:=fun e=>by
        have:=he.len
        rw [e] at this
        exact hne (List.eq_nil_of_length_eq_zero this.symm)
      rw [if_neg (by rintro (h | ⟨h,_⟩);exact h rfl;exact hene h)]
      rw [ents_goD hs hb he _ (rightN_leaf hr hl) (fun e hee=>?_) (by simpa [iL] using hn)]
      · simp only [hkeys]
        simp [iL]
      · have hm:e.key ∈ l.map (·.1):=by rw [← hkeys];exact List.mem_map_of_mem hee
        obtain ⟨x,hx,hxe⟩:=List.mem_map.1 hm
        have hib:=hbnd x hx
        rw [← hxe]
        refine ⟨hlast _ hx,hib.1,fun hne=>?_⟩
        rcases hh with ⟨_,h7⟩ | ⟨h7,_⟩
        · exact absurd h7 hne
        · exact hib.2 _ h7
    · rw [if_neg (by rw [hl];simp)]
      obtain ⟨parts,e1,rfl,rfl,e4⟩:=hk.parts
      have hkin:=hk.keysIn
      obtain ⟨_,hkl,hk2⟩:=rightN_inner hr hl
      obtain ⟨tp,htp⟩:∃ tp,tp=parts.map (·.2):=⟨_,rfl⟩
      obtain ⟨lp,hlp⟩:∃ lp,lp=parts.map (·.1):=⟨_,rfl⟩
      rw [← htp] at hn ⊢
      rw [← hlp] at hlast hs2 ⊢
      have htl:tp.length=n.kids.length:=by rw [htp,List.length_map];exact e1
      have hll:lp.length=n.kids.length:=by rw [hlp,List.length_map];exact e1
      have hflat:∀ i,tp.flatten=(tp.take i).flatten ++ (tp.drop i).flatten:=fun i=>by rw [← List.flatten_append,List.take_append_drop]
      have hflat2:∀ i,lp.flatten=(lp.take i).flatten ++ (lp.drop i).flatten:=fun i=>by rw [← List.flatten_append,List.take_append_drop]
      obtain ⟨s',hs1,hs2⟩:=kids_go (rec_:=nodeW G gen f) (n:=n) (a:=⟨(id:Int),dep,lo,hbd⟩)
        (Inv:=fun i s=>s=⟨st.pages ++ [(id:Int)] ++ iL (tp.take i).flatten,st.keys ++ (lp.take i).flatten.map (·.1),if i=0 then st.depth else dep+1+d - 1⟩) (fun i k s hk hI=>by
          have hik:=(List.getElem?_eq_some_iff.1 hk).1
          have hit:i < tp.length:=by omega
          have hip:i < lp.length:=by omega
          have hipp:i < parts.length:=by omega
          obtain ⟨b1,b2,b3⟩:=kid_bounds (a:=⟨(id:Int),dep,lo,hbd⟩) hr hl hh hkin hk
          refine ⟨b1,_,?_,rfl⟩
          obtain ⟨c,rfl,hT⟩:=e4 i k parts[i] hk (List.getElem?_eq_getElem hipp)
          have ep1:parts[i].1=lp[i]:=by simp [hlp]
          have ep2:parts[i].2=tp[i]:=by simp [htp]
          rw [ep1,ep2] at hT
          have hpl:kidPlace n ⟨(id:Int),dep,lo,hbd⟩ i (c:Int)=⟨(c:Int),dep+1,loAt lo n.keys i,(kidPlace n ⟨(id:Int),dep,lo,hbd⟩ i (c:Int)).hi⟩:=by
            rw [← b2];rfl
          have hf2:=hflat2 (i+1)
          rw [take_one _ _ _ (List.getElem?_eq_getElem hip),List.flatten_append,List.flatten_cons,List.flatten_nil,List.append_nil] at hf2
          have hf3:=hflat (i+1)
          rw [take_one _ _ _ (List.getElem?_eq_getElem hit),List.flatten_append,List.flatten_cons,List.flatten_nil,List.append_nil] at hf3
          rw [hf2] at hs2
          have hs3:=(List.pairwise_append.1 (List.pairwise_append.1 hs2).1)
          rw [hpl,walk_trd hs hb d _ _ c _ _ hT f (dep+1) _ s (by omega) (by omega) b3 (by rw [hI];by_cases h0:i=0 <;> simp [h0] <;> omega) ?_ (fun x hx=>?_)]
          · rw [hI,take_one _ _ _ (List.getElem?_eq_getElem hip),take_one _ _ _ (List.getElem?_eq_getElem hit)]
            simp only [List.flatten_append,List.flatten_cons,List.flatten_nil,List.append_nil,iL_app,List.map_append,List.append_assoc,Nat.add_one_ne_zero,if_false]
          · rw [hI]
            refine hn.sublist ?_
            show List.Sublist _ (st.pages ++ ((id:Int) :: iL tp.flatten))
            rw [hf3,iL_app,iL_app]
            simp only [List.append_assoc,List.cons_append,List.nil_append]
            refine List.Sublist.append (List.Sublist.refl _) (List.Sublist.cons_cons _ ?_)
            rw [← List.append_assoc]
            exact List.sublist_append_left _ _
          · rw [hI]
            refine last_lt ?_ (fun y hy=>hs3.2.2 y hy x hx)
            exact hlast x (by rw [hf2];simp [hx])) n.kids 0 ⟨st.pages ++ [(id:Int)],st.keys,st.depth⟩ rfl (by simp) (by simp [iL])
      have hs3:s'=_:=hs2
      rw [hs1,hs3]
      have h2:=(rightN_sz hr).2.2 hl
      have h0:n.kids.length ≠ 0:=by omega
      rw [List.take_of_length_le (by omega),List.take_of_length_le (by omega),if_neg h0]
      simp [iL]
theorem TD.walk {root d:Nat} {ps:List PairS} {pgs:List Nat} (h:TD G gen root d ps pgs) (hs:256≤G.size) (hb:G.blocks≤256):walkW G gen (root:Int)=.inl ⟨iL pgs,ps.map (·.1),d⟩:=by
  rcases h.tree with ⟨rfl,rfl,rfl,rfl⟩ | ⟨hd,hT⟩
  · rfl
  · have h7:=(h.few hb).2
    obtain ⟨r,hr⟩:=TrD.head _ _ _ _ _ _ hT
    have h2:=h.lt root (by rw [hr];simp)
    unfold walkW
    rw [if_neg (by omega),walk_trd hs hb d e0 Option.none root ps pgs hT 16 1 e0 wk0 (by omega) (by omega) (.inl ⟨rfl,rfl⟩) (.inl rfl) (by
      show ([] ++ iL pgs).Nodup
      rw [List.nil_append]
      exact List.pairwise_map.2 (h.nodup.imp (fun h e=>h (by omega)))) (fun x hx=>by
        show ltS e0 x.1=true
        rcases not_ltS (inB_all x.1).1 with h5 | h5
        · exact h5
        · exact absurd h5 (keyB_ne (h.ok x hx).1))]
    simp [wk0]
end
end Go.Proofs.YtphafjmdhmpkbaaGreatDoor
