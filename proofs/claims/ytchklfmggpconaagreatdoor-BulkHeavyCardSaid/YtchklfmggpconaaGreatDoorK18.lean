import Derived.Test.YtchklfmggpconaaGreatDoorK17
import Derived.Test.YtchklfmggpconaaGreatDoorK07
import Derived.Test.YtchklfmggpconaaGreatDoorK15
import Derived.Test.YtchklfmggpconaaGreatDoorK04
namespace Go.Proofs.YtchklfmggpconaaGreatDoor
section
open Go.RowKit
end
section
open Go.RowKit
attribute [local go_sem ↓] Go.wp_at_zero Go.wp_at_succ
section
variable {P F:Nat→Prop}{w:World}{c s:Nat}{G:GA}{l:List Nat}
end
end
section
open Go.RowKit
def PagerG(ad:Nat→Addr)(w:World)(n g:Nat)(e:Ending)(w':World):Prop :=
 ∃(c s:Nat) (P F:Nat→Prop),e=.returned (.tuple #[pgV c s g,.bool true])∧PgR F w' P c s (G0 n) (spNew n)∧Nxt NoB P NoB F ad w w'
set_option maxRecDepth 100000 in
theorem pager15_any{ad:Nat→Addr}{w:World}(hL:Env NoB ad w) : Calls Tryz.prog 10 #[] w (PagerG ad w 250 5):=by
 have m0:Ext w (w.alloc (.cells #[.pointer none,.pointer none,.int .u64 0] 31)):=(Mods.refl _ w).alloc _
 have HL:=Lib.hid (hL.withR m0 (by simp))
 have HB0:=Lib.hid (Blk.new w #[.pointer none,.pointer none,.int .u64 0] 31)
 have HL0:=Lib.hid hL
 have HM0:=Lib.hid m0
 clear hL m0
 go_enter Tryz.func10, Tryz.ntmps10
 go_wp2_with fail
 refine (dkNew_ok 250 256 (by omega) (by omega) (by omega) (by omega)).mono ?_
 rintro e w1 ⟨d,Pd,rfl,hD,hn,hm⟩
 have HN1:=Lib.hid (Nxt.of (P:=NoB) (P':=Pd) HL.out (λ_ h=>h.elim) ⟨hm,λk hk h=>by have:=hn k h;omega,hD.bd⟩)
 have HD:=Lib.hid hD
 have HB1:=Lib.hid (HB0.out.ext hm)
 have hrl:=HB1.out.lt
 clear hD hn hm
 go_wp2_with fail
 refine (caNew_ok HN1.out.env (λ_ h=>.inr h) HD.out 5 (by omega) (by omega)).mono ?_
 rintro e w2 ⟨c,sb,bvs,F2,rfl,hC,hN2⟩
 have HC:=Lib.hid hC
 have HN2:=Lib.hid (HN1.out.trans hN2)
 have hrl2:=Nat.lt_of_lt_of_le hrl hN2.size
 clear hC hN2
 go_wp2_with fail
 refine (spNew_any 250 (by omega) (by omega)).mono ?_
 rintro e w3 ⟨s,b2,rfl,hS,h1,h2,hm3⟩
 obtain⟨P,F,hG,hN⟩:=PgR.made (s:=s) (b2:=b2) (n:=250) (by omega) (by omega) (q:=5) (by omega) (by omega) HC.out HN2.out hS hm3 h1 h2
 have rb:=hN.blk HB0.out (λf=>f)
 have r0:=rb.cell (o:=0) rfl
 have r1:=rb.cell (o:=1) rfl
 have r2:=rb.cell (o:=2) rfl
 have rf:=rb.frozen
 have hR:∀k,P k→k≠w.heap.size:=λk hk e=>by
  subst e;exact hN.stp.old _ (by simp) hk
 have mR:Mods (λk=>k=w.heap.size) w3 (((w3.setCell ⟨w.heap.size,0,none⟩ (.pointer (some ⟨c,0,none⟩))).setCell ⟨w.heap.size,1,none⟩ (.pointer (some ⟨s,0,none⟩))).setCell ⟨w.heap.size,2,none⟩ (.int .u64 5)):=Mods.set3 (F:=λk=>k=w.heap.size) (Mods.refl _ w3) (.inr rfl) _ _ _
 have hG4:=hG.plus (F':=F) mR hR (λk hk=>hN.grow k (.inr hk)) (λ_ _ h=>h)
 have HG:=Lib.hid hG4
 have HN:Hid (Nxt NoB P NoB F ad w _):=Lib.hid ⟨⟨(Mods.set3 (HM0.out.trans hN.stp.mods) (.inl (Nat.le_refl w.heap.size)) (.pointer (some ⟨c,0,none⟩)) (.pointer (some ⟨s,0,none⟩)) (.int .u64 5)),λk hk hp=>hN.stp.old k (Nat.lt_of_lt_of_le hk HM0.out.size) hp,λk hk=>Nat.lt_of_lt_of_le (hN.stp.bd k hk) mR.size⟩,
  hN.sub,λ_ h=>h.elim,λk hk hf=>(hN.oldF k (Nat.lt_of_lt_of_le hk HM0.out.size) hf).elim id (λe=>by omega),hN.env.mods (mR.mono (λk hk=>hN.grow k (.inr hk)))⟩
 have HBR:=Lib.hid (Blk.set3 rb (.pointer (some ⟨c,0,none⟩)) (.pointer (some ⟨s,0,none⟩)) (.int .u64 5))
 clear hS h1 h2 hm3 hG hN hG4 mR hR rb
 go_wp2_with fail
 refine bodyPost_ret (results_row_tmp rfl _ _ w.heap.size 31 #[.pointer (some ⟨c,0,none⟩),.pointer (some ⟨s,0,none⟩),.int .u64 5] _ rfl HBR.out Tryz.underlying31 rfl Tryz.pagerSize) rfl ?_
 exact⟨c,s,P,F,rfl,HG.out,HN.out⟩
def cutK(n k:Nat)(l:List PairS):List PairS:=cutP n (l.take k)++l.drop k
theorem cutK_zero(n:Nat)(l:List PairS):cutK n 0 l=l:=by simp[cutK,cutP]
theorem cutK_all(n:Nat)(l:List PairS):cutK n l.length l=cutP n l:=by simp[cutK]
theorem cutK_len(n k:Nat)(l:List PairS):(cutK n k l).length=l.length:=by
 unfold cutK cutP
 rw[List.length_append,List.length_map,List.length_take,List.length_drop];omega
theorem cutK_at{n k:Nat}{l:List PairS}{x:PairS}(hx:l[k]? = some x):(cutK n k l)[k]? = some x:=by
 have hk:=(List.getElem?_eq_some_iff.1 hx).1
 unfold cutK cutP
 rw[List.getElem?_append_right (by rw[List.length_map,List.length_take];omega),List.length_map,List.length_take,List.getElem?_drop]
 rw[show k+(k-min k l.length)=k by omega]
 exact hx
theorem cutK_set{n k:Nat}{l:List PairS}{x:PairS}(hx:l[k]? = some x):(cutK n k l).set k (x.1,cutS n x.2)=cutK n (k+1) l:=by
 have hk:=(List.getElem?_eq_some_iff.1 hx).1
 unfold cutK
 have hl:(cutP n (l.take k)).length=k:=by unfold cutP;rw[List.length_map,List.length_take];omega
 rw[List.set_append_right _ _ (by rw[hl];exact Nat.le_refl _),hl,Nat.sub_self,drop_of hx,List.set_cons_zero,take_one l k x hx]
 unfold cutP
 rw[List.map_append]
 simp
end
end Go.Proofs.YtchklfmggpconaaGreatDoor
