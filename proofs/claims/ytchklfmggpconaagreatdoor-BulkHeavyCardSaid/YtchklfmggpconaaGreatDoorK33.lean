import Derived.Test.YtchklfmggpconaaGreatDoorK30
import Derived.Test.YtchklfmggpconaaGreatDoorK32
import Derived.Deep.CutBlock
import Derived.Deep.DeepCutAuto
import Derived.Maps.RangeWalk
namespace Go.Proofs.YtchklfmggpconaaGreatDoor
open Go.RowKit
attribute [local go_sem ↓] Go.wp_at_zero Go.wp_at_succ
def KidsI(w0 wx:World)(X:Nat)(is:List Int):Prop :=
 ∃ia ic,Ext w0 wx∧w0.heap.size≤X∧Blk wx X #[.bool false,.slice none 0 0,.slice none 0 0,.slice ia is.length ic] 118 ∧ Own (λ_=>False) wx w0.heap.size 3 1 encI (.slice ia is.length ic) is
theorem kids_new{w0 wz:World}{is:List Int}{i:Nat}{a2:Option Addr}{c2:Nat}(hi:i=is.length)(m:Ext w0 wz)(h2:Own (λ_=>False) wz w0.heap.size 3 1 encI (.slice a2 i c2) is) :
  KidsI w0 (wz.alloc (.cells #[.bool false,.slice none 0 0,.slice none 0 0,.slice a2 i c2] 118)) wz.heap.size is:=by
 subst hi
 exact⟨_,_,m.alloc _,m.size,Blk.new _ _ _,h2.ext ((Mods.refl _ _).alloc _)⟩
theorem kids_set{w0 wz:World}{is:List Int}{i:Nat}{a2:Option Addr}{c2:Nat}{X:Nat}(hi:i=is.length)(m:Ext w0 wz)(hX:w0.heap.size≤X)(hx:Blk wz X nodeZc 118)(h2:Own (λ_=>False) wz w0.heap.size 3 1 encI (.slice a2 i c2) is) :
  KidsI w0 ((((wz.setCell ⟨X,0,none⟩ (.bool false)).setCell ⟨X,1,none⟩ (.slice none 0 0)).setCell ⟨X,2,none⟩ (.slice none 0 0)).setCell ⟨X,3,none⟩ (.slice a2 i c2)) X is:=by
 subst hi
 have mX:=Mods.set4 (F:=λk=>k=X) (Mods.refl _ wz) (R:=X) (.inr rfl) (.bool false) (.slice none 0 0) (.slice none 0 0) (.slice a2 is.length c2)
 exact⟨_,_,Mods.set4 m (.inl hX) _ _ _ _,hX,hx.set4 _ _ _ _,h2.mods mX (λg hg=>h2.notB hx (by decide) g hg)⟩
section
variable {F:Nat→Prop}{w w':World}
set_option maxRecDepth 100000 in
set_option maxHeartbeats 8000000 in
theorem wholeI_any(A B:NodeA)(lb:Bool)(ve vk vi ue uk ui:Value)(s t:ByteArray)(hvk:Sl F w 1 encS vk A.keys)(hvi:Sl F w 1 encI vi A.kids)(huk:Sl F w 1 encS uk B.keys)(hui:Sl F w 1 encI ui B.kids)(hA:A.keys.length≤100000∧A.kids.length≤100000)(hB:B.keys.length≤100000∧B.kids.length≤100000) :
  Calls Tryz.prog 182 #[.agg #[.bool false,ve,vk,vi,.string s],.agg #[.bool lb,ue,uk,ui,.string t]] w λe w'=>∃v,e=.returned v∧NodeO w' w.heap.size v ⟨false,[],A.keys++[t]++B.keys,A.kids++B.kids⟩∧Ext w w':=by
 obtain⟨w0,hw0⟩:∃w0,w0=((w.alloc (.cells #[.bool false,ve,vk,vi,.string s] 197)).alloc (.cells #[.bool lb,ue,uk,ui,.string t] 197)).alloc (.cells nodeZc 118):=⟨_,rfl⟩
 have m0:Ext w w0:=by rw[hw0];exact (((Mods.refl _ w).alloc _).alloc _).alloc _
 have hz:w0.heap.size=w.heap.size+1+1+1:=by rw[hw0];simp
 have hBA:Blk w0 w.heap.size #[.bool false,ve,vk,vi,.string s] 197:=by rw[hw0];exact ((Blk.new w _ _).alloc _).alloc _
 have hBB:Blk w0 (w.heap.size+1) #[.bool lb,ue,uk,ui,.string t] 197:=by rw[hw0];exact Blk.alloc (heap_at (by simp)) _
 have HR0:Hid (Blk w0 (w.heap.size+1+1) nodeZc 118):=Lib.hid (by rw[hw0];exact heap_at (by simp))
 have HM0:=Lib.hid m0
 have HIA:=Lib.hid ((hvi.ext m0).anti (G:=λ_=>False) (λ_ _ (f:False)=>f.elim))
 have HIB:=Lib.hid ((hui.ext m0).anti (G:=λ_=>False) (λ_ _ (f:False)=>f.elim))
 have HKA:=Lib.hid ((hvk.ext m0).anti (G:=λ_=>False) (λ_ _ (f:False)=>f.elim))
 have HKB:=Lib.hid ((huk.ext m0).anti (G:=λ_=>False) (λ_ _ (f:False)=>f.elim))
 obtain⟨ia,ic,rfl,hi1,hi2,hi3, -⟩:=hvi
 obtain⟨ja,jc,rfl,hj1,hj2,hj3, -⟩:=hui
 obtain⟨ka,kc,rfl,hk1,hk2,hk3, -⟩:=hvk
 obtain⟨la,lc,rfl,hl1,hl2,hl3, -⟩:=huk
 obtain⟨hA1,hA2⟩:=hA
 obtain⟨hB1,hB2⟩:=hB
 have n0:=hBA.cell (o:=0) (v:=.bool false) rfl
 have n3:=hBA.cell (o:=3) (v:=.slice ia A.kids.length ic) rfl
 have p3:=hBB.cell (o:=3) (v:=.slice ja B.kids.length jc) rfl
 have N3:=Lib.hid n3
 have P3:=Lib.hid p3
 have xm:=(Mods.refl (λ_=>False) w0).drew
 have HW0:=Lib.hid hw0
 have HZ:=Lib.hid hz
 have hlt:w.heap.size+1<w0.heap.size:=by omega
 have hne5:¬ w.heap.size=w0.heap.size:=by omega
 have hne6:¬ w0.heap.size=w.heap.size:=by omega
 have HBA:=Lib.hid hBA
 have HBB:=Lib.hid hBB
 clear m0 hw0 hz hBA hBB
 go_enter Tryz.func182, Tryz.ntmps182
 go_wp2_with fail
 unfold nodeZc at HW0
 rw[← HW0.out]
 go_cut [5] (λv5 wx=>∃X,v5=.pointer (some ⟨X,0,none⟩)∧Hid (KidsI w0 wx X (A.kids++B.kids)))
 case first =>
  have c3a:=λo=>cellE ((Mods.refl (λ_=>False) w0).alloc o).drew n3
  have d3a:=λo=>cellE ((Mods.refl (λ_=>False) w0).alloc o).drew p3
  have c3b:=λo p=>cellE (((Mods.refl (λ_=>False) w0).alloc o).alloc p).drew n3
  have d3b:=λo p=>cellE (((Mods.refl (λ_=>False) w0).alloc o).alloc p).drew p3
  go_region_held3 (λw'=>w'.cell? ⟨w.heap.size,3,none⟩=some (.slice ia A.kids.length ic)∧w'.cell? ⟨w.heap.size+1,3,none⟩=some (.slice ja B.kids.length jc))
   (first|(with_reducible exact⟨n3,p3⟩)|(with_reducible exact⟨c3a _,d3a _⟩)|(with_reducible exact⟨c3b _ _,d3b _ _⟩)|(with_reducible exact⟨m3a _,q3a _⟩)|go_keep)
   (first
    | (refine step_app2 Tryz.elI encI_ok (by rfl) _ _ (by rfl) w0.heap.size (.slice (some ⟨w0.heap.size,0,none⟩) 0 0) (.slice ia A.kids.length ic) [] A.kids (by rfl) (by rfl) (Own.lit 1 encI encI_ok.len (by first|exact heap_at (by first|(simp;done)|fail)|exact Blk.alloc (heap_at (by first|(simp;done)|fail)) _|fail) (by omega)) (HIA.out.ext (by first|exact xm|exact (xm).alloc _|exact ((xm).alloc _).alloc _|fail)) (by simp only[List.length_nil];omega) (by first|(simp;done)|(simp;omega)|fail) (λf=>f) ?_;rw[List.nil_append,List.length_nil,Nat.zero_add];intro a1 c1 w1 hO1 hm1 hat1;have xm1:Ext w0 w1:=Mods.past (by first|exact xm|exact (xm).alloc _|exact ((xm).alloc _).alloc _|fail) (hm1.mono (λk hk=>by simp[Value.ownBlock] at hk;omega));have n3:=cellE xm1 N3.out;have p3:=cellE xm1 P3.out;have m3a:=λo=>cell_alloc n3 o;have q3a:=λo=>cell_alloc p3 o;have hzz:=xm1.size;(first|(have hN:=Blk.mods (show Blk _ (w0.heap.size) nodeZc 118 from (by first|exact heap_at (by first|(simp;done)|fail)|exact Blk.alloc (heap_at (by first|(simp;done)|fail)) _|fail)) hm1 (by first|(simp[Value.ownBlock];done)|(simp[Value.ownBlock];omega)|(intro hk;have:=(hO1.lt _ hk).2;have:=hzz;simp[Value.ownBlock] at hk;omega)|fail);have z0:=hN.cell (o:=0) (v:=.bool false) rfl;have z1:=hN.cell (o:=1) (v:=.slice none 0 0) rfl;have z2:=hN.cell (o:=2) (v:=.slice none 0 0) rfl;have z3:=hN.cell (o:=3) (v:=.slice none 0 0) rfl;have zf:=hN.frozen;have y1:¬ w.heap.size=w0.heap.size:=(by omega);have y2:¬ w0.heap.size=w.heap.size:=(by omega);have y3:¬ w.heap.size+1=w0.heap.size:=(by omega);have y4:¬ w0.heap.size=w.heap.size+1:=(by omega))|(have hN:=Blk.mods (show Blk _ (w0.heap.size+1) nodeZc 118 from (by first|exact heap_at (by first|(simp;done)|fail)|exact Blk.alloc (heap_at (by first|(simp;done)|fail)) _|fail)) hm1 (by first|(simp[Value.ownBlock];done)|(simp[Value.ownBlock];omega)|(intro hk;have:=(hO1.lt _ hk).2;have:=hzz;simp[Value.ownBlock] at hk;omega)|fail);have z0:=hN.cell (o:=0) (v:=.bool false) rfl;have z1:=hN.cell (o:=1) (v:=.slice none 0 0) rfl;have z2:=hN.cell (o:=2) (v:=.slice none 0 0) rfl;have z3:=hN.cell (o:=3) (v:=.slice none 0 0) rfl;have zf:=hN.frozen;have y1:¬ w.heap.size=w0.heap.size+1:=(by omega);have y2:¬ w0.heap.size+1=w.heap.size:=(by omega);have y3:¬ w.heap.size+1=w0.heap.size+1:=(by omega);have y4:¬ w0.heap.size+1=w.heap.size+1:=(by omega))|skip))
    | (refine step_app2 Tryz.elI encI_ok (by rfl) _ _ (by rfl) w0.heap.size (.slice (some ⟨w0.heap.size+1,0,none⟩) 0 0) (.slice ia A.kids.length ic) [] A.kids (by rfl) (by rfl) (Own.lit 1 encI encI_ok.len (by first|exact heap_at (by first|(simp;done)|fail)|exact Blk.alloc (heap_at (by first|(simp;done)|fail)) _|fail) (by omega)) (HIA.out.ext (by first|exact xm|exact (xm).alloc _|exact ((xm).alloc _).alloc _|fail)) (by simp only[List.length_nil];omega) (by first|(simp;done)|(simp;omega)|fail) (λf=>f) ?_;rw[List.nil_append,List.length_nil,Nat.zero_add];intro a1 c1 w1 hO1 hm1 hat1;have xm1:Ext w0 w1:=Mods.past (by first|exact xm|exact (xm).alloc _|exact ((xm).alloc _).alloc _|fail) (hm1.mono (λk hk=>by simp[Value.ownBlock] at hk;omega));have n3:=cellE xm1 N3.out;have p3:=cellE xm1 P3.out;have m3a:=λo=>cell_alloc n3 o;have q3a:=λo=>cell_alloc p3 o;have hzz:=xm1.size;(first|(have hN:=Blk.mods (show Blk _ (w0.heap.size) nodeZc 118 from (by first|exact heap_at (by first|(simp;done)|fail)|exact Blk.alloc (heap_at (by first|(simp;done)|fail)) _|fail)) hm1 (by first|(simp[Value.ownBlock];done)|(simp[Value.ownBlock];omega)|(intro hk;have:=(hO1.lt _ hk).2;have:=hzz;simp[Value.ownBlock] at hk;omega)|fail);have z0:=hN.cell (o:=0) (v:=.bool false) rfl;have z1:=hN.cell (o:=1) (v:=.slice none 0 0) rfl;have z2:=hN.cell (o:=2) (v:=.slice none 0 0) rfl;have z3:=hN.cell (o:=3) (v:=.slice none 0 0) rfl;have zf:=hN.frozen;have y1:¬ w.heap.size=w0.heap.size:=(by omega);have y2:¬ w0.heap.size=w.heap.size:=(by omega);have y3:¬ w.heap.size+1=w0.heap.size:=(by omega);have y4:¬ w0.heap.size=w.heap.size+1:=(by omega))|(have hN:=Blk.mods (show Blk _ (w0.heap.size+1) nodeZc 118 from (by first|exact heap_at (by first|(simp;done)|fail)|exact Blk.alloc (heap_at (by first|(simp;done)|fail)) _|fail)) hm1 (by first|(simp[Value.ownBlock];done)|(simp[Value.ownBlock];omega)|(intro hk;have:=(hO1.lt _ hk).2;have:=hzz;simp[Value.ownBlock] at hk;omega)|fail);have z0:=hN.cell (o:=0) (v:=.bool false) rfl;have z1:=hN.cell (o:=1) (v:=.slice none 0 0) rfl;have z2:=hN.cell (o:=2) (v:=.slice none 0 0) rfl;have z3:=hN.cell (o:=3) (v:=.slice none 0 0) rfl;have zf:=hN.frozen;have y1:¬ w.heap.size=w0.heap.size+1:=(by omega);have y2:¬ w0.heap.size+1=w.heap.size:=(by omega);have y3:¬ w.heap.size+1=w0.heap.size+1:=(by omega);have y4:¬ w0.heap.size+1=w.heap.size+1:=(by omega))|skip))
    | (refine step_app2 Tryz.elI encI_ok (by rfl) _ _ (by rfl) w0.heap.size (.slice a1 A.kids.length c1) (.slice ja B.kids.length jc) A.kids B.kids (by rfl) (by rfl) (by first|exact hO1|exact hO1.ext ((Mods.refl _ w1).alloc _)|fail) (HIB.out.ext (by first|exact xm1|exact (xm1).alloc _|exact ((xm1).alloc _).alloc _|fail)) (by omega) (by first|(simp;done)|(simp;omega)|omega|fail) (λf=>f) ?_;intro a2 c2 w2 hO2 hm2 hat2;have xm2:Ext w0 w2:=Mods.past (by first|exact xm1|exact (xm1).alloc _|exact ((xm1).alloc _).alloc _|fail) (hm2.mono (λk hk=>(hO1.lt k hk).1));have n3:=cellE xm2 N3.out;have p3:=cellE xm2 P3.out;have m3a:=λo=>cell_alloc n3 o;have q3a:=λo=>cell_alloc p3 o;have hzy:=xm2.size;(first|(have hN:=Blk.mods (show Blk _ (w0.heap.size) nodeZc 118 from hN) hm2 (λhk=>Own.notB hO1 hN (by decide) _ hk rfl);have z0:=hN.cell (o:=0) (v:=.bool false) rfl;have z1:=hN.cell (o:=1) (v:=.slice none 0 0) rfl;have z2:=hN.cell (o:=2) (v:=.slice none 0 0) rfl;have z3:=hN.cell (o:=3) (v:=.slice none 0 0) rfl;have zf:=hN.frozen;have y1:¬ w.heap.size=w0.heap.size:=(by omega);have y2:¬ w0.heap.size=w.heap.size:=(by omega);have y3:¬ w.heap.size+1=w0.heap.size:=(by omega);have y4:¬ w0.heap.size=w.heap.size+1:=(by omega))|(have hN:=Blk.mods (show Blk _ (w0.heap.size+1) nodeZc 118 from hN) hm2 (λhk=>Own.notB hO1 hN (by decide) _ hk rfl);have z0:=hN.cell (o:=0) (v:=.bool false) rfl;have z1:=hN.cell (o:=1) (v:=.slice none 0 0) rfl;have z2:=hN.cell (o:=2) (v:=.slice none 0 0) rfl;have z3:=hN.cell (o:=3) (v:=.slice none 0 0) rfl;have zf:=hN.frozen;have y1:¬ w.heap.size=w0.heap.size+1:=(by omega);have y2:¬ w0.heap.size+1=w.heap.size:=(by omega);have y3:¬ w.heap.size+1=w0.heap.size+1:=(by omega);have y4:¬ w0.heap.size+1=w.heap.size+1:=(by omega))|(have hN:=Blk.mods (show Blk _ (w1.heap.size) nodeZc 118 from heap_at (by first|(simp;done)|fail)) hm2 (λhk=>by have:=(hO1.lt _ hk).2;omega);have z0:=hN.cell (o:=0) (v:=.bool false) rfl;have z1:=hN.cell (o:=1) (v:=.slice none 0 0) rfl;have z2:=hN.cell (o:=2) (v:=.slice none 0 0) rfl;have z3:=hN.cell (o:=3) (v:=.slice none 0 0) rfl;have zf:=hN.frozen;have y1:¬ w.heap.size=w1.heap.size:=(by omega);have y2:¬ w1.heap.size=w.heap.size:=(by omega);have y3:¬ w.heap.size+1=w1.heap.size:=(by omega);have y4:¬ w1.heap.size=w.heap.size+1:=(by omega))|skip))
    | fail)
  all_goals
   go_wp2_with fail
   go_meet
   refine⟨_,rfl,Lib.hid ?_⟩
   first
    | (with_reducible exact kids_new (List.length_append).symm xm2 hO2)
    | (with_reducible exact kids_set (List.length_append).symm xm2 (by omega) hN hO2)
    | (trace_state;fail)
 case rest =>
  obtain⟨X,rfl,hK⟩:=hcut
  obtain⟨a3,c3,xw,hX,hBX,hOX⟩:=hK.out
  have n2:=(HBA.out.ext xw).cell (o:=2) (v:=.slice ka A.keys.length kc) rfl
  have p2:=(HBB.out.ext xw).cell (o:=2) (v:=.slice la B.keys.length lc) rfl
  have p4:=(HBB.out.ext xw).cell (o:=4) (v:=.string t) rfl
  have x2:=hBX.cell (o:=2) (v:=.slice none 0 0) rfl
  have xf:=hBX.frozen
  have N2:=Lib.hid n2
  have P2:=Lib.hid p2
  have P4:=Lib.hid p4
  have HXW:=Lib.hid xw
  have HBX:=Lib.hid hBX
  have HOX:=Lib.hid hOX
  have hlx:=hBX.lt
  have e1:¬ w.heap.size=X:=by omega
  have e2:¬ X=w.heap.size:=by omega
  have e3:¬ w.heap.size+1=X:=by omega
  have e4:¬ X=w.heap.size+1:=by omega
  have xn:=(Mods.refl (λ_=>False) wc).drew
  have HKA2:=Lib.hid (HKA.out.ext xw)
  have HKB2:=Lib.hid (HKB.out.ext xw)
  clear hK xw hBX hOX
  have c2a:=λo=>cellE ((Mods.refl (λ_=>False) wc).alloc o).drew n2
  have d2a:=λo=>cellE ((Mods.refl (λ_=>False) wc).alloc o).drew p2
  have d4a:=λo=>cellE ((Mods.refl (λ_=>False) wc).alloc o).drew p4
  have x2a:=λo=>cellE ((Mods.refl (λ_=>False) wc).alloc o).drew x2
  go_wp2_with fail
  refine wp_region_held_drew (S:=(λw'=>w'.cell? ⟨w.heap.size,2,none⟩=some (.slice ka A.keys.length kc)∧w'.cell? ⟨w.heap.size+1,2,none⟩=some (.slice la B.keys.length lc)∧w'.cell? ⟨w.heap.size+1,4,none⟩=some (.string t))) (by kernel_rfl) ⟨n2,p2,p4⟩ (λhHeld=>?_)
  refine wpAnyH_take (i:=0) (oi:=⟨some 29,_,_,_,_,_⟩) (v:=?_) rfl (by kernel_rfl) (by kernel_rfl) (by kernel_rfl) (λ_ _ _ h=>h) (Or.inl ⟨by rfl,?_⟩) (by assumption) ?_
  rotate_left
  ·intro w hSw;(try dsimp only at hSw);go_simp;(try (with_reducible rfl))
  rotate_left
  try go_frame
  refine wpAnyH_take (i:=2) (oi:=⟨some 31,_,_,_,_,_⟩) (v:=?_) rfl (by kernel_rfl) (by kernel_rfl) (by kernel_rfl) (λ_ _ _ h=>h) (Or.inl ⟨by rfl,?_⟩) (by assumption) ?_
  rotate_left
  ·intro w hSw;(try dsimp only at hSw);go_simp;(try (with_reducible rfl))
  rotate_left
  try go_frame
  refine wpAnyH_take (i:=3) (oi:=⟨some 32,_,_,_,_,_⟩) (v:=?_) rfl (by kernel_rfl) (by kernel_rfl) (by kernel_rfl) (λ_ _ _ h=>h) (Or.inl ⟨by rfl,?_⟩) (by assumption) ?_
  rotate_left
  ·intro w hSw;(try dsimp only at hSw);go_simp;(try (with_reducible rfl))
  rotate_left
  try go_frame
  refine wpAnyH_take (i:=4) (oi:=⟨some 33,_,_,_,_,_⟩) (v:=?_) rfl (by kernel_rfl) (by kernel_rfl) (by kernel_rfl) (λ_ _ _ h=>h) (Or.inl ⟨by rfl,?_⟩) (by assumption) ?_
  rotate_left
  ·intro w hSw;(try dsimp only at hSw);go_simp;(try (with_reducible rfl))
  rotate_left
  try go_frame
  refine wpAnyH_take (i:=6) (oi:=⟨some 35,_,_,_,_,_⟩) (v:=?_) rfl (by kernel_rfl) (by kernel_rfl) (by kernel_rfl) (λ_ _ _ h=>h) (Or.inl ⟨by rfl,?_⟩) (by assumption) ?_
  rotate_left
  ·intro w hSw;(try dsimp only at hSw);go_simp;(try (with_reducible rfl))
  rotate_left
  try go_frame
  refine wpAnyH_take (i:=7) (oi:=⟨some 36,_,_,_,_,_⟩) (v:=?_) rfl (by kernel_rfl) (by kernel_rfl) (by kernel_rfl) (λ_ _ _ h=>h) (Or.inl ⟨by rfl,?_⟩) (by assumption) ?_
  rotate_left
  ·intro w hSw;(try dsimp only at hSw);go_simp;(try (with_reducible rfl))
  rotate_left
  try go_frame
  refine wpAnyH_take (i:=10) (oi:=⟨some 39,_,_,_,_,_⟩) (v:=?_) rfl (by kernel_rfl) (by kernel_rfl) (by kernel_rfl) (λ_ _ _ h=>h) (Or.inl ⟨by rfl,?_⟩) (by assumption) ?_
  rotate_left
  ·intro w hSw;(try dsimp only at hSw);go_simp;(try (with_reducible rfl))
  rotate_left
  try go_frame
  refine wpAnyH_take (i:=11) (oi:=⟨some 40,_,_,_,_,_⟩) (v:=?_) rfl (by kernel_rfl) (by kernel_rfl) (by kernel_rfl) (λ_ _ _ h=>h) (Or.inl ⟨by rfl,?_⟩) (by assumption) ?_
  rotate_left
  ·intro w hSw;(try dsimp only at hSw);go_simp;(try (with_reducible rfl))
  rotate_left
  try go_frame
  refine wpAnyH_take (i:=12) (oi:=⟨some 41,_,_,_,_,_⟩) (v:=?_) rfl (by kernel_rfl) (by kernel_rfl) (by kernel_rfl) (λ_ _ _ h=>h) (Or.inl ⟨by rfl,?_⟩) (by assumption) ?_
  rotate_left
  ·intro w hSw;(try dsimp only at hSw);go_simp;(try (with_reducible rfl))
  rotate_left
  try go_frame
  refine wpAnyH_ready (rs:=[1,8]) (by kernel_rfl) (by simp) ?_
  refine AllReadyH.cons (o:=⟨some 30,_,_,_,_,_⟩) rfl (λK hK=>?_) ?_
  ·skip
   go_simp
   refine hK.out _ _ (by first|(with_reducible exact⟨n2,p2,p4⟩)|(with_reducible exact⟨c2a _,d2a _,d4a _⟩)|(with_reducible exact⟨m2a _,q2a _,q4a _⟩)|go_keep) (λhHeld=>?_)
   clear hK
   try go_frame
   refine wpAnyH_ready (rs:=[5,8]) (by kernel_rfl) (by simp) ?_
   refine AllReadyH.cons (o:=⟨some 34,_,_,_,_,_⟩) rfl (λK hK=>?_) ?_
   ·skip
    (first|(refine step_app2 Tryz.elS encS_ok (by rfl) _ _ (by rfl) wc.heap.size (.slice none 0 0) (.slice ka A.keys.length kc) [] A.keys (by rfl) (by rfl) (Own.nil (λ_=>False) _ _ _ _ _) (HKA2.out.ext (by first|exact xn|exact (xn).alloc _|exact ((xn).alloc _).alloc _|fail)) (by simp only[List.length_nil];omega) (by first|(simp;done)|(simp;omega)|fail) (λf=>f) ?_;rw[List.nil_append,List.length_nil,Nat.zero_add];intro k1 d1 w3 hO3 hm3 hat3;have xm3:Ext wc w3:=Mods.past (by first|exact xn|exact (xn).alloc _|exact ((xn).alloc _).alloc _|fail) (hm3.mono (λk hk=>by simp[Value.ownBlock] at hk));have n2:=cellE xm3 N2.out;have p2:=cellE xm3 P2.out;have p4:=cellE xm3 P4.out;have m2a:=λo=>cell_alloc n2 o;have q2a:=λo=>cell_alloc p2 o;have q4a:=λo=>cell_alloc p4 o;have hz3:=xm3.size;have xf3:=(HBX.out.ext xm3).frozen;have x2:=(HBX.out.ext xm3).cell (o:=2) (v:=.slice none 0 0) rfl;have x2m:=λo=>cell_alloc x2 o;(first|(have hL:=Blk.mods (show Blk _ wc.heap.size #[.string t] 9 from (by first|exact heap_at (by first|(simp;done)|fail)|exact Blk.alloc (heap_at (by first|(simp;done)|fail)) _|fail)) hm3 (by simp[Value.ownBlock]))|skip))|(refine step_app2 Tryz.elS encS_ok (by rfl) _ _ (by rfl) wc.heap.size (.slice k1 A.keys.length d1) (.slice (some ⟨wc.heap.size,0,none⟩) 1 1) A.keys [t] (by rfl) (by rfl) hO3 (Sl.one (F:=λ_=>False) (x:=t) (enc:=encS) (sz:=1) hL (λf=>f)) (by simp only[List.length_singleton];omega) (by first|(simp;done)|(simp;omega)|omega|fail) (λf=>f) ?_;rw[List.length_singleton];intro k2 d2 w4 hO4 hm4 hat4;have xm4:Ext wc w4:=Mods.past (by first|exact xm3|exact (xm3).alloc _|exact ((xm3).alloc _).alloc _|fail) (hm4.mono (λk hk=>(hO3.lt k hk).1));have n2:=cellE xm4 N2.out;have p2:=cellE xm4 P2.out;have p4:=cellE xm4 P4.out;have m2a:=λo=>cell_alloc n2 o;have q2a:=λo=>cell_alloc p2 o;have q4a:=λo=>cell_alloc p4 o;have hz4:=xm4.size;have xf4:=(HBX.out.ext xm4).frozen;have x2:=(HBX.out.ext xm4).cell (o:=2) (v:=.slice none 0 0) rfl;have x2m:=λo=>cell_alloc x2 o)|(refine step_app2 Tryz.elS encS_ok (by rfl) _ _ (by rfl) wc.heap.size (.slice k1 A.keys.length d1) (.slice (some ⟨w3.heap.size,0,none⟩) 1 1) A.keys [t] (by rfl) (by rfl) (hO3.ext ((Mods.refl _ w3).alloc _)) (Sl.one (F:=λ_=>False) (x:=t) (enc:=encS) (sz:=1) (show Blk _ w3.heap.size #[.string t] 9 from heap_at (by simp)) (λf=>f)) (by simp only[List.length_singleton];omega) (by first|(simp;done)|(simp;omega)|omega|fail) (λf=>f) ?_;rw[List.length_singleton];intro k2 d2 w4 hO4 hm4 hat4;have xm4:Ext wc w4:=Mods.past (by first|exact xm3|exact (xm3).alloc _|exact ((xm3).alloc _).alloc _|fail) (hm4.mono (λk hk=>(hO3.lt k hk).1));have n2:=cellE xm4 N2.out;have p2:=cellE xm4 P2.out;have p4:=cellE xm4 P4.out;have m2a:=λo=>cell_alloc n2 o;have q2a:=λo=>cell_alloc p2 o;have q4a:=λo=>cell_alloc p4 o;have hz4:=xm4.size;have xf4:=(HBX.out.ext xm4).frozen;have x2:=(HBX.out.ext xm4).cell (o:=2) (v:=.slice none 0 0) rfl;have x2m:=λo=>cell_alloc x2 o)|(refine step_app2 Tryz.elS encS_ok (by rfl) _ _ (by rfl) wc.heap.size (.slice k2 (A.keys.length+1) d2) (.slice la B.keys.length lc) (A.keys++[t]) B.keys (by rfl) (by rfl) hO4 (HKB2.out.ext xm4) (by simp;omega) (by omega) (λf=>f) ?_;rw[List.length_append,List.length_singleton];intro k3 d3 w5 hO5 hm5 hat5;have xm5:Ext wc w5:=Mods.past xm4 (hm5.mono (λk hk=>(hO4.lt k hk).1));have n2:=cellE xm5 N2.out;have p2:=cellE xm5 P2.out;have p4:=cellE xm5 P4.out;have m2a:=λo=>cell_alloc n2 o;have q2a:=λo=>cell_alloc p2 o;have q4a:=λo=>cell_alloc p4 o;have hz5:=xm5.size;have xf5:=(HBX.out.ext xm5).frozen;have x2:=(HBX.out.ext xm5).cell (o:=2) (v:=.slice none 0 0) rfl;have x2m:=λo=>cell_alloc x2 o)|fail)
    refine hK.out _ _ (by first|(with_reducible exact⟨n2,p2,p4⟩)|(with_reducible exact⟨c2a _,d2a _,d4a _⟩)|(with_reducible exact⟨m2a _,q2a _,q4a _⟩)|go_keep) (λhHeld=>?_)
    clear hK
    try go_frame
    refine wpAnyH_ready (rs:=[8]) (by kernel_rfl) (by simp) ?_
    refine AllReadyH.cons (o:=⟨some 37,_,_,_,_,_⟩) rfl (λK hK=>?_) AllReadyH.nil
    go_simp
    refine hK.out _ _ (by first|(with_reducible exact⟨n2,p2,p4⟩)|(with_reducible exact⟨c2a _,d2a _,d4a _⟩)|(with_reducible exact⟨m2a _,q2a _,q4a _⟩)|go_keep) (λhHeld=>?_)
    clear hK
    try go_frame
    refine wpAnyH_ready (rs:=[9]) (by kernel_rfl) (by simp) ?_
    refine AllReadyH.cons (o:=⟨some 38,_,_,_,_,_⟩) rfl (λK hK=>?_) AllReadyH.nil
    (first|(refine step_app2 Tryz.elS encS_ok (by rfl) _ _ (by rfl) wc.heap.size (.slice none 0 0) (.slice ka A.keys.length kc) [] A.keys (by rfl) (by rfl) (Own.nil (λ_=>False) _ _ _ _ _) (HKA2.out.ext (by first|exact xn|exact (xn).alloc _|exact ((xn).alloc _).alloc _|fail)) (by simp only[List.length_nil];omega) (by first|(simp;done)|(simp;omega)|fail) (λf=>f) ?_;rw[List.nil_append,List.length_nil,Nat.zero_add];intro k1 d1 w3 hO3 hm3 hat3;have xm3:Ext wc w3:=Mods.past (by first|exact xn|exact (xn).alloc _|exact ((xn).alloc _).alloc _|fail) (hm3.mono (λk hk=>by simp[Value.ownBlock] at hk));have n2:=cellE xm3 N2.out;have p2:=cellE xm3 P2.out;have p4:=cellE xm3 P4.out;have m2a:=λo=>cell_alloc n2 o;have q2a:=λo=>cell_alloc p2 o;have q4a:=λo=>cell_alloc p4 o;have hz3:=xm3.size;have xf3:=(HBX.out.ext xm3).frozen;have x2:=(HBX.out.ext xm3).cell (o:=2) (v:=.slice none 0 0) rfl;have x2m:=λo=>cell_alloc x2 o;(first|(have hL:=Blk.mods (show Blk _ wc.heap.size #[.string t] 9 from (by first|exact heap_at (by first|(simp;done)|fail)|exact Blk.alloc (heap_at (by first|(simp;done)|fail)) _|fail)) hm3 (by simp[Value.ownBlock]))|skip))|(refine step_app2 Tryz.elS encS_ok (by rfl) _ _ (by rfl) wc.heap.size (.slice k1 A.keys.length d1) (.slice (some ⟨wc.heap.size,0,none⟩) 1 1) A.keys [t] (by rfl) (by rfl) hO3 (Sl.one (F:=λ_=>False) (x:=t) (enc:=encS) (sz:=1) hL (λf=>f)) (by simp only[List.length_singleton];omega) (by first|(simp;done)|(simp;omega)|omega|fail) (λf=>f) ?_;rw[List.length_singleton];intro k2 d2 w4 hO4 hm4 hat4;have xm4:Ext wc w4:=Mods.past (by first|exact xm3|exact (xm3).alloc _|exact ((xm3).alloc _).alloc _|fail) (hm4.mono (λk hk=>(hO3.lt k hk).1));have n2:=cellE xm4 N2.out;have p2:=cellE xm4 P2.out;have p4:=cellE xm4 P4.out;have m2a:=λo=>cell_alloc n2 o;have q2a:=λo=>cell_alloc p2 o;have q4a:=λo=>cell_alloc p4 o;have hz4:=xm4.size;have xf4:=(HBX.out.ext xm4).frozen;have x2:=(HBX.out.ext xm4).cell (o:=2) (v:=.slice none 0 0) rfl;have x2m:=λo=>cell_alloc x2 o)|(refine step_app2 Tryz.elS encS_ok (by rfl) _ _ (by rfl) wc.heap.size (.slice k1 A.keys.length d1) (.slice (some ⟨w3.heap.size,0,none⟩) 1 1) A.keys [t] (by rfl) (by rfl) (hO3.ext ((Mods.refl _ w3).alloc _)) (Sl.one (F:=λ_=>False) (x:=t) (enc:=encS) (sz:=1) (show Blk _ w3.heap.size #[.string t] 9 from heap_at (by simp)) (λf=>f)) (by simp only[List.length_singleton];omega) (by first|(simp;done)|(simp;omega)|omega|fail) (λf=>f) ?_;rw[List.length_singleton];intro k2 d2 w4 hO4 hm4 hat4;have xm4:Ext wc w4:=Mods.past (by first|exact xm3|exact (xm3).alloc _|exact ((xm3).alloc _).alloc _|fail) (hm4.mono (λk hk=>(hO3.lt k hk).1));have n2:=cellE xm4 N2.out;have p2:=cellE xm4 P2.out;have p4:=cellE xm4 P4.out;have m2a:=λo=>cell_alloc n2 o;have q2a:=λo=>cell_alloc p2 o;have q4a:=λo=>cell_alloc p4 o;have hz4:=xm4.size;have xf4:=(HBX.out.ext xm4).frozen;have x2:=(HBX.out.ext xm4).cell (o:=2) (v:=.slice none 0 0) rfl;have x2m:=λo=>cell_alloc x2 o)|(refine step_app2 Tryz.elS encS_ok (by rfl) _ _ (by rfl) wc.heap.size (.slice k2 (A.keys.length+1) d2) (.slice la B.keys.length lc) (A.keys++[t]) B.keys (by rfl) (by rfl) hO4 (HKB2.out.ext xm4) (by simp;omega) (by omega) (λf=>f) ?_;rw[List.length_append,List.length_singleton];intro k3 d3 w5 hO5 hm5 hat5;have xm5:Ext wc w5:=Mods.past xm4 (hm5.mono (λk hk=>(hO4.lt k hk).1));have n2:=cellE xm5 N2.out;have p2:=cellE xm5 P2.out;have p4:=cellE xm5 P4.out;have m2a:=λo=>cell_alloc n2 o;have q2a:=λo=>cell_alloc p2 o;have q4a:=λo=>cell_alloc p4 o;have hz5:=xm5.size;have xf5:=(HBX.out.ext xm5).frozen;have x2:=(HBX.out.ext xm5).cell (o:=2) (v:=.slice none 0 0) rfl;have x2m:=λo=>cell_alloc x2 o)|fail)
    refine hK.out _ _ (by first|(with_reducible exact⟨n2,p2,p4⟩)|(with_reducible exact⟨c2a _,d2a _,d4a _⟩)|(with_reducible exact⟨m2a _,q2a _,q4a _⟩)|go_keep) (λhHeld=>?_)
    clear hK
    try go_frame
    refine wpAnyH_ready (rs:=[13]) (by kernel_rfl) (by simp) ?_
    refine AllReadyH.cons (o:=⟨some 42,_,_,_,_,_⟩) rfl (λK hK=>?_) AllReadyH.nil
    (first|(refine step_app2 Tryz.elS encS_ok (by rfl) _ _ (by rfl) wc.heap.size (.slice none 0 0) (.slice ka A.keys.length kc) [] A.keys (by rfl) (by rfl) (Own.nil (λ_=>False) _ _ _ _ _) (HKA2.out.ext (by first|exact xn|exact (xn).alloc _|exact ((xn).alloc _).alloc _|fail)) (by simp only[List.length_nil];omega) (by first|(simp;done)|(simp;omega)|fail) (λf=>f) ?_;rw[List.nil_append,List.length_nil,Nat.zero_add];intro k1 d1 w3 hO3 hm3 hat3;have xm3:Ext wc w3:=Mods.past (by first|exact xn|exact (xn).alloc _|exact ((xn).alloc _).alloc _|fail) (hm3.mono (λk hk=>by simp[Value.ownBlock] at hk));have n2:=cellE xm3 N2.out;have p2:=cellE xm3 P2.out;have p4:=cellE xm3 P4.out;have m2a:=λo=>cell_alloc n2 o;have q2a:=λo=>cell_alloc p2 o;have q4a:=λo=>cell_alloc p4 o;have hz3:=xm3.size;have xf3:=(HBX.out.ext xm3).frozen;have x2:=(HBX.out.ext xm3).cell (o:=2) (v:=.slice none 0 0) rfl;have x2m:=λo=>cell_alloc x2 o;(first|(have hL:=Blk.mods (show Blk _ wc.heap.size #[.string t] 9 from (by first|exact heap_at (by first|(simp;done)|fail)|exact Blk.alloc (heap_at (by first|(simp;done)|fail)) _|fail)) hm3 (by simp[Value.ownBlock]))|skip))|(refine step_app2 Tryz.elS encS_ok (by rfl) _ _ (by rfl) wc.heap.size (.slice k1 A.keys.length d1) (.slice (some ⟨wc.heap.size,0,none⟩) 1 1) A.keys [t] (by rfl) (by rfl) hO3 (Sl.one (F:=λ_=>False) (x:=t) (enc:=encS) (sz:=1) hL (λf=>f)) (by simp only[List.length_singleton];omega) (by first|(simp;done)|(simp;omega)|omega|fail) (λf=>f) ?_;rw[List.length_singleton];intro k2 d2 w4 hO4 hm4 hat4;have xm4:Ext wc w4:=Mods.past (by first|exact xm3|exact (xm3).alloc _|exact ((xm3).alloc _).alloc _|fail) (hm4.mono (λk hk=>(hO3.lt k hk).1));have n2:=cellE xm4 N2.out;have p2:=cellE xm4 P2.out;have p4:=cellE xm4 P4.out;have m2a:=λo=>cell_alloc n2 o;have q2a:=λo=>cell_alloc p2 o;have q4a:=λo=>cell_alloc p4 o;have hz4:=xm4.size;have xf4:=(HBX.out.ext xm4).frozen;have x2:=(HBX.out.ext xm4).cell (o:=2) (v:=.slice none 0 0) rfl;have x2m:=λo=>cell_alloc x2 o)|(refine step_app2 Tryz.elS encS_ok (by rfl) _ _ (by rfl) wc.heap.size (.slice k1 A.keys.length d1) (.slice (some ⟨w3.heap.size,0,none⟩) 1 1) A.keys [t] (by rfl) (by rfl) (hO3.ext ((Mods.refl _ w3).alloc _)) (Sl.one (F:=λ_=>False) (x:=t) (enc:=encS) (sz:=1) (show Blk _ w3.heap.size #[.string t] 9 from heap_at (by simp)) (λf=>f)) (by simp only[List.length_singleton];omega) (by first|(simp;done)|(simp;omega)|omega|fail) (λf=>f) ?_;rw[List.length_singleton];intro k2 d2 w4 hO4 hm4 hat4;have xm4:Ext wc w4:=Mods.past (by first|exact xm3|exact (xm3).alloc _|exact ((xm3).alloc _).alloc _|fail) (hm4.mono (λk hk=>(hO3.lt k hk).1));have n2:=cellE xm4 N2.out;have p2:=cellE xm4 P2.out;have p4:=cellE xm4 P4.out;have m2a:=λo=>cell_alloc n2 o;have q2a:=λo=>cell_alloc p2 o;have q4a:=λo=>cell_alloc p4 o;have hz4:=xm4.size;have xf4:=(HBX.out.ext xm4).frozen;have x2:=(HBX.out.ext xm4).cell (o:=2) (v:=.slice none 0 0) rfl;have x2m:=λo=>cell_alloc x2 o)|(refine step_app2 Tryz.elS encS_ok (by rfl) _ _ (by rfl) wc.heap.size (.slice k2 (A.keys.length+1) d2) (.slice la B.keys.length lc) (A.keys++[t]) B.keys (by rfl) (by rfl) hO4 (HKB2.out.ext xm4) (by simp;omega) (by omega) (λf=>f) ?_;rw[List.length_append,List.length_singleton];intro k3 d3 w5 hO5 hm5 hat5;have xm5:Ext wc w5:=Mods.past xm4 (hm5.mono (λk hk=>(hO4.lt k hk).1));have n2:=cellE xm5 N2.out;have p2:=cellE xm5 P2.out;have p4:=cellE xm5 P4.out;have m2a:=λo=>cell_alloc n2 o;have q2a:=λo=>cell_alloc p2 o;have q4a:=λo=>cell_alloc p4 o;have hz5:=xm5.size;have xf5:=(HBX.out.ext xm5).frozen;have x2:=(HBX.out.ext xm5).cell (o:=2) (v:=.slice none 0 0) rfl;have x2m:=λo=>cell_alloc x2 o)|fail)
    refine hK.out _ _ (by first|(with_reducible exact⟨n2,p2,p4⟩)|(with_reducible exact⟨c2a _,d2a _,d4a _⟩)|(with_reducible exact⟨m2a _,q2a _,q4a _⟩)|go_keep) (λhHeld=>?_)
    clear hK
    try go_frame
    refine wpAnyH_take (i:=14) (oi:=⟨some 43,_,_,_,_,_⟩) (v:=?_) rfl (by kernel_rfl) (by kernel_rfl) (by kernel_rfl) (λ_ _ _ h=>h) (Or.inl ⟨by rfl,?_⟩) (by assumption) ?_
    rotate_left
    ·intro w hSw;(try dsimp only at hSw);go_simp;(try (with_reducible rfl))
    rotate_left
    try go_frame
    refine wpAnyH_ready (rs:=[15]) (by kernel_rfl) (by simp) ?_
    refine AllReadyH.cons (o:=⟨none,_,_,_,_,_⟩) rfl (λK hK=>?_) AllReadyH.nil
    go_simp
    refine hK.out _ _ (by first|(with_reducible exact⟨n2,p2,p4⟩)|(with_reducible exact⟨c2a _,d2a _,d4a _⟩)|(with_reducible exact⟨m2a _,q2a _,q4a _⟩)|go_keep) (λhHeld=>?_)
    clear hK
    try go_frame
    refine wpAnyH_done (by kernel_rfl) ?_ _
    obtain⟨V,hV⟩:∃V,V=Value.slice k3 (A.keys.length+1+B.keys.length) d3:=⟨_,rfl⟩
    obtain⟨w6,hw6⟩:∃w6,w6=w5.setCell ⟨X,2,none⟩ V:=⟨_,rfl⟩
    have hB5:=HBX.out.ext xm5
    have hNX:Blk w6 X #[.bool false,.slice none 0 0,V,.slice a3 (A.kids++B.kids).length c3] 118:=by rw[hw6];simpa using hB5.set 2 V
    have hRX:Blk w6 (w.heap.size+1+1) nodeZc 118:=by rw[hw6];exact (HR0.out.ext (HXW.out.trans xm5)).set_other (p:=⟨X,2,none⟩) (by have:=HZ.out;simp;omega) _
    have mX:Mods (λk=>k=X) w5 w6:=by rw[hw6];exact Mods.setCell (F:=λk=>k=X) (p:=⟨X,2,none⟩) (Mods.refl _ w5) (.inr rfl) V
    have hE6:Ext w0 w6:=by rw[hw6];exact (HXW.out.trans xm5).setCell (p:=⟨X,2,none⟩) (.inl hX) _
    have hOK:=(hO5.mods mX (λg hg=>hO5.notB hB5 (by decide) g hg)).rebase (show w0.heap.size≤wc.heap.size from HXW.out.size)
    have hOI:=(HOX.out.ext xm5).mods mX (λg hg=>(HOX.out.ext xm5).notB hB5 (by decide) g hg)
    have HF:=Lib.hid (hRX.set4 (.bool false) (.slice none 0 0) V (.slice a3 (A.kids++B.kids).length c3))
    have HE:=Lib.hid (Mods.set4 (HM0.out.trans hE6) (R:=w.heap.size+1+1) (.inl (by omega)) (.bool false) (.slice none 0 0) V (.slice a3 (A.kids++B.kids).length c3))
    have HOK:=Lib.hid ((hOK.row4 (Mods.refl _ w6) (R:=w.heap.size+1+1) (by have:=HZ.out;omega) (.bool false) (.slice none 0 0) V (.slice a3 (A.kids++B.kids).length c3)).rebase (show w.heap.size≤w0.heap.size by have:=HZ.out;omega))
    have HOI:=Lib.hid ((hOI.row4 (Mods.refl _ w6) (R:=w.heap.size+1+1) (by have:=HZ.out;omega) (.bool false) (.slice none 0 0) V (.slice a3 (A.kids++B.kids).length c3)).rebase (show w.heap.size≤w0.heap.size by have:=HZ.out;omega))
    have x0:=hNX.cell (o:=0) rfl
    have x1:=hNX.cell (o:=1) rfl
    have x2:=hNX.cell (o:=2) rfl
    have x3:=hNX.cell (o:=3) rfl
    have r0:=hRX.cell (o:=0) (v:=.bool false) rfl
    have r1:=hRX.cell (o:=1) (v:=.slice none 0 0) rfl
    have r2:=hRX.cell (o:=2) (v:=.slice none 0 0) rfl
    have r3:=hRX.cell (o:=3) (v:=.slice none 0 0) rfl
    have rf:=hRX.frozen
    rw[← hV,← hw6]
    have HV:=Lib.hid hV
    clear hO3 hO4 hO5 hm3 hm4 hm5 hat3 hat4 hat5 xm3 xm4 xm5 hw6 hB5 hNX hRX mX hE6 hOK hOI hV
    rw[HV.out] at x2
    rw[HV.out,List.length_append] at HF HE HOK HOI
    rw[HV.out]
    go_wp2_with fail
    refine bodyPost_ret (results_cell_row rfl _ _ (w.heap.size+1+1) 118 #[.bool false,.slice none 0 0,.slice k3 (A.keys.length+1+B.keys.length) d3,.slice a3 (A.kids.length+B.kids.length) c3] (0,0) _ rfl HF.out Tryz.underlying118 rfl Tryz.nodeSz) rfl ?_
    exact⟨_,rfl,⟨_,_,_,rfl,Own.nil _ _ _ _ _ _,HOK.out,HOI.out⟩,HE.out⟩
   refine AllReadyH.cons (o:=⟨some 37,_,_,_,_,_⟩) rfl (λK hK=>?_) AllReadyH.nil
   go_simp
   refine hK.out _ _ (by first|(with_reducible exact⟨n2,p2,p4⟩)|(with_reducible exact⟨c2a _,d2a _,d4a _⟩)|(with_reducible exact⟨m2a _,q2a _,q4a _⟩)|go_keep) (λhHeld=>?_)
   clear hK
   try go_frame
   refine wpAnyH_ready (rs:=[5]) (by kernel_rfl) (by simp) ?_
   refine AllReadyH.cons (o:=⟨some 34,_,_,_,_,_⟩) rfl (λK hK=>?_) AllReadyH.nil
   (first|(refine step_app2 Tryz.elS encS_ok (by rfl) _ _ (by rfl) wc.heap.size (.slice none 0 0) (.slice ka A.keys.length kc) [] A.keys (by rfl) (by rfl) (Own.nil (λ_=>False) _ _ _ _ _) (HKA2.out.ext (by first|exact xn|exact (xn).alloc _|exact ((xn).alloc _).alloc _|fail)) (by simp only[List.length_nil];omega) (by first|(simp;done)|(simp;omega)|fail) (λf=>f) ?_;rw[List.nil_append,List.length_nil,Nat.zero_add];intro k1 d1 w3 hO3 hm3 hat3;have xm3:Ext wc w3:=Mods.past (by first|exact xn|exact (xn).alloc _|exact ((xn).alloc _).alloc _|fail) (hm3.mono (λk hk=>by simp[Value.ownBlock] at hk));have n2:=cellE xm3 N2.out;have p2:=cellE xm3 P2.out;have p4:=cellE xm3 P4.out;have m2a:=λo=>cell_alloc n2 o;have q2a:=λo=>cell_alloc p2 o;have q4a:=λo=>cell_alloc p4 o;have hz3:=xm3.size;have xf3:=(HBX.out.ext xm3).frozen;have x2:=(HBX.out.ext xm3).cell (o:=2) (v:=.slice none 0 0) rfl;have x2m:=λo=>cell_alloc x2 o;(first|(have hL:=Blk.mods (show Blk _ wc.heap.size #[.string t] 9 from (by first|exact heap_at (by first|(simp;done)|fail)|exact Blk.alloc (heap_at (by first|(simp;done)|fail)) _|fail)) hm3 (by simp[Value.ownBlock]))|skip))|(refine step_app2 Tryz.elS encS_ok (by rfl) _ _ (by rfl) wc.heap.size (.slice k1 A.keys.length d1) (.slice (some ⟨wc.heap.size,0,none⟩) 1 1) A.keys [t] (by rfl) (by rfl) hO3 (Sl.one (F:=λ_=>False) (x:=t) (enc:=encS) (sz:=1) hL (λf=>f)) (by simp only[List.length_singleton];omega) (by first|(simp;done)|(simp;omega)|omega|fail) (λf=>f) ?_;rw[List.length_singleton];intro k2 d2 w4 hO4 hm4 hat4;have xm4:Ext wc w4:=Mods.past (by first|exact xm3|exact (xm3).alloc _|exact ((xm3).alloc _).alloc _|fail) (hm4.mono (λk hk=>(hO3.lt k hk).1));have n2:=cellE xm4 N2.out;have p2:=cellE xm4 P2.out;have p4:=cellE xm4 P4.out;have m2a:=λo=>cell_alloc n2 o;have q2a:=λo=>cell_alloc p2 o;have q4a:=λo=>cell_alloc p4 o;have hz4:=xm4.size;have xf4:=(HBX.out.ext xm4).frozen;have x2:=(HBX.out.ext xm4).cell (o:=2) (v:=.slice none 0 0) rfl;have x2m:=λo=>cell_alloc x2 o)|(refine step_app2 Tryz.elS encS_ok (by rfl) _ _ (by rfl) wc.heap.size (.slice k1 A.keys.length d1) (.slice (some ⟨w3.heap.size,0,none⟩) 1 1) A.keys [t] (by rfl) (by rfl) (hO3.ext ((Mods.refl _ w3).alloc _)) (Sl.one (F:=λ_=>False) (x:=t) (enc:=encS) (sz:=1) (show Blk _ w3.heap.size #[.string t] 9 from heap_at (by simp)) (λf=>f)) (by simp only[List.length_singleton];omega) (by first|(simp;done)|(simp;omega)|omega|fail) (λf=>f) ?_;rw[List.length_singleton];intro k2 d2 w4 hO4 hm4 hat4;have xm4:Ext wc w4:=Mods.past (by first|exact xm3|exact (xm3).alloc _|exact ((xm3).alloc _).alloc _|fail) (hm4.mono (λk hk=>(hO3.lt k hk).1));have n2:=cellE xm4 N2.out;have p2:=cellE xm4 P2.out;have p4:=cellE xm4 P4.out;have m2a:=λo=>cell_alloc n2 o;have q2a:=λo=>cell_alloc p2 o;have q4a:=λo=>cell_alloc p4 o;have hz4:=xm4.size;have xf4:=(HBX.out.ext xm4).frozen;have x2:=(HBX.out.ext xm4).cell (o:=2) (v:=.slice none 0 0) rfl;have x2m:=λo=>cell_alloc x2 o)|(refine step_app2 Tryz.elS encS_ok (by rfl) _ _ (by rfl) wc.heap.size (.slice k2 (A.keys.length+1) d2) (.slice la B.keys.length lc) (A.keys++[t]) B.keys (by rfl) (by rfl) hO4 (HKB2.out.ext xm4) (by simp;omega) (by omega) (λf=>f) ?_;rw[List.length_append,List.length_singleton];intro k3 d3 w5 hO5 hm5 hat5;have xm5:Ext wc w5:=Mods.past xm4 (hm5.mono (λk hk=>(hO4.lt k hk).1));have n2:=cellE xm5 N2.out;have p2:=cellE xm5 P2.out;have p4:=cellE xm5 P4.out;have m2a:=λo=>cell_alloc n2 o;have q2a:=λo=>cell_alloc p2 o;have q4a:=λo=>cell_alloc p4 o;have hz5:=xm5.size;have xf5:=(HBX.out.ext xm5).frozen;have x2:=(HBX.out.ext xm5).cell (o:=2) (v:=.slice none 0 0) rfl;have x2m:=λo=>cell_alloc x2 o)|fail)
   refine hK.out _ _ (by first|(with_reducible exact⟨n2,p2,p4⟩)|(with_reducible exact⟨c2a _,d2a _,d4a _⟩)|(with_reducible exact⟨m2a _,q2a _,q4a _⟩)|go_keep) (λhHeld=>?_)
   clear hK
   try go_frame
   refine wpAnyH_ready (rs:=[9]) (by kernel_rfl) (by simp) ?_
   refine AllReadyH.cons (o:=⟨some 38,_,_,_,_,_⟩) rfl (λK hK=>?_) AllReadyH.nil
   (first|(refine step_app2 Tryz.elS encS_ok (by rfl) _ _ (by rfl) wc.heap.size (.slice none 0 0) (.slice ka A.keys.length kc) [] A.keys (by rfl) (by rfl) (Own.nil (λ_=>False) _ _ _ _ _) (HKA2.out.ext (by first|exact xn|exact (xn).alloc _|exact ((xn).alloc _).alloc _|fail)) (by simp only[List.length_nil];omega) (by first|(simp;done)|(simp;omega)|fail) (λf=>f) ?_;rw[List.nil_append,List.length_nil,Nat.zero_add];intro k1 d1 w3 hO3 hm3 hat3;have xm3:Ext wc w3:=Mods.past (by first|exact xn|exact (xn).alloc _|exact ((xn).alloc _).alloc _|fail) (hm3.mono (λk hk=>by simp[Value.ownBlock] at hk));have n2:=cellE xm3 N2.out;have p2:=cellE xm3 P2.out;have p4:=cellE xm3 P4.out;have m2a:=λo=>cell_alloc n2 o;have q2a:=λo=>cell_alloc p2 o;have q4a:=λo=>cell_alloc p4 o;have hz3:=xm3.size;have xf3:=(HBX.out.ext xm3).frozen;have x2:=(HBX.out.ext xm3).cell (o:=2) (v:=.slice none 0 0) rfl;have x2m:=λo=>cell_alloc x2 o;(first|(have hL:=Blk.mods (show Blk _ wc.heap.size #[.string t] 9 from (by first|exact heap_at (by first|(simp;done)|fail)|exact Blk.alloc (heap_at (by first|(simp;done)|fail)) _|fail)) hm3 (by simp[Value.ownBlock]))|skip))|(refine step_app2 Tryz.elS encS_ok (by rfl) _ _ (by rfl) wc.heap.size (.slice k1 A.keys.length d1) (.slice (some ⟨wc.heap.size,0,none⟩) 1 1) A.keys [t] (by rfl) (by rfl) hO3 (Sl.one (F:=λ_=>False) (x:=t) (enc:=encS) (sz:=1) hL (λf=>f)) (by simp only[List.length_singleton];omega) (by first|(simp;done)|(simp;omega)|omega|fail) (λf=>f) ?_;rw[List.length_singleton];intro k2 d2 w4 hO4 hm4 hat4;have xm4:Ext wc w4:=Mods.past (by first|exact xm3|exact (xm3).alloc _|exact ((xm3).alloc _).alloc _|fail) (hm4.mono (λk hk=>(hO3.lt k hk).1));have n2:=cellE xm4 N2.out;have p2:=cellE xm4 P2.out;have p4:=cellE xm4 P4.out;have m2a:=λo=>cell_alloc n2 o;have q2a:=λo=>cell_alloc p2 o;have q4a:=λo=>cell_alloc p4 o;have hz4:=xm4.size;have xf4:=(HBX.out.ext xm4).frozen;have x2:=(HBX.out.ext xm4).cell (o:=2) (v:=.slice none 0 0) rfl;have x2m:=λo=>cell_alloc x2 o)|(refine step_app2 Tryz.elS encS_ok (by rfl) _ _ (by rfl) wc.heap.size (.slice k1 A.keys.length d1) (.slice (some ⟨w3.heap.size,0,none⟩) 1 1) A.keys [t] (by rfl) (by rfl) (hO3.ext ((Mods.refl _ w3).alloc _)) (Sl.one (F:=λ_=>False) (x:=t) (enc:=encS) (sz:=1) (show Blk _ w3.heap.size #[.string t] 9 from heap_at (by simp)) (λf=>f)) (by simp only[List.length_singleton];omega) (by first|(simp;done)|(simp;omega)|omega|fail) (λf=>f) ?_;rw[List.length_singleton];intro k2 d2 w4 hO4 hm4 hat4;have xm4:Ext wc w4:=Mods.past (by first|exact xm3|exact (xm3).alloc _|exact ((xm3).alloc _).alloc _|fail) (hm4.mono (λk hk=>(hO3.lt k hk).1));have n2:=cellE xm4 N2.out;have p2:=cellE xm4 P2.out;have p4:=cellE xm4 P4.out;have m2a:=λo=>cell_alloc n2 o;have q2a:=λo=>cell_alloc p2 o;have q4a:=λo=>cell_alloc p4 o;have hz4:=xm4.size;have xf4:=(HBX.out.ext xm4).frozen;have x2:=(HBX.out.ext xm4).cell (o:=2) (v:=.slice none 0 0) rfl;have x2m:=λo=>cell_alloc x2 o)|(refine step_app2 Tryz.elS encS_ok (by rfl) _ _ (by rfl) wc.heap.size (.slice k2 (A.keys.length+1) d2) (.slice la B.keys.length lc) (A.keys++[t]) B.keys (by rfl) (by rfl) hO4 (HKB2.out.ext xm4) (by simp;omega) (by omega) (λf=>f) ?_;rw[List.length_append,List.length_singleton];intro k3 d3 w5 hO5 hm5 hat5;have xm5:Ext wc w5:=Mods.past xm4 (hm5.mono (λk hk=>(hO4.lt k hk).1));have n2:=cellE xm5 N2.out;have p2:=cellE xm5 P2.out;have p4:=cellE xm5 P4.out;have m2a:=λo=>cell_alloc n2 o;have q2a:=λo=>cell_alloc p2 o;have q4a:=λo=>cell_alloc p4 o;have hz5:=xm5.size;have xf5:=(HBX.out.ext xm5).frozen;have x2:=(HBX.out.ext xm5).cell (o:=2) (v:=.slice none 0 0) rfl;have x2m:=λo=>cell_alloc x2 o)|fail)
   refine hK.out _ _ (by first|(with_reducible exact⟨n2,p2,p4⟩)|(with_reducible exact⟨c2a _,d2a _,d4a _⟩)|(with_reducible exact⟨m2a _,q2a _,q4a _⟩)|go_keep) (λhHeld=>?_)
   clear hK
   try go_frame
   refine wpAnyH_ready (rs:=[13]) (by kernel_rfl) (by simp) ?_
   refine AllReadyH.cons (o:=⟨some 42,_,_,_,_,_⟩) rfl (λK hK=>?_) AllReadyH.nil
   (first|(refine step_app2 Tryz.elS encS_ok (by rfl) _ _ (by rfl) wc.heap.size (.slice none 0 0) (.slice ka A.keys.length kc) [] A.keys (by rfl) (by rfl) (Own.nil (λ_=>False) _ _ _ _ _) (HKA2.out.ext (by first|exact xn|exact (xn).alloc _|exact ((xn).alloc _).alloc _|fail)) (by simp only[List.length_nil];omega) (by first|(simp;done)|(simp;omega)|fail) (λf=>f) ?_;rw[List.nil_append,List.length_nil,Nat.zero_add];intro k1 d1 w3 hO3 hm3 hat3;have xm3:Ext wc w3:=Mods.past (by first|exact xn|exact (xn).alloc _|exact ((xn).alloc _).alloc _|fail) (hm3.mono (λk hk=>by simp[Value.ownBlock] at hk));have n2:=cellE xm3 N2.out;have p2:=cellE xm3 P2.out;have p4:=cellE xm3 P4.out;have m2a:=λo=>cell_alloc n2 o;have q2a:=λo=>cell_alloc p2 o;have q4a:=λo=>cell_alloc p4 o;have hz3:=xm3.size;have xf3:=(HBX.out.ext xm3).frozen;have x2:=(HBX.out.ext xm3).cell (o:=2) (v:=.slice none 0 0) rfl;have x2m:=λo=>cell_alloc x2 o;(first|(have hL:=Blk.mods (show Blk _ wc.heap.size #[.string t] 9 from (by first|exact heap_at (by first|(simp;done)|fail)|exact Blk.alloc (heap_at (by first|(simp;done)|fail)) _|fail)) hm3 (by simp[Value.ownBlock]))|skip))|(refine step_app2 Tryz.elS encS_ok (by rfl) _ _ (by rfl) wc.heap.size (.slice k1 A.keys.length d1) (.slice (some ⟨wc.heap.size,0,none⟩) 1 1) A.keys [t] (by rfl) (by rfl) hO3 (Sl.one (F:=λ_=>False) (x:=t) (enc:=encS) (sz:=1) hL (λf=>f)) (by simp only[List.length_singleton];omega) (by first|(simp;done)|(simp;omega)|omega|fail) (λf=>f) ?_;rw[List.length_singleton];intro k2 d2 w4 hO4 hm4 hat4;have xm4:Ext wc w4:=Mods.past (by first|exact xm3|exact (xm3).alloc _|exact ((xm3).alloc _).alloc _|fail) (hm4.mono (λk hk=>(hO3.lt k hk).1));have n2:=cellE xm4 N2.out;have p2:=cellE xm4 P2.out;have p4:=cellE xm4 P4.out;have m2a:=λo=>cell_alloc n2 o;have q2a:=λo=>cell_alloc p2 o;have q4a:=λo=>cell_alloc p4 o;have hz4:=xm4.size;have xf4:=(HBX.out.ext xm4).frozen;have x2:=(HBX.out.ext xm4).cell (o:=2) (v:=.slice none 0 0) rfl;have x2m:=λo=>cell_alloc x2 o)|(refine step_app2 Tryz.elS encS_ok (by rfl) _ _ (by rfl) wc.heap.size (.slice k1 A.keys.length d1) (.slice (some ⟨w3.heap.size,0,none⟩) 1 1) A.keys [t] (by rfl) (by rfl) (hO3.ext ((Mods.refl _ w3).alloc _)) (Sl.one (F:=λ_=>False) (x:=t) (enc:=encS) (sz:=1) (show Blk _ w3.heap.size #[.string t] 9 from heap_at (by simp)) (λf=>f)) (by simp only[List.length_singleton];omega) (by first|(simp;done)|(simp;omega)|omega|fail) (λf=>f) ?_;rw[List.length_singleton];intro k2 d2 w4 hO4 hm4 hat4;have xm4:Ext wc w4:=Mods.past (by first|exact xm3|exact (xm3).alloc _|exact ((xm3).alloc _).alloc _|fail) (hm4.mono (λk hk=>(hO3.lt k hk).1));have n2:=cellE xm4 N2.out;have p2:=cellE xm4 P2.out;have p4:=cellE xm4 P4.out;have m2a:=λo=>cell_alloc n2 o;have q2a:=λo=>cell_alloc p2 o;have q4a:=λo=>cell_alloc p4 o;have hz4:=xm4.size;have xf4:=(HBX.out.ext xm4).frozen;have x2:=(HBX.out.ext xm4).cell (o:=2) (v:=.slice none 0 0) rfl;have x2m:=λo=>cell_alloc x2 o)|(refine step_app2 Tryz.elS encS_ok (by rfl) _ _ (by rfl) wc.heap.size (.slice k2 (A.keys.length+1) d2) (.slice la B.keys.length lc) (A.keys++[t]) B.keys (by rfl) (by rfl) hO4 (HKB2.out.ext xm4) (by simp;omega) (by omega) (λf=>f) ?_;rw[List.length_append,List.length_singleton];intro k3 d3 w5 hO5 hm5 hat5;have xm5:Ext wc w5:=Mods.past xm4 (hm5.mono (λk hk=>(hO4.lt k hk).1));have n2:=cellE xm5 N2.out;have p2:=cellE xm5 P2.out;have p4:=cellE xm5 P4.out;have m2a:=λo=>cell_alloc n2 o;have q2a:=λo=>cell_alloc p2 o;have q4a:=λo=>cell_alloc p4 o;have hz5:=xm5.size;have xf5:=(HBX.out.ext xm5).frozen;have x2:=(HBX.out.ext xm5).cell (o:=2) (v:=.slice none 0 0) rfl;have x2m:=λo=>cell_alloc x2 o)|fail)
   refine hK.out _ _ (by first|(with_reducible exact⟨n2,p2,p4⟩)|(with_reducible exact⟨c2a _,d2a _,d4a _⟩)|(with_reducible exact⟨m2a _,q2a _,q4a _⟩)|go_keep) (λhHeld=>?_)
   clear hK
   try go_frame
   refine wpAnyH_take (i:=14) (oi:=⟨some 43,_,_,_,_,_⟩) (v:=?_) rfl (by kernel_rfl) (by kernel_rfl) (by kernel_rfl) (λ_ _ _ h=>h) (Or.inl ⟨by rfl,?_⟩) (by assumption) ?_
   rotate_left
   ·intro w hSw;(try dsimp only at hSw);go_simp;(try (with_reducible rfl))
   rotate_left
   try go_frame
   refine wpAnyH_ready (rs:=[15]) (by kernel_rfl) (by simp) ?_
   refine AllReadyH.cons (o:=⟨none,_,_,_,_,_⟩) rfl (λK hK=>?_) AllReadyH.nil
   go_simp
   refine hK.out _ _ (by first|(with_reducible exact⟨n2,p2,p4⟩)|(with_reducible exact⟨c2a _,d2a _,d4a _⟩)|(with_reducible exact⟨m2a _,q2a _,q4a _⟩)|go_keep) (λhHeld=>?_)
   clear hK
   try go_frame
   refine wpAnyH_done (by kernel_rfl) ?_ _
   obtain⟨V,hV⟩:∃V,V=Value.slice k3 (A.keys.length+1+B.keys.length) d3:=⟨_,rfl⟩
   obtain⟨w6,hw6⟩:∃w6,w6=w5.setCell ⟨X,2,none⟩ V:=⟨_,rfl⟩
   have hB5:=HBX.out.ext xm5
   have hNX:Blk w6 X #[.bool false,.slice none 0 0,V,.slice a3 (A.kids++B.kids).length c3] 118:=by rw[hw6];simpa using hB5.set 2 V
   have hRX:Blk w6 (w.heap.size+1+1) nodeZc 118:=by rw[hw6];exact (HR0.out.ext (HXW.out.trans xm5)).set_other (p:=⟨X,2,none⟩) (by have:=HZ.out;simp;omega) _
   have mX:Mods (λk=>k=X) w5 w6:=by rw[hw6];exact Mods.setCell (F:=λk=>k=X) (p:=⟨X,2,none⟩) (Mods.refl _ w5) (.inr rfl) V
   have hE6:Ext w0 w6:=by rw[hw6];exact (HXW.out.trans xm5).setCell (p:=⟨X,2,none⟩) (.inl hX) _
   have hOK:=(hO5.mods mX (λg hg=>hO5.notB hB5 (by decide) g hg)).rebase (show w0.heap.size≤wc.heap.size from HXW.out.size)
   have hOI:=(HOX.out.ext xm5).mods mX (λg hg=>(HOX.out.ext xm5).notB hB5 (by decide) g hg)
   have HF:=Lib.hid (hRX.set4 (.bool false) (.slice none 0 0) V (.slice a3 (A.kids++B.kids).length c3))
   have HE:=Lib.hid (Mods.set4 (HM0.out.trans hE6) (R:=w.heap.size+1+1) (.inl (by omega)) (.bool false) (.slice none 0 0) V (.slice a3 (A.kids++B.kids).length c3))
   have HOK:=Lib.hid ((hOK.row4 (Mods.refl _ w6) (R:=w.heap.size+1+1) (by have:=HZ.out;omega) (.bool false) (.slice none 0 0) V (.slice a3 (A.kids++B.kids).length c3)).rebase (show w.heap.size≤w0.heap.size by have:=HZ.out;omega))
   have HOI:=Lib.hid ((hOI.row4 (Mods.refl _ w6) (R:=w.heap.size+1+1) (by have:=HZ.out;omega) (.bool false) (.slice none 0 0) V (.slice a3 (A.kids++B.kids).length c3)).rebase (show w.heap.size≤w0.heap.size by have:=HZ.out;omega))
   have x0:=hNX.cell (o:=0) rfl
   have x1:=hNX.cell (o:=1) rfl
   have x2:=hNX.cell (o:=2) rfl
   have x3:=hNX.cell (o:=3) rfl
   have r0:=hRX.cell (o:=0) (v:=.bool false) rfl
   have r1:=hRX.cell (o:=1) (v:=.slice none 0 0) rfl
   have r2:=hRX.cell (o:=2) (v:=.slice none 0 0) rfl
   have r3:=hRX.cell (o:=3) (v:=.slice none 0 0) rfl
   have rf:=hRX.frozen
   rw[← hV,← hw6]
   have HV:=Lib.hid hV
   clear hO3 hO4 hO5 hm3 hm4 hm5 hat3 hat4 hat5 xm3 xm4 xm5 hw6 hB5 hNX hRX mX hE6 hOK hOI hV
   rw[HV.out] at x2
   rw[HV.out,List.length_append] at HF HE HOK HOI
   rw[HV.out]
   go_wp2_with fail
   refine bodyPost_ret (results_cell_row rfl _ _ (w.heap.size+1+1) 118 #[.bool false,.slice none 0 0,.slice k3 (A.keys.length+1+B.keys.length) d3,.slice a3 (A.kids.length+B.kids.length) c3] (0,0) _ rfl HF.out Tryz.underlying118 rfl Tryz.nodeSz) rfl ?_
   exact⟨_,rfl,⟨_,_,_,rfl,Own.nil _ _ _ _ _ _,HOK.out,HOI.out⟩,HE.out⟩
  refine AllReadyH.cons (o:=⟨some 37,_,_,_,_,_⟩) rfl (λK hK=>?_) AllReadyH.nil
  go_simp
  refine hK.out _ _ (by first|(with_reducible exact⟨n2,p2,p4⟩)|(with_reducible exact⟨c2a _,d2a _,d4a _⟩)|(with_reducible exact⟨m2a _,q2a _,q4a _⟩)|go_keep) (λhHeld=>?_)
  clear hK
  try go_frame
  refine wpAnyH_ready (rs:=[1]) (by kernel_rfl) (by simp) ?_
  refine AllReadyH.cons (o:=⟨some 30,_,_,_,_,_⟩) rfl (λK hK=>?_) AllReadyH.nil
  go_simp
  refine hK.out _ _ (by first|(with_reducible exact⟨n2,p2,p4⟩)|(with_reducible exact⟨c2a _,d2a _,d4a _⟩)|(with_reducible exact⟨m2a _,q2a _,q4a _⟩)|go_keep) (λhHeld=>?_)
  clear hK
  try go_frame
  refine wpAnyH_ready (rs:=[5]) (by kernel_rfl) (by simp) ?_
  refine AllReadyH.cons (o:=⟨some 34,_,_,_,_,_⟩) rfl (λK hK=>?_) AllReadyH.nil
  (first|(refine step_app2 Tryz.elS encS_ok (by rfl) _ _ (by rfl) wc.heap.size (.slice none 0 0) (.slice ka A.keys.length kc) [] A.keys (by rfl) (by rfl) (Own.nil (λ_=>False) _ _ _ _ _) (HKA2.out.ext (by first|exact xn|exact (xn).alloc _|exact ((xn).alloc _).alloc _|fail)) (by simp only[List.length_nil];omega) (by first|(simp;done)|(simp;omega)|fail) (λf=>f) ?_;rw[List.nil_append,List.length_nil,Nat.zero_add];intro k1 d1 w3 hO3 hm3 hat3;have xm3:Ext wc w3:=Mods.past (by first|exact xn|exact (xn).alloc _|exact ((xn).alloc _).alloc _|fail) (hm3.mono (λk hk=>by simp[Value.ownBlock] at hk));have n2:=cellE xm3 N2.out;have p2:=cellE xm3 P2.out;have p4:=cellE xm3 P4.out;have m2a:=λo=>cell_alloc n2 o;have q2a:=λo=>cell_alloc p2 o;have q4a:=λo=>cell_alloc p4 o;have hz3:=xm3.size;have xf3:=(HBX.out.ext xm3).frozen;have x2:=(HBX.out.ext xm3).cell (o:=2) (v:=.slice none 0 0) rfl;have x2m:=λo=>cell_alloc x2 o;(first|(have hL:=Blk.mods (show Blk _ wc.heap.size #[.string t] 9 from (by first|exact heap_at (by first|(simp;done)|fail)|exact Blk.alloc (heap_at (by first|(simp;done)|fail)) _|fail)) hm3 (by simp[Value.ownBlock]))|skip))|(refine step_app2 Tryz.elS encS_ok (by rfl) _ _ (by rfl) wc.heap.size (.slice k1 A.keys.length d1) (.slice (some ⟨wc.heap.size,0,none⟩) 1 1) A.keys [t] (by rfl) (by rfl) hO3 (Sl.one (F:=λ_=>False) (x:=t) (enc:=encS) (sz:=1) hL (λf=>f)) (by simp only[List.length_singleton];omega) (by first|(simp;done)|(simp;omega)|omega|fail) (λf=>f) ?_;rw[List.length_singleton];intro k2 d2 w4 hO4 hm4 hat4;have xm4:Ext wc w4:=Mods.past (by first|exact xm3|exact (xm3).alloc _|exact ((xm3).alloc _).alloc _|fail) (hm4.mono (λk hk=>(hO3.lt k hk).1));have n2:=cellE xm4 N2.out;have p2:=cellE xm4 P2.out;have p4:=cellE xm4 P4.out;have m2a:=λo=>cell_alloc n2 o;have q2a:=λo=>cell_alloc p2 o;have q4a:=λo=>cell_alloc p4 o;have hz4:=xm4.size;have xf4:=(HBX.out.ext xm4).frozen;have x2:=(HBX.out.ext xm4).cell (o:=2) (v:=.slice none 0 0) rfl;have x2m:=λo=>cell_alloc x2 o)|(refine step_app2 Tryz.elS encS_ok (by rfl) _ _ (by rfl) wc.heap.size (.slice k1 A.keys.length d1) (.slice (some ⟨w3.heap.size,0,none⟩) 1 1) A.keys [t] (by rfl) (by rfl) (hO3.ext ((Mods.refl _ w3).alloc _)) (Sl.one (F:=λ_=>False) (x:=t) (enc:=encS) (sz:=1) (show Blk _ w3.heap.size #[.string t] 9 from heap_at (by simp)) (λf=>f)) (by simp only[List.length_singleton];omega) (by first|(simp;done)|(simp;omega)|omega|fail) (λf=>f) ?_;rw[List.length_singleton];intro k2 d2 w4 hO4 hm4 hat4;have xm4:Ext wc w4:=Mods.past (by first|exact xm3|exact (xm3).alloc _|exact ((xm3).alloc _).alloc _|fail) (hm4.mono (λk hk=>(hO3.lt k hk).1));have n2:=cellE xm4 N2.out;have p2:=cellE xm4 P2.out;have p4:=cellE xm4 P4.out;have m2a:=λo=>cell_alloc n2 o;have q2a:=λo=>cell_alloc p2 o;have q4a:=λo=>cell_alloc p4 o;have hz4:=xm4.size;have xf4:=(HBX.out.ext xm4).frozen;have x2:=(HBX.out.ext xm4).cell (o:=2) (v:=.slice none 0 0) rfl;have x2m:=λo=>cell_alloc x2 o)|(refine step_app2 Tryz.elS encS_ok (by rfl) _ _ (by rfl) wc.heap.size (.slice k2 (A.keys.length+1) d2) (.slice la B.keys.length lc) (A.keys++[t]) B.keys (by rfl) (by rfl) hO4 (HKB2.out.ext xm4) (by simp;omega) (by omega) (λf=>f) ?_;rw[List.length_append,List.length_singleton];intro k3 d3 w5 hO5 hm5 hat5;have xm5:Ext wc w5:=Mods.past xm4 (hm5.mono (λk hk=>(hO4.lt k hk).1));have n2:=cellE xm5 N2.out;have p2:=cellE xm5 P2.out;have p4:=cellE xm5 P4.out;have m2a:=λo=>cell_alloc n2 o;have q2a:=λo=>cell_alloc p2 o;have q4a:=λo=>cell_alloc p4 o;have hz5:=xm5.size;have xf5:=(HBX.out.ext xm5).frozen;have x2:=(HBX.out.ext xm5).cell (o:=2) (v:=.slice none 0 0) rfl;have x2m:=λo=>cell_alloc x2 o)|fail)
  refine hK.out _ _ (by first|(with_reducible exact⟨n2,p2,p4⟩)|(with_reducible exact⟨c2a _,d2a _,d4a _⟩)|(with_reducible exact⟨m2a _,q2a _,q4a _⟩)|go_keep) (λhHeld=>?_)
  clear hK
  try go_frame
  refine wpAnyH_ready (rs:=[9]) (by kernel_rfl) (by simp) ?_
  refine AllReadyH.cons (o:=⟨some 38,_,_,_,_,_⟩) rfl (λK hK=>?_) AllReadyH.nil
  (first|(refine step_app2 Tryz.elS encS_ok (by rfl) _ _ (by rfl) wc.heap.size (.slice none 0 0) (.slice ka A.keys.length kc) [] A.keys (by rfl) (by rfl) (Own.nil (λ_=>False) _ _ _ _ _) (HKA2.out.ext (by first|exact xn|exact (xn).alloc _|exact ((xn).alloc _).alloc _|fail)) (by simp only[List.length_nil];omega) (by first|(simp;done)|(simp;omega)|fail) (λf=>f) ?_;rw[List.nil_append,List.length_nil,Nat.zero_add];intro k1 d1 w3 hO3 hm3 hat3;have xm3:Ext wc w3:=Mods.past (by first|exact xn|exact (xn).alloc _|exact ((xn).alloc _).alloc _|fail) (hm3.mono (λk hk=>by simp[Value.ownBlock] at hk));have n2:=cellE xm3 N2.out;have p2:=cellE xm3 P2.out;have p4:=cellE xm3 P4.out;have m2a:=λo=>cell_alloc n2 o;have q2a:=λo=>cell_alloc p2 o;have q4a:=λo=>cell_alloc p4 o;have hz3:=xm3.size;have xf3:=(HBX.out.ext xm3).frozen;have x2:=(HBX.out.ext xm3).cell (o:=2) (v:=.slice none 0 0) rfl;have x2m:=λo=>cell_alloc x2 o;(first|(have hL:=Blk.mods (show Blk _ wc.heap.size #[.string t] 9 from (by first|exact heap_at (by first|(simp;done)|fail)|exact Blk.alloc (heap_at (by first|(simp;done)|fail)) _|fail)) hm3 (by simp[Value.ownBlock]))|skip))|(refine step_app2 Tryz.elS encS_ok (by rfl) _ _ (by rfl) wc.heap.size (.slice k1 A.keys.length d1) (.slice (some ⟨wc.heap.size,0,none⟩) 1 1) A.keys [t] (by rfl) (by rfl) hO3 (Sl.one (F:=λ_=>False) (x:=t) (enc:=encS) (sz:=1) hL (λf=>f)) (by simp only[List.length_singleton];omega) (by first|(simp;done)|(simp;omega)|omega|fail) (λf=>f) ?_;rw[List.length_singleton];intro k2 d2 w4 hO4 hm4 hat4;have xm4:Ext wc w4:=Mods.past (by first|exact xm3|exact (xm3).alloc _|exact ((xm3).alloc _).alloc _|fail) (hm4.mono (λk hk=>(hO3.lt k hk).1));have n2:=cellE xm4 N2.out;have p2:=cellE xm4 P2.out;have p4:=cellE xm4 P4.out;have m2a:=λo=>cell_alloc n2 o;have q2a:=λo=>cell_alloc p2 o;have q4a:=λo=>cell_alloc p4 o;have hz4:=xm4.size;have xf4:=(HBX.out.ext xm4).frozen;have x2:=(HBX.out.ext xm4).cell (o:=2) (v:=.slice none 0 0) rfl;have x2m:=λo=>cell_alloc x2 o)|(refine step_app2 Tryz.elS encS_ok (by rfl) _ _ (by rfl) wc.heap.size (.slice k1 A.keys.length d1) (.slice (some ⟨w3.heap.size,0,none⟩) 1 1) A.keys [t] (by rfl) (by rfl) (hO3.ext ((Mods.refl _ w3).alloc _)) (Sl.one (F:=λ_=>False) (x:=t) (enc:=encS) (sz:=1) (show Blk _ w3.heap.size #[.string t] 9 from heap_at (by simp)) (λf=>f)) (by simp only[List.length_singleton];omega) (by first|(simp;done)|(simp;omega)|omega|fail) (λf=>f) ?_;rw[List.length_singleton];intro k2 d2 w4 hO4 hm4 hat4;have xm4:Ext wc w4:=Mods.past (by first|exact xm3|exact (xm3).alloc _|exact ((xm3).alloc _).alloc _|fail) (hm4.mono (λk hk=>(hO3.lt k hk).1));have n2:=cellE xm4 N2.out;have p2:=cellE xm4 P2.out;have p4:=cellE xm4 P4.out;have m2a:=λo=>cell_alloc n2 o;have q2a:=λo=>cell_alloc p2 o;have q4a:=λo=>cell_alloc p4 o;have hz4:=xm4.size;have xf4:=(HBX.out.ext xm4).frozen;have x2:=(HBX.out.ext xm4).cell (o:=2) (v:=.slice none 0 0) rfl;have x2m:=λo=>cell_alloc x2 o)|(refine step_app2 Tryz.elS encS_ok (by rfl) _ _ (by rfl) wc.heap.size (.slice k2 (A.keys.length+1) d2) (.slice la B.keys.length lc) (A.keys++[t]) B.keys (by rfl) (by rfl) hO4 (HKB2.out.ext xm4) (by simp;omega) (by omega) (λf=>f) ?_;rw[List.length_append,List.length_singleton];intro k3 d3 w5 hO5 hm5 hat5;have xm5:Ext wc w5:=Mods.past xm4 (hm5.mono (λk hk=>(hO4.lt k hk).1));have n2:=cellE xm5 N2.out;have p2:=cellE xm5 P2.out;have p4:=cellE xm5 P4.out;have m2a:=λo=>cell_alloc n2 o;have q2a:=λo=>cell_alloc p2 o;have q4a:=λo=>cell_alloc p4 o;have hz5:=xm5.size;have xf5:=(HBX.out.ext xm5).frozen;have x2:=(HBX.out.ext xm5).cell (o:=2) (v:=.slice none 0 0) rfl;have x2m:=λo=>cell_alloc x2 o)|fail)
  refine hK.out _ _ (by first|(with_reducible exact⟨n2,p2,p4⟩)|(with_reducible exact⟨c2a _,d2a _,d4a _⟩)|(with_reducible exact⟨m2a _,q2a _,q4a _⟩)|go_keep) (λhHeld=>?_)
  clear hK
  try go_frame
  refine wpAnyH_ready (rs:=[13]) (by kernel_rfl) (by simp) ?_
  refine AllReadyH.cons (o:=⟨some 42,_,_,_,_,_⟩) rfl (λK hK=>?_) AllReadyH.nil
  (first|(refine step_app2 Tryz.elS encS_ok (by rfl) _ _ (by rfl) wc.heap.size (.slice none 0 0) (.slice ka A.keys.length kc) [] A.keys (by rfl) (by rfl) (Own.nil (λ_=>False) _ _ _ _ _) (HKA2.out.ext (by first|exact xn|exact (xn).alloc _|exact ((xn).alloc _).alloc _|fail)) (by simp only[List.length_nil];omega) (by first|(simp;done)|(simp;omega)|fail) (λf=>f) ?_;rw[List.nil_append,List.length_nil,Nat.zero_add];intro k1 d1 w3 hO3 hm3 hat3;have xm3:Ext wc w3:=Mods.past (by first|exact xn|exact (xn).alloc _|exact ((xn).alloc _).alloc _|fail) (hm3.mono (λk hk=>by simp[Value.ownBlock] at hk));have n2:=cellE xm3 N2.out;have p2:=cellE xm3 P2.out;have p4:=cellE xm3 P4.out;have m2a:=λo=>cell_alloc n2 o;have q2a:=λo=>cell_alloc p2 o;have q4a:=λo=>cell_alloc p4 o;have hz3:=xm3.size;have xf3:=(HBX.out.ext xm3).frozen;have x2:=(HBX.out.ext xm3).cell (o:=2) (v:=.slice none 0 0) rfl;have x2m:=λo=>cell_alloc x2 o;(first|(have hL:=Blk.mods (show Blk _ wc.heap.size #[.string t] 9 from (by first|exact heap_at (by first|(simp;done)|fail)|exact Blk.alloc (heap_at (by first|(simp;done)|fail)) _|fail)) hm3 (by simp[Value.ownBlock]))|skip))|(refine step_app2 Tryz.elS encS_ok (by rfl) _ _ (by rfl) wc.heap.size (.slice k1 A.keys.length d1) (.slice (some ⟨wc.heap.size,0,none⟩) 1 1) A.keys [t] (by rfl) (by rfl) hO3 (Sl.one (F:=λ_=>False) (x:=t) (enc:=encS) (sz:=1) hL (λf=>f)) (by simp only[List.length_singleton];omega) (by first|(simp;done)|(simp;omega)|omega|fail) (λf=>f) ?_;rw[List.length_singleton];intro k2 d2 w4 hO4 hm4 hat4;have xm4:Ext wc w4:=Mods.past (by first|exact xm3|exact (xm3).alloc _|exact ((xm3).alloc _).alloc _|fail) (hm4.mono (λk hk=>(hO3.lt k hk).1));have n2:=cellE xm4 N2.out;have p2:=cellE xm4 P2.out;have p4:=cellE xm4 P4.out;have m2a:=λo=>cell_alloc n2 o;have q2a:=λo=>cell_alloc p2 o;have q4a:=λo=>cell_alloc p4 o;have hz4:=xm4.size;have xf4:=(HBX.out.ext xm4).frozen;have x2:=(HBX.out.ext xm4).cell (o:=2) (v:=.slice none 0 0) rfl;have x2m:=λo=>cell_alloc x2 o)|(refine step_app2 Tryz.elS encS_ok (by rfl) _ _ (by rfl) wc.heap.size (.slice k1 A.keys.length d1) (.slice (some ⟨w3.heap.size,0,none⟩) 1 1) A.keys [t] (by rfl) (by rfl) (hO3.ext ((Mods.refl _ w3).alloc _)) (Sl.one (F:=λ_=>False) (x:=t) (enc:=encS) (sz:=1) (show Blk _ w3.heap.size #[.string t] 9 from heap_at (by simp)) (λf=>f)) (by simp only[List.length_singleton];omega) (by first|(simp;done)|(simp;omega)|omega|fail) (λf=>f) ?_;rw[List.length_singleton];intro k2 d2 w4 hO4 hm4 hat4;have xm4:Ext wc w4:=Mods.past (by first|exact xm3|exact (xm3).alloc _|exact ((xm3).alloc _).alloc _|fail) (hm4.mono (λk hk=>(hO3.lt k hk).1));have n2:=cellE xm4 N2.out;have p2:=cellE xm4 P2.out;have p4:=cellE xm4 P4.out;have m2a:=λo=>cell_alloc n2 o;have q2a:=λo=>cell_alloc p2 o;have q4a:=λo=>cell_alloc p4 o;have hz4:=xm4.size;have xf4:=(HBX.out.ext xm4).frozen;have x2:=(HBX.out.ext xm4).cell (o:=2) (v:=.slice none 0 0) rfl;have x2m:=λo=>cell_alloc x2 o)|(refine step_app2 Tryz.elS encS_ok (by rfl) _ _ (by rfl) wc.heap.size (.slice k2 (A.keys.length+1) d2) (.slice la B.keys.length lc) (A.keys++[t]) B.keys (by rfl) (by rfl) hO4 (HKB2.out.ext xm4) (by simp;omega) (by omega) (λf=>f) ?_;rw[List.length_append,List.length_singleton];intro k3 d3 w5 hO5 hm5 hat5;have xm5:Ext wc w5:=Mods.past xm4 (hm5.mono (λk hk=>(hO4.lt k hk).1));have n2:=cellE xm5 N2.out;have p2:=cellE xm5 P2.out;have p4:=cellE xm5 P4.out;have m2a:=λo=>cell_alloc n2 o;have q2a:=λo=>cell_alloc p2 o;have q4a:=λo=>cell_alloc p4 o;have hz5:=xm5.size;have xf5:=(HBX.out.ext xm5).frozen;have x2:=(HBX.out.ext xm5).cell (o:=2) (v:=.slice none 0 0) rfl;have x2m:=λo=>cell_alloc x2 o)|fail)
  refine hK.out _ _ (by first|(with_reducible exact⟨n2,p2,p4⟩)|(with_reducible exact⟨c2a _,d2a _,d4a _⟩)|(with_reducible exact⟨m2a _,q2a _,q4a _⟩)|go_keep) (λhHeld=>?_)
  clear hK
  try go_frame
  refine wpAnyH_take (i:=14) (oi:=⟨some 43,_,_,_,_,_⟩) (v:=?_) rfl (by kernel_rfl) (by kernel_rfl) (by kernel_rfl) (λ_ _ _ h=>h) (Or.inl ⟨by rfl,?_⟩) (by assumption) ?_
  rotate_left
  ·intro w hSw;(try dsimp only at hSw);go_simp;(try (with_reducible rfl))
  rotate_left
  try go_frame
  refine wpAnyH_ready (rs:=[15]) (by kernel_rfl) (by simp) ?_
  refine AllReadyH.cons (o:=⟨none,_,_,_,_,_⟩) rfl (λK hK=>?_) AllReadyH.nil
  go_simp
  refine hK.out _ _ (by first|(with_reducible exact⟨n2,p2,p4⟩)|(with_reducible exact⟨c2a _,d2a _,d4a _⟩)|(with_reducible exact⟨m2a _,q2a _,q4a _⟩)|go_keep) (λhHeld=>?_)
  clear hK
  try go_frame
  refine wpAnyH_done (by kernel_rfl) ?_ _
  obtain⟨V,hV⟩:∃V,V=Value.slice k3 (A.keys.length+1+B.keys.length) d3:=⟨_,rfl⟩
  obtain⟨w6,hw6⟩:∃w6,w6=w5.setCell ⟨X,2,none⟩ V:=⟨_,rfl⟩
  have hB5:=HBX.out.ext xm5
  have hNX:Blk w6 X #[.bool false,.slice none 0 0,V,.slice a3 (A.kids++B.kids).length c3] 118:=by rw[hw6];simpa using hB5.set 2 V
  have hRX:Blk w6 (w.heap.size+1+1) nodeZc 118:=by rw[hw6];exact (HR0.out.ext (HXW.out.trans xm5)).set_other (p:=⟨X,2,none⟩) (by have:=HZ.out;simp;omega) _
  have mX:Mods (λk=>k=X) w5 w6:=by rw[hw6];exact Mods.setCell (F:=λk=>k=X) (p:=⟨X,2,none⟩) (Mods.refl _ w5) (.inr rfl) V
  have hE6:Ext w0 w6:=by rw[hw6];exact (HXW.out.trans xm5).setCell (p:=⟨X,2,none⟩) (.inl hX) _
  have hOK:=(hO5.mods mX (λg hg=>hO5.notB hB5 (by decide) g hg)).rebase (show w0.heap.size≤wc.heap.size from HXW.out.size)
  have hOI:=(HOX.out.ext xm5).mods mX (λg hg=>(HOX.out.ext xm5).notB hB5 (by decide) g hg)
  have HF:=Lib.hid (hRX.set4 (.bool false) (.slice none 0 0) V (.slice a3 (A.kids++B.kids).length c3))
  have HE:=Lib.hid (Mods.set4 (HM0.out.trans hE6) (R:=w.heap.size+1+1) (.inl (by omega)) (.bool false) (.slice none 0 0) V (.slice a3 (A.kids++B.kids).length c3))
  have HOK:=Lib.hid ((hOK.row4 (Mods.refl _ w6) (R:=w.heap.size+1+1) (by have:=HZ.out;omega) (.bool false) (.slice none 0 0) V (.slice a3 (A.kids++B.kids).length c3)).rebase (show w.heap.size≤w0.heap.size by have:=HZ.out;omega))
  have HOI:=Lib.hid ((hOI.row4 (Mods.refl _ w6) (R:=w.heap.size+1+1) (by have:=HZ.out;omega) (.bool false) (.slice none 0 0) V (.slice a3 (A.kids++B.kids).length c3)).rebase (show w.heap.size≤w0.heap.size by have:=HZ.out;omega))
  have x0:=hNX.cell (o:=0) rfl
  have x1:=hNX.cell (o:=1) rfl
  have x2:=hNX.cell (o:=2) rfl
  have x3:=hNX.cell (o:=3) rfl
  have r0:=hRX.cell (o:=0) (v:=.bool false) rfl
  have r1:=hRX.cell (o:=1) (v:=.slice none 0 0) rfl
  have r2:=hRX.cell (o:=2) (v:=.slice none 0 0) rfl
  have r3:=hRX.cell (o:=3) (v:=.slice none 0 0) rfl
  have rf:=hRX.frozen
  rw[← hV,← hw6]
  have HV:=Lib.hid hV
  clear hO3 hO4 hO5 hm3 hm4 hm5 hat3 hat4 hat5 xm3 xm4 xm5 hw6 hB5 hNX hRX mX hE6 hOK hOI hV
  rw[HV.out] at x2
  rw[HV.out,List.length_append] at HF HE HOK HOI
  rw[HV.out]
  go_wp2_with fail
  refine bodyPost_ret (results_cell_row rfl _ _ (w.heap.size+1+1) 118 #[.bool false,.slice none 0 0,.slice k3 (A.keys.length+1+B.keys.length) d3,.slice a3 (A.kids.length+B.kids.length) c3] (0,0) _ rfl HF.out Tryz.underlying118 rfl Tryz.nodeSz) rfl ?_
  exact⟨_,rfl,⟨_,_,_,rfl,Own.nil _ _ _ _ _ _,HOK.out,HOI.out⟩,HE.out⟩
end
end Go.Proofs.YtchklfmggpconaaGreatDoor
