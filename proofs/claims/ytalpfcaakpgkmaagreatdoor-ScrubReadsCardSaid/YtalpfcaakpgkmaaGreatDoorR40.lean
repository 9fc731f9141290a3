import Derived.Test.YtalpfcaakpgkmaaGreatDoorR39
import Derived.Test.YtalpfcaakpgkmaaGreatDoorR30
import Derived.BigQuiet
import Derived.Deep.RegionHeld3
import Derived.IntWalk
import Derived.Deep.RegionLawGrows
import Derived.Deep.CutBlock
import Derived.Deep.DeepCutAuto
namespace Go.Proofs.YtalpfcaakpgkmaaGreatDoor
open Lib renaming hid->oh
set_option maxHeartbeats 4000000
set_option maxRecDepth 100000
section
open Go.RowKit
theorem zIp{f g:Nat->Int}:∀n,(∀i,i<n->f i=g i)->zDS f n=zDS g n
 | 0,_=>rfl
 | n+1,h=>by rw[zDS,zDS,zIp n (λi hi=>h i (by omega)),h n (by omega)]
theorem zJ9:∀n,zDS (λ_=>1) n=n
 | 0=>rfl
 | n+1=>by rw[zDS,zJ9 n];omega
def zJL(pgs pgs0:List Nat)(i:Nat):Nat:=if i<6 then 1 else if i∈pgs then (if i∈pgs0 then 1 else 2) else if i∈pgs0 then 3 else 0
structure zCC(z n g:Nat)(G:GA)(l:List Nat)(root d:Nat)(ps:List zL)(pgs pgs0:List Nat):Prop where
 ctx:zCB G l
 td:TD G g root d ps pgs
 blk:G.blocks=n
 size:G.size=z
 len:l.length=n
 n16:16<=n
 lay:∀i,i<n->l[i]? = some (zJL pgs pgs0 i)
 hi:∀i∈pgs,6<=i
 hi0:∀i∈pgs0,6<=i/\i<n
 nd0:pgs0.Nodup
 val:∀x∈ps,x.2.size<=400
section
variable {z n g:Nat}{G:GA}{l:List Nat}{root d:Nat}{ps:List zL}{pgs pgs0:List Nat}
theorem zCC.low(h:zCC z n g G l root d ps pgs pgs0):∀i,i<6->l[i]? = some 1:=λi hi=>by
 rw[h.lay i (by have:=h.n16;omega)];unfold zJL;rw[if_pos hi]
theorem zCC.use(h:zCC z n g G l root d ps pgs pgs0):zAk l (λk=>k∈pgs):=λi hi=>by
 have hb:=h.td.lt i hi;have h6:=h.hi i hi;have:=h.lay i (by have:=h.blk;omega);unfold zJL at this;rw[if_neg (by omega),if_pos hi] at this;by_cases h0:i∈pgs0
 .rw[if_pos h0] at this;exact .inl this
 .rw[if_neg h0] at this;exact .inr this
theorem zCC.phi(h:zCC z n g G l root d ps pgs pgs0):zA4 l+(pgs.length:Int)+(pgs0.length:Int)+12=(n:Int):=by
 have e:=zHl l l.length (uD _);rw[wZ,h.len] at e;have hp:∀i∈pgs,i<n:=λi hi=>by have:=h.td.lt i hi;rw[h.blk] at this;exact this.2
 have h6:zDS (λi=>if i∈List.range 6 then 1 else 0) n=((List.range 6).length:Nat):=zFI _ n List.nodup_range (λi hi=>by have:=List.mem_range.1 hi;have:=h.n16;omega);have e1:=zFI pgs n h.td.nodup hp;have e2:=zFI pgs0 n h.nd0 (λi hi=>(h.hi0 i hi).2);have hs:zDS (λi=>wtL l[i]? + (if i∈pgs then 1 else 0)+(if i∈pgs0 then 1 else 0)+((if i∈List.range 6 then 1 else 0)+(if i∈List.range 6 then 1 else 0))) n=zDS (λ_=>1) n:=zIp n (λi hi=>by
  rw[h.lay i hi];unfold wtL zJL;by_cases i6:i<6
  .have a1:i ∉ pgs:=λhm=>by have:=h.hi i hm;omega
   have a2:i ∉ pgs0:=λhm=>by have:=(h.hi0 i hm).1;omega
   simp[i6,a1,a2]
  .by_cases a1:i∈pgs
   .by_cases a2:i∈pgs0 <;> simp[i6,a1,a2]
   .by_cases a2:i∈pgs0 <;> simp[i6,a1,a2])
 rw[zCk,zCk,zCk,zCk,zJ9,<- e,e1,e2,h6,List.length_range] at hs;omega
theorem zCC.put(h:zCC z n g G l root d ps pgs pgs0){key v:ByteArray}(Bh:jO key=true)(hv:v.size<=400) :
  (zHX G l g root key v=.inr 3/\zA4 l<=(ndV G.size v:Nat)+d+1) \/
  ∃G' l' root' d' pgs',zHX G l g root key v=.inl (G',l',(root',(qI key ps).isNone))/\zCC z n g G' l' root' d' (yV key v true ps) pgs' pgs0/\G'.cost<=G.cost+61/\2<=root' /\
   ((2<=ps.length->∀i∈pgs,zCv (G.view i))->2<=(yV key v true ps).length->∀i∈pgs',zCv (G'.view i))/\Upd G l (λk=>k∈pgs) G' l' (λk=>k∈pgs'):=by
 rcases zRo h.ctx h.td h.use Bh (show v.size<=4096 by omega) with a|⟨G',l',root',d',pgs',a1,a2,a3,a4,a5,a6,a7⟩
 .exact .inl a
 .have Ch:∀i∈pgs',i<n:=λi hi=>by have:=(a3.lt i hi).2;rw[a2.bl,h.blk] at this;exact this
  have Aj:∀i,i<n->l[i]? = some 0->6<=i/\i ∉ pgs/\i ∉ pgs0:=λi hi h0=>by
   have hl:=h.lay i hi;rw[h0] at hl;unfold zJL at hl;by_cases h6:i<6
   .rw[if_pos h6] at hl;simp at hl
   .rw[if_neg h6] at hl;by_cases h1:i∈pgs
    .rw[if_pos h1] at hl;split at hl <;> simp at hl
    .rw[if_neg h1] at hl;by_cases h2:i∈pgs0
     .rw[if_pos h2] at hl;simp at hl
     .exact⟨by omega,h1,h2⟩
  have h6':∀i∈pgs',6<=i:=λi hi=>by
   rcases a2.inn i hi with ⟨b1,_⟩|⟨b1,_⟩
   .exact h.hi i b1
   .exact (Aj i (Ch i hi) b1).1
  refine .inr ⟨G',l',root',d',pgs',a1,⟨a5,a3,by rw[a2.bl,h.blk],by rw[a2.sz,h.size],by rw[a2.len,h.len],h.n16,λi hi=>?_,h6',h.hi0,h.nd0,λx hx=>?_⟩,zPV h.ctx h.td h.use Bh (by omega) a1,a6,λhF h2=>?_,a2⟩
  .have hl:=h.lay i hi;unfold zJL at hl ⊢;by_cases i6:i<6
   .rw[if_pos i6] at hl ⊢;rw[(a2.rest i (λhm=>by have:=h.hi i hm;omega) (λhm=>by have:=h6' i hm;omega)).1];exact hl
   .rw[if_neg i6] at hl ⊢;by_cases h2:i∈pgs'
    .rw[if_pos h2];rcases a2.inn i h2 with ⟨b1,b2⟩|⟨b1,b2⟩
     .rw[b2,hl,if_pos b1]
     .rw[if_neg (Aj i hi b1).2.2];exact b2
    .rw[if_neg h2];by_cases h1:i∈pgs
     .rw[if_pos h1] at hl;by_cases h0:i∈pgs0
      .rw[if_pos h0] at hl ⊢;rcases a2.gone i h1 h2 with ⟨b1,_⟩|⟨_,b2⟩
       .rw[hl] at b1;cases b1
       .exact b2
      .rw[if_neg h0] at hl ⊢;rcases a2.gone i h1 h2 with ⟨_,b2⟩|⟨b1,_⟩
       .exact b2
       .rw[hl] at b1;cases b1
     .rw[(a2.rest i h1 h2).1,hl,if_neg h1]
  .rcases zGX hx with rfl|hx
   .exact hv
   .exact h.val x hx
  .refine zQ4 h.ctx h.td (λi i6 hu=>?_) hF Bh (by omega) rfl a1 (λi hi=>⟨h6' i hi,a4 i hi⟩) h2;have hi:i<n:=by
    rw[<- h.len];rcases hu with e|e <;> exact (uA.1 e).1
   have hl:=h.lay i hi;unfold zJL at hl;rw[if_neg (by omega)] at hl;by_cases h1:i∈pgs
   .exact h1
   .rw[if_neg h1] at hl;unfold InU at hu;rw[hl] at hu;split at hu <;> simp at hu
theorem zCC.commit(h:zCC z n g G l root d ps pgs pgs0):zCC z n (g+1) (zE2 G) (zAg l) root d ps pgs pgs:=by
 have An:∀i,i<n->(zAg l)[i]? = some (zJL pgs pgs i):=λi hi=>by
  unfold zAg zBs;rw[tQ,tQ,h.lay i hi];simp only[Option.map_some];unfold zJL;by_cases i6:i<6
  .simp[i6]
  .by_cases h1:i∈pgs
   .by_cases h0:i∈pgs0 <;> simp[i6,h1,h0]
   .by_cases h0:i∈pgs0 <;> simp[i6,h1,h0]
 have A4:(zAg l).length=n:=by unfold zAg zBs;simp[h.len]
 have Bi:=h.n16;have hb:=h.ctx.b256;refine⟨⟨⟨?_,?_⟩,?_,hb,h.ctx.s256,h.ctx.s1024⟩,h.td.mono (by omega) rfl rfl (λ_ _=>rfl),h.blk,h.size,A4,Bi,An,h.hi,λi hi=>⟨h.hi i hi,by have:=(h.td.lt i hi).2;rw[h.blk] at this;exact this⟩,h.td.nodup,h.val⟩
 .rw[An 0 (by omega)];rfl
 .rw[An 1 (by omega)];rfl
 .rw[A4];exact h.blk.symm
end
theorem zCC.new[zQ]{z n:Nat}(Bi:16<=n)(Ci:n<=256){D:zJ}(hb:D.blocks=n)(hs:D.size=z)(hz:256<=z/\z<=1024)(g:Nat):zCC z n g (zO1 (zAI (zEt D))) (zAj n [0,1,2,3,4,5]) 0 0 [] [] []:=by
 refine⟨⟨⟨by rw[zA2 _ (by omega),if_pos (by simp)],by rw[zA2 _ (by omega),if_pos (by simp)]⟩,?_,?_,?_,?_⟩,TD.none _ _,hb,hs,zBo _ _,Bi,λi hi=>?_,λi hi=>by simp at hi,λi hi=>by simp at hi,rM,λx hx=>by simp at hx⟩
 .rw[zBo];exact hb.symm
 .show D.blocks<=256;omega
 .show 256<=D.size;omega
 .show D.size<=1024;omega
 .rw[zA2 _ hi];unfold zJL;by_cases h6:i<6
  .rw[if_pos h6,if_pos (by simp;omega)]
  .rw[if_neg h6,if_neg (by simp;omega),if_neg (by simp),if_neg (by simp)]
end
section
open Go.RowKit
attribute [local go_sem ↓] Go.wp_at_zero Go.wp_at_succ
section
variable {P P' P1 P2 F F' F1 F2 Q:NP}{ad:Nat->Addr}{w w' wr w2:World}{c s:Nat}{G:GA}{l:List Nat}{v v':Value}{gen:Nat}
theorem zQ5[zQ](hL:yH F ad w)(hP:∀k,P k->F k)(h:jK F w P c s G l)(gen:Nat)(root:Int)(key:ByteArray)(hk:zD9 G key 16 root) :
  Calls Tryz.prog 104 #[pgV c s gen,.int .i64 root,.string key] w (zCH F P ad w c s G l (λF' w' e=>zRj F' ad w' (jM G key 16 [] root) e)):=by
 have m0:zF w ((w.alloc (gP c s gen)).alloc gB):=((zss w).alloc _).alloc _;have Cj:Hid (FiS F P ad w c s gen G l (λk=>F k\/k=w.heap.size+1) P ((w.alloc (gP c s gen)).alloc gB) (.slice none 0 0) []):=oh
  ⟨h.plusNew hP m0 (λk hk=>by omega),zX.new hL hP m0 (λk hk=>by omega) (λk hk=>by simp;omega),zDp.nil _ _ _ _ _ _ _,(zG.new w _ _).alloc _,λhp=>by have:=h.bd _ hp;omega,zS (by simp),λhp=>by have:=h.bd _ hp;omega,.inr rfl⟩
 have HK:=oh hk;have Ck:=oh hL.lt;clear hL hP h hk m0;have Ba:=λ(F1 P1:NP) (wr:World) (h1:yH F1 ad wr) (h2:∀k,P1 k->F1 k) (h3:jK F1 wr P1 c s G l) (id:Int) (h4:G.knows id)=>zLy h1 h2 h3 gen id h4
 unfold pgV at Ba ⊢;have Ba:=oh Ba
 go_enter Tryz.func104, Tryz.ntmps104
 go_wp2_with fail;go_loopg [9,10] 16 (λm v9 v10 wr=>∃(F1 P1:NP) (st:List (Int × Nat)) (id:Int),st.length+m=16/\v10=.int .i64 id/\Hid (FiS F P ad w c s gen G l F1 P1 wr v9 st/\jM G key m st id=jM G key 16 [] root/\zD9 G key m id))
 case atStart=>exact⟨_,P,[],root,rfl,rfl,oh ⟨Cj.out,rfl,HK.out⟩⟩
 case round =>
  obtain⟨F1,P1,st,id,hm,rfl,HW⟩:=hrel;obtain⟨va,vc,rfl,Cl,Cm⟩:=HW.out.1.row.1.form;unfold maxLen at Cm;have De:=HW.out.1.box.lt;have Df:=HW.out.1.res.lt;by_cases Dg:0<gk
  .obtain⟨m,rfl⟩:∃m,gk=m+1:=⟨gk-1,by omega⟩;have Cn:=HW.out.1.box.d 0 (.pointer (some ⟨c,0,none⟩)) rfl;have Co:=HW.out.1.box.d 1 (.pointer (some ⟨s,0,none⟩)) rfl;have Cp:=HW.out.1.box.d 2 (.int .u64 (gen:Int)) rfl;have A4:(st.length:Int)<16:=by omega
   go_wp2_with fail;refine (Ba.out F1 P1 _ HW.out.1.nx.env HW.out.1.nx.sub HW.out.1.pg id HW.out.2.2.1).mono ?_;rintro e w2 ⟨P2,F2,Af,Ab,A0⟩;have A2:=oh (HW.out.1.nxt Ab Af);have Ay:=oh (Ab.subP HW.out.1.nx.sub);clear Af Ab Cn Co Cp;generalize B1:G.load id=r at A0
   rcases r with n|⟨el,ek⟩
   .obtain⟨ve,vk,vi,rfl,Ak,Al,B2⟩:=A0;have Bu:=GA.load_right B1;obtain⟨ea,ec,rfl,_,_,_,_⟩:=_root_.id Ak;obtain⟨ka,kc,rfl,_,_,_,_⟩:=_root_.id Al;obtain⟨ia,ic,rfl,_,Cq,_,Bv⟩:=_root_.id B2;unfold maxLen at Cq;obtain⟨at_,isb,A5⟩:∃a b,zAN n key=(a,b):=⟨_,_,rfl⟩;have Ao:=oh B1;have Ap:=oh A5;have Cr:=oh Bu;have Bw:=oh Bv;have m2:zF w2 (w2.alloc (.cells #[.bool n.leaf,.slice ea n.entries.length ec,.slice ka n.keys.length kc,.slice ia n.kids.length ic] 200)):=(zss w2).alloc _;have Az:=oh (zC4 n key _ _ (.slice ia n.kids.length ic) (Ak.ext m2) (Al.ext m2));have Bj:=oh (zG.new w2 #[.bool n.leaf,.slice ea n.entries.length ec,.slice ka n.keys.length kc,.slice ia n.kids.length ic] 200);have Cs:=oh Ak;have Ct:=oh Al;have Cu:=oh B2;have HM2':=oh m2;clear B1 A5 Bu Bv Ak Al B2 m2;go_wp2_with fail;refine (Az.out).mono ?_;rintro e w3 ⟨rfl,A6⟩;rw[Ap.out];have A7:=oh (A2.out.ext (HM2'.out.trans A6));have Am:=oh (Bj.out.ext A6);have A3:=oh (HM2'.out.trans A6);have Dh:=A7.out.box.lt;clear A6;cases Aq:n.leaf
    .have B3:=oh Aq;have B4:at_<n.kids.length:=by have:=zQk Cr.out Aq key;rw[Ap.out] at this;exact this
     have Ar:=oh B4;rw[Aq] at Am;clear Aq;obtain⟨kb,koff,rfl,_,_,_⟩:=Sl.at Bw.out (zA.refl F2 w2) (λk _ h=>h) at_ B4
     obtain⟨kid,B5⟩:∃kid,kid=n.kids[at_]:=⟨_,rfl⟩;have As:=oh B5;clear B5;go_wp2_with (at_builtin;refine yX Tryz.elSt zIV rfl _ _ rfl w.heap.size _ _ st [(id,at_)] rfl rfl (A7.out.row.1.ext (zr.alloc _)) (Sl.one (F:=λ_=>False) (zS (by simp)) (λf=>f)) (by simp only[uG,uL];omega) (by simp;omega) (λf=>f) ?_;simp only[uG,uL,wG];intro a4 c4 w4 At Ac Ad;have Ae:=(Am.out.alloc (.cells #[.int .i64 id,.int .i64 (at_:Int)] 289)).mods Ac (λe=>yC.notB A7.out.row.1 Am.out (by decide) _ e rfl);have x0:=Ae.d 0 (.bool false) rfl;have x3:=Ae.d 3 (.slice (some ⟨kb,koff,none⟩) n.kids.length ic) rfl;have Bx:zA F2 w2 w4:=((A3.out.alloc _).ext).trans (Ac.mono (λk hk=>(A7.out.row.2 k hk).1));have d0:w4.cell? ⟨kb,koff+at_,none⟩=some (.int .i64 kid):=zQj Bw.out Bx Ar.out As.out);have A8:=oh ((A7.out.ext ((zss w3).alloc (.cells #[.int .i64 id,.int .i64 (at_:Int)] 289))).app At Ac Ad);have Cv:=oh Ae;have By:Hid (zA F2 w2 w4):=oh (((A3.out.alloc _).ext).trans (Ac.mono (λk hk=>(A7.out.row.2 k hk).1)));have Cw:=oh At;clear Ae At Ac Ad Bx d0 x0 x3;have A9:Hid (jM G key m (st++[(id,at_)]) kid=jM G key 16 [] root):=oh (by
      have h1:=HW.out.2.1;rw[jM,Ao.out] at h1;simp only[B3.out,wI,tX,Ap.out] at h1;rw[zN9 (uB Ar.out)] at h1;rw[As.out];exact h1)
     have Bz:Hid (zD9 G key m kid):=oh (by
      have h1:=HW.out.2.2.2 n Ao.out B3.out;rw[Ap.out] at h1;simp only[zN9 (uB Ar.out)] at h1;rw[As.out];exact h1)
     go_wp2_with fail;go_roundg m
     case measure=>omega
     case rel=>exact⟨_,P2,st++[(id,at_)],kid,by rw[uC,uG,uL];omega,rfl,oh ⟨A8.out,A9.out,Bz.out⟩⟩
    .have B3:=oh Aq;rw[Aq] at Am;clear Aq;go_wp2_with (at_builtin;refine yX Tryz.elSt zIV rfl _ _ rfl w.heap.size _ _ st [(id,at_)] rfl rfl (A7.out.row.1.ext (zr.alloc _)) (Sl.one (F:=λ_=>False) (zS (by simp)) (λf=>f)) (by simp only[uG,uL];omega) (by simp;omega) (λf=>f) ?_;simp only[uG,uL,wG];intro a4 c4 w4 At Ac Ad;have Ae:=(Am.out.alloc (.cells #[.int .i64 id,.int .i64 (at_:Int)] 289)).mods Ac (λe=>yC.notB A7.out.row.1 Am.out (by decide) _ e rfl);have x0:=Ae.d 0 (.bool true) rfl;have x1:=Ae.d 1 (.slice ea n.entries.length ec) rfl;have x2:=Ae.d 2 (.slice ka n.keys.length kc) rfl;have x3:=Ae.d 3 (.slice ia n.kids.length ic) rfl;have hR:=(A7.out.res.alloc (.cells #[.int .i64 id,.int .i64 (at_:Int)] 289)).mods Ac (λe=>yC.notB A7.out.row.1 A7.out.res (by decide) _ e rfl);have r0:=hR.d 0 (.bool false) rfl;have r1:=hR.d 1 (.slice none 0 0) rfl;have r2:=hR.d 2 (.slice none 0 0) rfl;have r3:=hR.d 3 (.slice none 0 0) rfl;have rf:=hR.frozen);have A8:=oh ((A7.out.ext ((zss w3).alloc (.cells #[.int .i64 id,.int .i64 (at_:Int)] 289))).app At Ac Ad);have Cv:=oh Ae;have By:Hid (zA F2 w2 w4):=oh (((A3.out.alloc _).ext).trans (Ac.mono (λk hk=>(A7.out.row.2 k hk).1)));have Cw:=oh At;have C0:w2.heap.size≠w.heap.size+1:=by have:=A2.out.res.lt;omega
     have Bk:w.heap.size+1≠w2.heap.size:=λe=>C0 e.symm
     clear Ae At Ac Ad hR;go_wp2_with fail;go_region_held3 (λw'=>w'.cell? ⟨w2.heap.size,0,none⟩=some (.bool true)/\w'.cell? ⟨w2.heap.size,1,none⟩=some (.slice ea n.entries.length ec)/\w'.cell? ⟨w2.heap.size,2,none⟩=some (.slice ka n.keys.length kc)/\w'.cell? ⟨w2.heap.size,3,none⟩=some (.slice ia n.kids.length ic))
      (first|(with_reducible exact⟨x0,x1,x2,x3⟩)|go_keep)
      (fail)
     have A9:Hid (jM G key 16 [] root=.inl (st++[(id,at_)],n)):=oh (by
      rw[<- HW.out.2.1,jM,Ao.out];simp only[B3.out,tU,Ap.out])
     have B6:=oh ((A8.out.res.set4 (.bool true) (.slice ea n.entries.length ec) (.slice ka n.keys.length kc) (.slice ia n.kids.length ic)).drew);have Aa:=oh ((zA.set4 (F:=λk=>k=w.heap.size+1) (zss w4) (R:=w.heap.size+1) (.inr rfl) (.bool true) (.slice ea n.entries.length ec) (.slice ka n.keys.length kc) (.slice ia n.kids.length ic)).drew);clear x0 x1 x2 x3 r0 r1 r2 r3 rf C0 Bk;go_wp2_with fail;refine bodyPost_ret (zBf rfl _ _ (w.heap.size+1) 200 #[.bool true,.slice ea n.entries.length ec,.slice ka n.keys.length kc,.slice ia n.kids.length ic] _ rfl B6.out Tryz.underlying200 rfl Tryz.nodeSize) rfl ?_;have B0:=By.out.trans (Aa.out.mono (G:=F2) (λk hk=>hk ▸ A2.out.resF));have Cx:=A8.out.nx.resD Aa.out (R:=w.heap.size+1) (by omega) A8.out.resF;have hq:∀k,(F k\/P2 k)->F2 k:=λk hk=>hk.elim (A2.out.nx.grow k) (A2.out.nx.sub k)
     refine⟨P2,λk=>F k\/P2 k,(A8.out.pg.res Aa.out A8.out.resP A8.out.resF).anti (λk hk=>.inl (hq k hk)),Cx.least,?_⟩;rw[A9.out];refine⟨_,_,_,_,by rw[B3.out];rfl,?_,(Cs.out.mods B0).anti' hq,(Ct.out.mods B0).anti' hq,(Cu.out.mods B0).anti' hq⟩;have ho:=A8.out.row.1.mods Aa.out (λg hg e=>yC.notB A8.out.row.1 A8.out.res (by decide) g hg e);have hs:Sl (λk=>F k\/P2 k) _ 2 zJt _ (st++[(id,at_)]):=yC.sl (F:=λk=>F k\/P2 k) ⟨ho.1,λg hg hf=>hf.elim (λhf=>by have h1:=(A8.out.row.1.lt g hg).1;have h2:=Ck.out g hf;omega) (λhp=>(A8.out.row.2 g hg).2 hp)⟩ zIV.len (by simp;omega);simpa using hs
   .obtain⟨f,rfl,hE⟩:=A0;have HE:=oh hE;have A9:Hid (jM G key 16 [] root=.inr (el,ek)):=oh (by rw[<- HW.out.2.1,jM,B1]);clear B1 hE;have hR:=A2.out.res.alloc gB;have r0:=hR.d 0 (.bool false) rfl;have r1:=hR.d 1 (.slice none 0 0) rfl;have r2:=hR.d 2 (.slice none 0 0) rfl;have r3:=hR.d 3 (.slice none 0 0) rfl;have rf:=hR.frozen;have B6:=oh (hR.set4 (.bool false) (.slice none 0 0) (.slice none 0 0) (.slice none 0 0));have Aa:=oh (zA.set4 (F:=λk=>k=w.heap.size+1) (zA.refl _ (w2.alloc gB)) (R:=w.heap.size+1) (.inr rfl) (.bool false) (.slice none 0 0) (.slice none 0 0) (.slice none 0 0));clear hR;go_wp2_with fail;refine bodyPost_ret (zBf rfl _ _ (w.heap.size+1) 200 gB _ rfl B6.out Tryz.underlying200 rfl Tryz.nodeSize) rfl ?_;refine⟨P2,F2,((A2.out.pg.at ((zss w2).alloc _))).res Aa.out A2.out.resP A2.out.resF,(A2.out.nx.trans (zX.ext A2.out.nx.env A2.out.nx.sub ((zss w2).alloc _))).resD Aa.out (by omega) A2.out.resF,?_⟩;rw[A9.out];exact⟨f,rfl,(HE.out.mods ((zss w2).alloc _)).mods (Aa.out.mono (λk hk=>hk ▸ A2.out.resF))⟩
  .obtain rfl:gk=0:=by omega
   have A4:st.length=16:=by omega
   have g5:=HW.out.1.nx.env.c5;have A9:Hid (jM G key 16 [] root=.inr ([zBz id],5)):=oh (by rw[<- HW.out.2.1];rfl);rw[A4] at HW Cl ⊢;have Cy:=oh A4;clear A4;go_wp2_with fail;refine (zAF HW.out.1.nx.env _ id _ [] 5 (.sent 5 (by decide) (by decide))).mono ?_;rintro e w2 ⟨f,rfl,hE,C1⟩;have HE:=oh hE;have A2:=oh (HW.out.1.ext C1);have hR:=A2.out.res;have r0:=hR.d 0 (.bool false) rfl;have r1:=hR.d 1 (.slice none 0 0) rfl;have r2:=hR.d 2 (.slice none 0 0) rfl;have r3:=hR.d 3 (.slice none 0 0) rfl;have rf:=hR.frozen;have B6:=oh (hR.set4 (.bool false) (.slice none 0 0) (.slice none 0 0) (.slice none 0 0));have Aa:=oh (zA.set4 (F:=λk=>k=w.heap.size+1) (zss w2) (R:=w.heap.size+1) (.inr rfl) (.bool false) (.slice none 0 0) (.slice none 0 0) (.slice none 0 0));clear hR hE C1;go_wp2_with fail;refine bodyPost_ret (zBf rfl _ _ (w.heap.size+1) 200 gB _ rfl B6.out Tryz.underlying200 rfl Tryz.nodeSize) rfl ?_;refine⟨P1,F1,A2.out.pg.res Aa.out A2.out.resP A2.out.resF,A2.out.nx.resD Aa.out (by omega) A2.out.resF,?_⟩;rw[A9.out];exact⟨f,rfl,HE.out.mods (Aa.out.mono (λk hk=>hk ▸ A2.out.resF))⟩
end
def zNZ(F:NP)(ad:Nat->Addr)(w':World)(r:ByteArray ⊕ Err)(e:Ending):Prop :=
 match r with
 | .inl v=>e=.returned (.tuple #[.string v,.nilIface])
 | .inr (l,k)=>∃f,e=.returned (.tuple #[.string ⟨#[]⟩,zP f])/\vN F ad w' (zP f) l k
def zKy(F:NP)(ad:Nat->Addr)(w':World)(r:Option ByteArray ⊕ Err)(e:Ending):Prop :=
 match r with
 | .inl (some v)=>e=.returned (.tuple #[.string v,.bool true,.nilIface])
 | .inl none=>e=.returned (.tuple #[.string ⟨#[]⟩,.bool false,.nilIface])
 | .inr (l,k)=>∃f,e=.returned (.tuple #[.string ⟨#[]⟩,.bool false,zP f])/\vN F ad w' (zP f) l k
section
variable {P P' P1 P2 F F' F1 F2 Q:NP}{ad:Nat->Addr}{w w' wr w2:World}{c s:Nat}{G:GA}{l:List Nat}{v v':Value}{gen:Nat}
theorem zPY[zQ](hL:yH F ad w)(hP:∀k,P k->F k)(h:jK F w P c s G l)(gen:Nat)(e:zM)(hid : -9223372036854775808<=e.chain/\e.chain<=9223372036854775807)(Bb:zCU G e) :
  Calls Tryz.prog 106 #[pgV c s gen,.agg #[.string e.key,.string e.value,.int .i64 e.chain,.int .i64 e.size]] w (zCH F P ad w c s G l (λF' w' ed=>zNZ F' ad w' (jQ G e) ed)):=by
 obtain⟨key,value,chain,size⟩:=e;simp only at hid;have m0:zF w ((w.alloc (gP c s gen)).alloc (.cells #[.string key,.string value,.int .i64 chain,.int .i64 size] 208)):=((zss w).alloc _).alloc _;have Ag:=oh (zX.ext hL hP m0);have Bc:=oh (h.at m0);have Bz:=oh Bb;by_cases hz:chain=0
 .have Cz:(chain == 0)=true:=rE.2 hz;have HV:Hid (jQ G ⟨key,value,chain,size⟩=.inl value):=oh (by unfold jQ;rw[if_pos hz]);clear hL hP h m0 Bb hz;unfold pgV
  go_enter Tryz.func106, Tryz.ntmps106
  go_wp2_with fail;go_ret2
  exact⟨P,F,Bc.out,Ag.out,by rw[HV.out];rfl⟩
 .have Cz:(chain == 0)=false:=uR.2 hz;have C2:=oh (zMw Ag.out.env Ag.out.sub Bc.out gen chain size hid (Bb hz));have HV:Hid (jQ G ⟨key,value,chain,size⟩=match zAZ G chain size with|none=>.inl ⟨((qN G size.toNat chain size).1.flatMap (·.2)).toArray⟩|some (l,k)=>.inr (-1 :: l,k)):=oh (by unfold jQ;rw[if_neg hz];rfl);clear hL hP h m0 Bb hz;unfold pgV at C2 ⊢
  go_enter Tryz.func106, Tryz.ntmps106
  go_wp2_with fail;refine (C2.out).mono ?_;rintro e w2 ⟨P2,F2,Af,Ab,⟨hc,rfl⟩|⟨⟨el,ek⟩,f,hc,rfl,hE⟩⟩
  .have Au:=oh Af;have A1:=oh Ab;have HC:=oh hc;clear Af Ab hc;go_wp2_with fail;refine (wrap_nil _ _).mono ?_;rintro e w3 ⟨rfl,rfl⟩;go_wp2_with fail;go_ret2
   exact⟨P2,F2,Au.out,Ag.out.trans A1.out,by rw[HV.out,HC.out];rfl⟩
  .have Au:=oh Af;have A1:=oh Ab;have HC:=oh hc;have HE:=oh hE;clear Af Ab hc hE;go_wp2_with fail;refine (wrap_any A1.out.env _ _ _ _ HE.out).mono ?_;rintro e w3 ⟨f3,rfl,B7,A6⟩;have Bl:=oh B7;have A3:=oh A6;clear B7 A6;go_wp2_with fail;go_ret2
   exact⟨P2,F2,Au.out.at A3.out,(Ag.out.trans A1.out).trans (zX.ext A1.out.env A1.out.sub A3.out),by rw[HV.out,HC.out];exact⟨f3,rfl,Bl.out⟩⟩
end
theorem zNZ.form{F:NP}{ad:Nat->Addr}{w:World}{r:ByteArray ⊕ Err}{e:Ending}(h:zNZ F ad w r e):∃v ev,e=.returned (.tuple #[.string v,ev]):=by
 rcases r with v|⟨l,k⟩
 .exact⟨v,_,h⟩
 .obtain⟨f,h,_⟩:=h;exact⟨_,_,h⟩
section
variable {P P' P1 P2 F F' F1 F2 Q:NP}{ad:Nat->Addr}{w w' wr w2:World}{c s:Nat}{G:GA}{l:List Nat}{v v':Value}{gen:Nat}
theorem zQ6[zQ](hL:yH F ad w)(hP:∀k,P k->F k)(h:jK F w P c s G l)(gen:Nat)(root:Int)(key:ByteArray)(hk:zKc G root key) :
  Calls Tryz.prog 53 #[pgV c s gen,.int .i64 root,.string key] w (zCH F P ad w c s G l (λF' w' e=>zKy F' ad w' (zBj G root key) e)):=by
 have m0:zF w (w.alloc (gP c s gen)):=(zss w).alloc _;have Ag:=oh (zX.ext hL hP m0);have Bc:=oh (h.at m0);have D0:=oh (zG.new w (gP c s gen) 117);have HK:=oh hk;have C3:Hid (¬ P w.heap.size):=oh (λhp=>by have:=h.bd _ hp;omega);clear hL hP h hk m0;have Bd:=λop=>zLg (c:=c) (s:=s) Ag.out.env op gen key
 have Az:=λ(F1 P1:NP) (wr:World) (h1:yH F1 ad wr) (h2:∀k,P1 k->F1 k) (h3:jK F1 wr P1 c s G l)=>zQ5 h1 h2 h3 gen root key HK.out.1
 unfold pgV at Bd Az ⊢;have Bd:=oh Bd;have Az:=oh Az
 go_enter Tryz.func53, Tryz.ntmps53
 go_wp2_with fail;refine (Bd.out _).mono ?_;rintro e w1 ⟨ev,rfl,hE,Be⟩;have B8:=D0.out.ext Be;have b0:=B8.d 0 (.pointer (some ⟨c,0,none⟩)) rfl;have b1:=B8.d 1 (.pointer (some ⟨s,0,none⟩)) rfl;have b2:=B8.d 2 (.int .u64 (gen:Int)) rfl;have Av:=oh (Ag.out.trans (zX.ext Ag.out.env Ag.out.sub Be));have C4:=oh B8;have Bm:=oh (Bc.out.at Be);clear Be B8;cases hc:zCT key with
 | some er =>
  obtain⟨el,ek⟩:=er;rw[hc] at hE;obtain⟨f,rfl,hE⟩:=hE;have HE:=oh hE;have HV:Hid (zBj G root key=.inr (el,ek)):=oh (by unfold zBj;rw[hc]);clear hE hc;go_wp2_with fail;refine bodyPost_ret (v:=.tuple #[.string ⟨#[]⟩,.bool false,zP f]) (by simp[results,Tryz.results53,go_sem]) rfl ?_;exact⟨P,F,Bm.out,Av.out,by rw[HV.out];exact⟨f,rfl,HE.out⟩⟩
 | none =>
  rw[hc] at hE;cases hE
  by_cases hr:root=0
  .have D1:(root == 0)=true:=rE.2 hr;have HV:Hid (zBj G root key=.inl none):=oh (by unfold zBj;rw[hc];simp only[if_pos hr]);clear hc hr;go_wp2_with fail;refine bodyPost_ret (v:=.tuple #[.string ⟨#[]⟩,.bool false,.nilIface]) (by simp[results,Tryz.results53,go_sem]) rfl ?_;exact⟨P,F,Bm.out,Av.out,by rw[HV.out];rfl⟩
  .have D1:(root == 0)=false:=uR.2 hr;have HV:Hid (zBj G root key=match jM G key 16 [] root with | .inr (l,k)=>.inr (-1 :: l,k) | .inl (_,n)=>(match n.entries[(zAN n key).1]? with|none=>.inl none|some e=>if (zAN n key).2=true then (match jQ G e with | .inl v=>.inl (some v) | .inr (l,k)=>.inr (-1 :: l,k)) else .inl none)):=oh (by unfold zBj;rw[hc];simp only[if_neg hr];rfl);clear hc hr;go_wp2_with fail;refine (Az.out F P _ Av.out.env Av.out.sub Bm.out).mono ?_;rintro e w2 ⟨P2,F2,Af,Ab,A0⟩;have Au:=oh Af;have A1:=oh Ab;clear Af Ab;generalize C5:jM G key 16 [] root=r at A0
   have A9:=oh C5;clear C5;rcases r with ⟨st,n⟩|⟨el,ek⟩
   .obtain⟨sv,ve,vk,vi,rfl,D2,Ak,Al,B2⟩:=A0;obtain⟨sa,sc,rfl,_,_,_,_⟩:=D2;obtain⟨ea,ec,rfl,D3,Bn,D4,C6⟩:=_root_.id Ak;obtain⟨ka,kc,rfl,_,_,_,_⟩:=_root_.id Al;obtain⟨ia,ic,rfl,_,_,_,_⟩:=B2;unfold maxLen at Bn;have m2:zF w2 (w2.alloc (.cells #[.bool n.leaf,.slice ea n.entries.length ec,.slice ka n.keys.length kc,.slice ia n.kids.length ic] 200)):=(zss w2).alloc _;have C7:=oh (zC4 n key _ _ (.slice ia n.kids.length ic) (Ak.ext m2) (Al.ext m2));have Bj:=oh (zG.new w2 #[.bool n.leaf,.slice ea n.entries.length ec,.slice ka n.keys.length kc,.slice ia n.kids.length ic] 200);have D5:=oh C6;have Ay:=oh m2;have D6:=oh (A1.out.blk C4.out C3.out);obtain⟨at_,isb,A5⟩:∃a b,zAN n key=(a,b):=⟨_,_,rfl⟩;have Ap:=oh A5;rw[A5] at C7;have C8:Hid (zBj G root key=match n.entries[at_]? with|none=>.inl none|some e=>if isb=true then (match jQ G e with | .inl v=>.inl (some v) | .inr (l,k)=>.inr (-1 :: l,k)) else .inl none):=oh (by rw[HV.out,A9.out];simp only[A5]);have B9:isb=true->at_<n.entries.length:=by
     intro hb;unfold zAN at A5;split at A5
     .simp only[Prod.mk.injEq] at A5;obtain⟨h1,h2⟩:=A5;rw[h1,hb] at h2;split at h2
      .rename_i e he;exact (uA.1 he).1
      .cases h2
     .simp only[Prod.mk.injEq] at A5;rw[hb] at A5;cases A5.2
    have D7:=oh B9;clear Ak Al m2 C6 A5 B9;go_wp2_with fail;refine (C7.out).mono ?_;rintro e w3 ⟨rfl,A6⟩;have A3:=oh (Ay.out.trans A6);have Am:=oh (Bj.out.ext A6);clear A6;cases isb
    .have D8:Hid (zBj G root key=.inl none):=oh (by
      rw[C8.out];split
      .rfl
      .rfl)
     go_wp2_with fail;refine bodyPost_ret (v:=.tuple #[.string ⟨#[]⟩,.bool false,.nilIface]) (by simp[results,Tryz.results53,go_sem]) rfl ?_;exact⟨P2,F2,Au.out.at A3.out,(Av.out.trans A1.out).trans (zX.ext A1.out.env A1.out.sub A3.out),by rw[D8.out];rfl⟩
    .have Bo:=D7.out rfl;have Di:=oh Bo;obtain⟨eb,eoff,rfl,_,Bp,Aw⟩:=Sl.at D5.out A3.out (λ_ _ f=>f.elim) at_ Bo
     obtain⟨en,Bq⟩:∃en,en=n.entries[at_]:=⟨_,rfl⟩;have Br:Hid (n.entries[at_]? = some en):=oh (by rw[Bq];exact uB Bo);have Aw:∀j u,(zAQ en)[j]? = some u->w3.cell? ⟨eb,eoff+at_ * 4+j,none⟩=some u:=by rw[Bq];exact Aw
     have c0:=Aw 0 _ rfl;simp only[uT] at c0;have c1:=Aw 1 _ rfl;have c2:=Aw 2 _ rfl;have c3:=Aw 3 _ rfl;have C9:Hid (zBj G root key=match jQ G en with | .inl v=>.inl (some v) | .inr (l,k)=>.inr (-1 :: l,k)):=oh (by rw[C8.out,Br.out];simp only[tU]);have D9:Hid (zCU G en):=oh (HK.out.2 st n en A9.out (by rw[Ap.out];exact Br.out));have Da:Hid (-9223372036854775808<=en.chain/\en.chain<=9223372036854775807):=oh (by
      obtain⟨k1,k2⟩:=zHD 16 [] root A9.out;have h3:=zEw k2 k1 Br.out;unfold qR at h3;simp only[uI] at h3;have h4:=h3.2;split at h4
      .omega
      .simp only[uI,uO,zCn] at h4;omega)
     have Bs:=oh (A1.out.not C4.out.lt C3.out);have Db:Hid (¬ P2 w2.heap.size):=oh (λhp=>by have:=A1.out.stp.bd _ hp;omega);have Bf:Hid (¬ P2 eb):=oh (λhp=>Bp (A1.out.sub _ hp));have Bg:=D6.out.ext A3.out;have p0:=Bg.d 0 (.pointer (some ⟨c,0,none⟩)) rfl;have p1:=Bg.d 1 (.pointer (some ⟨s,0,none⟩)) rfl;have p2:=Bg.d 2 (.int .u64 (gen:Int)) rfl;have x1:=Am.out.d 1 (.slice (some ⟨eb,eoff,none⟩) n.entries.length ec) rfl;have i0:(0:Int)<=(at_:Int):=by omega
     have i1:(at_:Int)<(n.entries.length:Int):=by omega
     have Ca:=oh (zPY (A1.out.env.mods A3.out.drew.ext) A1.out.sub (Au.out.at A3.out.drew) gen en Da.out D9.out);unfold pgV at Ca;clear Bq Aw Bg;go_wp2_with fail;go_region_held3 (λw'=>w'.cell? ⟨w.heap.size,0,none⟩=some (.pointer (some ⟨c,0,none⟩))/\w'.cell? ⟨w.heap.size,1,none⟩=some (.pointer (some ⟨s,0,none⟩))/\w'.cell? ⟨w.heap.size,2,none⟩=some (.int .u64 (gen:Int))/\w'.cell? ⟨w2.heap.size,1,none⟩=some (.slice (some ⟨eb,eoff,none⟩) n.entries.length ec) /\
       w'.cell? ⟨eb,eoff+at_ * 4,none⟩=some (.string en.key)/\w'.cell? ⟨eb,eoff+at_ * 4+1,none⟩=some (.string en.value)/\w'.cell? ⟨eb,eoff+at_ * 4+2,none⟩=some (.int .i64 en.chain)/\w'.cell? ⟨eb,eoff+at_ * 4+3,none⟩=some (.int .i64 en.size))
      (first|(with_reducible exact⟨p0,p1,p2,x1,c0,c1,c2,c3⟩)|(with_reducible exact⟨y0,y1,y2,y3,z0,z1,z2,z3⟩)|go_keep)
      (first
       | (go_at_call 106;(with_reducible refine (Ca.out).mono ?_);rintro e w4 ⟨P4,F4,Cb,Ah,A0⟩;obtain⟨vs,ev,rfl⟩:=A0.form;have y0:=zEW (w:=w3.drew) Ah.stp.mods p0 Bs.out;have y1:=zEW (w:=w3.drew) Ah.stp.mods p1 Bs.out;have y2:=zEW (w:=w3.drew) Ah.stp.mods p2 Bs.out;have y3:=zEW (w:=w3.drew) Ah.stp.mods x1 Db.out;have z0:=zEW (w:=w3.drew) Ah.stp.mods c0 Bf.out;have z1:=zEW (w:=w3.drew) Ah.stp.mods c1 Bf.out;have z2:=zEW (w:=w3.drew) Ah.stp.mods c2 Bf.out;have z3:=zEW (w:=w3.drew) Ah.stp.mods c3 Bf.out)
       | fail)
     have Cc:=oh Cb;have Ax:=oh (((Av.out.trans A1.out).trans (zX.ext A1.out.env A1.out.sub A3.out.drew)).trans Ah);clear p0 p1 p2 x1 c0 c1 c2 c3 y0 y1 y2 y3 z0 z1 z2 z3 Cb Ah;generalize Cd:jQ G en=r at A0
     have Ce:=oh Cd;clear Cd;rcases r with vv|⟨el,ek⟩
     .have Ai:Ending.returned (.tuple #[.string vs,ev])=.returned (.tuple #[.string vv,.nilIface]):=A0;injection Ai with Ai;simp only[Value.tuple.injEq,Array.mk.injEq,List.cons.injEq,Value.string.injEq,and_true] at Ai;obtain⟨rfl,rfl⟩:=Ai;clear A0;have Bt:Hid (zBj G root key=.inl (some vs)):=oh (by rw[C9.out,Ce.out]);go_wp2_with fail;go_region_held3 (λ_=>True) (trivial)
       (first
        | (go_at_call 43;(with_reducible refine (wrap_nil _ _).mono ?_);rintro e w5 ⟨rfl,rfl⟩)
        | fail)
      all_goals
       go_wp2_with fail;refine bodyPost_ret (v:=.tuple #[.string vs,.bool true,.nilIface]) (by simp[results,Tryz.results53,go_sem]) rfl ?_;exact⟨P4,F4,Cc.out.at (zss w4).drew,Ax.out.trans (zX.ext Ax.out.env Ax.out.sub (zss w4).drew),by rw[Bt.out];rfl⟩
     .obtain⟨f,Ai,hE⟩:=A0;injection Ai with Ai;simp only[Value.tuple.injEq,Array.mk.injEq,List.cons.injEq,Value.string.injEq,and_true] at Ai;obtain⟨rfl,rfl⟩:=Ai;have HE:=oh hE;clear hE;have Bt:Hid (zBj G root key=.inr (-1 :: el,ek)):=oh (by rw[C9.out,Ce.out]);go_wp2_with fail;go_region_held3 (λ_=>True) (trivial)
       (first
        | (go_at_call 43;(with_reducible refine (wrap_any (Ax.out.env.mods (zss w4).drew) _ _ _ _ (HE.out.mods (zss w4).drew)).mono ?_);rintro e w5 ⟨f5,rfl,Cf,Cg⟩)
        | fail)
      all_goals
       have Dc:=oh Cf;have B0:=oh (((zA.refl (λ_=>False) w4).drew).trans Cg);clear Cf Cg;go_wp2_with fail;refine bodyPost_ret (v:=.tuple #[.string ⟨#[]⟩,.bool false,zP f5]) (by simp[results,Tryz.results53,go_sem]) rfl ?_;exact⟨P4,F4,Cc.out.at B0.out,Ax.out.trans (zX.ext Ax.out.env Ax.out.sub B0.out),by rw[Bt.out];exact⟨f5,rfl,Dc.out⟩⟩
   .obtain⟨f,rfl,hE⟩:=A0;have HE:=oh hE;clear hE;have m2:zF w2 (w2.alloc gB):=(zss w2).alloc _;have Ay:=oh m2;clear m2;go_wp2_with fail;refine (wrap_any (A1.out.env.mods Ay.out.ext) _ _ _ _ (HE.out.mods Ay.out.ext)).mono ?_;rintro e w3 ⟨f3,rfl,B7,A6⟩;have Bl:=oh B7;have A3:=oh (Ay.out.trans A6);clear B7 A6;go_wp2_with fail;refine bodyPost_ret (v:=.tuple #[.string ⟨#[]⟩,.bool false,zP f3]) (by simp[results,Tryz.results53,go_sem]) rfl ?_;exact⟨P2,F2,Au.out.at A3.out,(Av.out.trans A1.out).trans (zX.ext A1.out.env A1.out.sub A3.out),by rw[HV.out,A9.out];exact⟨f3,rfl,Bl.out⟩⟩
end
end
section
open Go.RowKit Go.Maps
attribute [local go_sem ↓] Go.wp_at_zero Go.wp_at_succ
end
section
open Go.RowKit Go.Maps
end
section
open Go.RowKit
def zIq(v:ByteArray):ByteArray:=v.extract 0 (min v.size 300)
theorem zNa(v:ByteArray):(zIq v).size<=300:=by unfold zIq;rw[ByteArray.size_extract];omega
def zAa(L:List zL):Nat->List zL × Nat
 | 0=>([],1)
 | k+1=>match L[k]? with
  | none=>zAa L k
  | some x=>if jO x.1=true then (yV x.1 (zIq x.2) true (zAa L k).1,if k % 5=4 then (zAa L k).2+1 else (zAa L k).2) else zAa L k
theorem zNb{L:List zL}{k:Nat}{x:zL}(h:L[k]? = some x)(hk:jO x.1=false):zAa L (k+1)=zAa L k:=by
 rw[zAa,h];simp only;rw[if_neg (by rw[hk];simp)]
theorem zKA{L:List zL}{k:Nat}{x:zL}(h:L[k]? = some x)(hk:jO x.1=true):zAa L (k+1)=(yV x.1 (zIq x.2) true (zAa L k).1,if k % 5=4 then (zAa L k).2+1 else (zAa L k).2):=by
 rw[zAa,h];simp only;rw[if_pos hk]
theorem zSb{g:Nat}{G:GA}{l:List Nat}{root d:Nat}{ps:List zL}{pgs pgs0:List Nat}{v:ByteArray}(h:zCC 256 120 g G l root d ps pgs pgs0)(hF:2<=ps.length->∀i∈pgs,zCv (G.view i))(hk:ps.length<=19)(h0:pgs0.length<=44)(hv:v.size<=300):(ndV G.size v:Nat)+(d:Int)+1<zA4 l:=by
 have Dd:=h.phi;have hn:=zOO v (by omega);have hz:G.size=256:=h.size;rw[hz];have hb:=h.ctx.b256;obtain⟨c1,c2,c3⟩:=h.td.count2 hF;rw[hz] at c1 c2;have hc:=zKw ps h.val;rcases tK 1 ps.length with h2|h2
 .obtain⟨e1,e2⟩:=c2 h2;have hd:d<=4:=by
   rcases tK 4 d with h5|h5
   .have:2 ^ 5<=2 ^ d:=wX (by omega) h5;omega
   .exact h5
  omega
 .have:=c3 (by omega);omega
theorem zSc{g:Nat}{G:GA}{l:List Nat}{root d:Nat}{ps:List zL}{pgs pgs0:List Nat}(h:zCC 256 120 g G l root d ps pgs pgs0)(hF:2<=ps.length->∀i∈pgs,zCv (G.view i)){k:Nat}(hk:ps.length<=5 * (k+1)):pgs.length<=15 * (k+1)-1:=by
 have hz:G.size=256:=h.size;obtain⟨c1,c2,c3⟩:=h.td.count2 hF;rw[hz] at c1 c2;have hc:=zKw ps h.val;rcases tK 1 ps.length with h2|h2
 .have:=(c2 h2).1;omega
 .omega
abbrev PgE:=zY × (Option Addr × Nat × Nat)
end
section
open Go.RowKit
attribute [local go_sem ↓] Go.wp_at_zero Go.wp_at_succ
theorem zDi:zCx zCE 2:=⟨λ_=>rfl,by intro x u hu;simp[zCE] at hu;rcases hu with rfl|rfl <;> rfl⟩
end
end Go.Proofs.YtalpfcaakpgkmaaGreatDoor
