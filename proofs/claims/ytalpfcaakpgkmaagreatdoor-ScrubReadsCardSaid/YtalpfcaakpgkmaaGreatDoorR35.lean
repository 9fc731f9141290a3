import Derived.Test.YtalpfcaakpgkmaaGreatDoorR34
import Derived.Deep.RegionHeld3
namespace Go.Proofs.YtalpfcaakpgkmaaGreatDoor
open Lib renaming hid->oh
set_option maxHeartbeats 4000000
set_option maxRecDepth 100000
section
open Go.RowKit
attribute [local go_sem ↓] Go.wp_at_zero Go.wp_at_succ
def zQu(x:Int × Int):List Value:=[.int .i64 x.1,.int .i64 x.2]
theorem zRq:zCx zQu 2:=⟨λ_=>rfl,by intro x u hu;simp[zQu] at hu;rcases hu with rfl|rfl <;> rfl⟩
def lkC(d mb:Nat)(s:yG)(g:Int)(A:yP)(fv iv lv:Value):Array Value :=
 #[.pointer (some ⟨d,0,none⟩),.int .u64 (s.gen:Int),.int .i64 (s.blocks:Int),.int .i64 (s.size:Int),.int .i64 (s.root:Int),.int .i64 (s.keys:Int),.map (some mb),.int .u64 g,fv,.int .i64 (A.ids.length:Int),iv,.int .i64 (A.keys:Int),lv,.bool A.blind]
theorem Tryz.elF:ElT Tryz.prog 33 121 (.agg #[.int .i64 0,.int .i64 0]) 2 16:=⟨Tryz.underlying33,by kernel_rfl,rfl,by decide,by decide⟩
def LkB(kb mb:Nat)(fv iv lv:Value):NP:=λk=>k=kb\/k=mb\/fv.ownBlock=some k\/iv.ownBlock=some k\/lv.ownBlock=some k
structure LkS(w0 w:World)(kb mb d:Nat)(s:yG)(g:Int)(A:yP)(fv iv lv:Value):Prop where
 ext:zF w0 w
 new:w0.heap.size<=kb/\w0.heap.size<=mb
 blk:zG w kb (lkC d mb s g A fv iv lv) 101
 seen:zCg w mb A.seen
 rf:yC (λ_=>False) w w0.heap.size 121 2 zQu fv A.finds
 ri:yC (λ_=>False) w w0.heap.size 3 1 yI iv A.ids
 rl:yC (λ_=>False) w w0.heap.size 9 1 vW lv A.lost
 few:A.few
structure zAJ(kb mb:Nat)(fv iv lv fv' iv' lv':Value)(w w':World):Prop where
 mods:zA (LkB kb mb fv iv lv) w w'
 sub:∀k,LkB kb mb fv' iv' lv' k->LkB kb mb fv iv lv k\/w.heap.size<=k
def zQw(w0:World)(kb mb d:Nat)(s:yG)(g:Int)(fv iv lv:Value)(w:World)(A':yP)(w':World):Prop:=∃fv' iv' lv',LkS w0 w' kb mb d s g A' fv' iv' lv'/\zAJ kb mb fv iv lv fv' iv' lv' w w'
section
variable {ad:Nat->Addr}{w0 w w' w2:World}{kb mb d:Nat}{s:yG}{g:Int}{A A':yP}{fv iv lv fv' iv' lv' fv2 iv2 lv2:Value}
theorem zAJ.ext(m:zF w w'):zAJ kb mb fv iv lv fv iv lv w w':=⟨m.ext,λ_ h=>.inl h⟩
theorem zAJ.trans(h:zAJ kb mb fv iv lv fv' iv' lv' w w')(k:zAJ kb mb fv' iv' lv' fv2 iv2 lv2 w' w2):zAJ kb mb fv iv lv fv2 iv2 lv2 w w2 :=
 ⟨h.1.trans' k.1 (λi hi hb=>(h.2 i hb).elim id (λe=>by omega)),λi hb=>(k.2 i hb).elim (h.2 i) (λe=>.inr (uP h.1.size e))⟩
theorem zAJ.res(h:zAJ kb mb fv iv lv fv' iv' lv' w w'){R:Nat}(m:zA (λk=>k=R) w' w2)(hR:w.heap.size<=R):zAJ kb mb fv iv lv fv' iv' lv' w w2 :=
 ⟨h.1.trans' m (λi hi e=>by omega),h.2⟩
theorem zAJ.sl{α:Type}{sz:Nat}{enc:α->List Value}{v:Value}{x:List α}(h:zAJ kb mb fv iv lv fv' iv' lv' w w')(k:Sl (LkB kb mb fv iv lv) w sz enc v x):Sl (LkB kb mb fv' iv' lv') w' sz enc v x :=
 k.step h.1 (λi hi hn hb=>(h.2 i hb).elim hn (λe=>by omega))
theorem zAJ.blk{cs:Array Value}{t:TypeId}{R:Nat}(h:zAJ kb mb fv iv lv fv' iv' lv' w w')(k:zG w R cs t)(hn:¬ LkB kb mb fv iv lv R):zG w' R cs t/\¬ LkB kb mb fv' iv' lv' R :=
 ⟨k.mods h.1 hn,λhb=>(h.2 R hb).elim hn (λe=>by have:=k.lt;omega)⟩
theorem LkS.lt(h:LkS w0 w kb mb d s g A fv iv lv):∀k,LkB kb mb fv iv lv k->w0.heap.size<=k/\k<w.heap.size:=by
 rintro k (e|e|e|e|e)
 .subst e;exact⟨h.new.1,h.blk.lt⟩
 .subst e;exact⟨h.new.2,h.seen.lt⟩
 .exact h.rf.lt k e
 .exact h.ri.lt k e
 .exact h.rl.lt k e
theorem LkS.env(h:LkS w0 w kb mb d s g A fv iv lv)(hL:yH NoB ad w0):yH (LkB kb mb fv iv lv) ad w :=
 hL.step h.ext.ext (λk hk _ hb=>by have:=(h.lt k hb).1;omega) (λk hb=>(h.lt k hb).2)
theorem LkS.envX(h:LkS w0 w kb mb d s g A fv iv lv)(hL:yH NoB ad w0){X:Nat}(h1:w0.heap.size<=X)(h2:X<w.heap.size):yH (qB (LkB kb mb fv iv lv) X) ad w :=
 hL.step h.ext.ext (λk hk _ hb=>hb.elim (λhb=>by have:=(h.lt k hb).1;omega) (λe=>by omega)) (λk hb=>hb.elim (λhb=>(h.lt k hb).2) (λe=>by omega))
theorem LkS.at(h:LkS w0 w kb mb d s g A fv iv lv)(m:zF w w'):LkS w0 w' kb mb d s g A fv iv lv :=
 ⟨h.ext.trans m,h.new,h.blk.ext m,h.seen.mods m (λf=>f),h.rf.ext m,h.ri.ext m,h.rl.ext m,h.few⟩
theorem LkS.off(h:LkS w0 w kb mb d s g A fv iv lv):kb≠mb:=zG.notM h.blk h.seen
theorem zIh(h:LkS w0 w kb mb d s g A fv iv lv)(id:Int)(hf:(A.good id).few) :
  Calls Tryz.prog 157 #[.pointer (some ⟨kb,0,none⟩),.int .i64 id] w λe w'=>e=.returned (.tuple #[])/\zQw w0 kb mb d s g fv iv lv w (A.good id) w':=by
 have HK:=oh h;obtain⟨ia,ic,rfl, -, -⟩:=_root_.id h.ri.form;have hB:=h.blk;unfold lkC at hB;have HB:=oh hB;have k10:=hB.d 10 (.slice ia A.ids.length ic) rfl;have HF:=oh hf;have Aj:Hid (A.ids.length<1000):=oh (by have:=hf.2.2.1;simp only[yP.good,uC,uG,uL] at this;omega);have Cg:=Aj.out;have e1:A.ids.length + [id].length=A.ids.length+1:=by simp
 clear h hB
 go_enter Tryz.func157, Tryz.ntmps157
 go_wp2_with (first
  | (at_builtin;refine yX Tryz.elI vH rfl _ _ rfl w0.heap.size (.slice ia A.ids.length ic) (.slice (some ⟨w.heap.size,0,none⟩) 1 1) A.ids [id] rfl rfl (HK.out.ri.ext (zr.alloc _)) (Sl.one (F:=λ_=>False) (x:=id) (t := 3) (fz:=(0,0)) (zS rfl) (λf=>f)) (by have:=Aj.out;simp;omega) (uP HK.out.ext.size (by simp)) (λf=>f) ?_;intro a' c' w4 A0 A1 A2;rw[e1] at A0 A2 ⊢;have A3:=(HB.out.alloc (.cells #[.int .i64 id] 3)).mods A1 (λe=>yC.notB HK.out.ri HB.out (by decide) _ e rfl);have Ao:=oh A3;have z10:=A3.d 10 (.slice ia A.ids.length ic) rfl;have z9:=A3.d 9 (.int .i64 (A.ids.length:Int)) rfl;have zf:=A3.frozen;clear A3)
  | fail)
 have B0:=oh A0;have Br:=oh A2;have Bs:Hid (zA (λk=>(Value.slice ia A.ids.length ic).ownBlock=some k) (w.alloc (.cells #[.int .i64 id] 3)) w4):=oh A1;clear A0 A1 A2 z10 z9 zf k10;go_end0
 refine⟨rfl,fv,.slice a' (A.ids.length+1) c',lv,?_⟩;have m5:zA (λk=>k=kb) w4 ((w4.setCell ⟨kb,10,none⟩ (.slice a' (A.ids.length+1) c')).setCell ⟨kb,9,none⟩ (.int .i64 ((A.ids.length:Int)+1))):=zA.setCell (F:=λk=>k=kb) (zA.setCell (F:=λk=>k=kb) (zss w4) (p:=⟨kb,10,none⟩) (.inr rfl) _) (p:=⟨kb,9,none⟩) (.inr rfl) _;have m4:zA (λk=>(Value.slice ia A.ids.length ic).ownBlock=some k\/k=kb) w ((w4.setCell ⟨kb,10,none⟩ (.slice a' (A.ids.length+1) c')).setCell ⟨kb,9,none⟩ (.int .i64 ((A.ids.length:Int)+1))) :=
  (((zss w).alloc _).trans (Bs.out.mono (λk e=>.inl e))).trans (m5.mono (λk e=>.inr e))
 refine⟨⟨HK.out.ext.trans' m4 (λi hi hq=>?_),HK.out.new,?_,HK.out.seen.mods m4 (λhq=>?_),HK.out.rf.mods m4 (λg hg hq=>?_),B0.out.mods m5 (λg hg e=>yC.notB B0.out Ao.out (by decide) g hg e),HK.out.rl.mods m4 (λg hg hq=>?_),HF.out⟩,m4.mono (λk hk=>hk.elim (λe=>.inr (.inr (.inr (.inl e)))) .inl),?_⟩
 .rcases hq with e|e
  .have:=(HK.out.ri.lt i e).1;omega
  .have:=HK.out.new.1;omega
 .have h:=(Ao.out.set 10 (.slice a' (A.ids.length+1) c')).set 9 (.int .i64 ((A.ids.length:Int)+1));simpa[lkC,yP.good] using h
 .rcases hq with e|e
  .exact yC.notM HK.out.ri HK.out.seen _ e rfl
  .exact HK.out.off e.symm
 .rcases hq with e|e
  .exact yC.notO HK.out.rf HK.out.ri (by decide) g hg e
  .exact yC.notB HK.out.rf HB.out (by decide) g hg e
 .rcases hq with e|e
  .exact yC.notO HK.out.rl HK.out.ri (by decide) g hg e
  .exact yC.notB HK.out.rl HB.out (by decide) g hg e
 .rintro k (e|e|e|e|e)
  .exact .inl (.inl e)
  .exact .inl (.inr (.inl e))
  .exact .inl (.inr (.inr (.inl e)))
  .rcases Br.out with h|h
   .exact .inl (.inr (.inr (.inr (.inl (h ▸ e)))))
   .rw[h] at e;injection e with e;simp at e;right;omega
  .exact .inl (.inr (.inr (.inr (.inr e))))
theorem zCR(h:LkS w0 w kb mb d s g A fv iv lv)(id what:Int)(hf:(A.find id what).few) :
  Calls Tryz.prog 153 #[.pointer (some ⟨kb,0,none⟩),.int .i64 id,.int .i64 what] w λe w'=>e=.returned (.tuple #[])/\∃fv',LkS w0 w' kb mb d s g (A.find id what) fv' iv lv/\zAJ kb mb fv iv lv fv' iv lv w w':=by
 have HK:=oh h;obtain⟨ia,ic,rfl, -, -⟩:=_root_.id h.rf.form;have hB:=h.blk;unfold lkC at hB;have HB:=oh hB;have k8:=hB.d 8 (.slice ia A.finds.length ic) rfl;have HF:=oh hf;have Aj:Hid (A.finds.length<1000):=oh (by have:=hf.2.1;simp only[yP.find,uC,uG,uL] at this;omega);have e1:A.finds.length + [(id,what)].length=A.finds.length+1:=by simp
 have Ap:Hid (∀(a':Option Addr) (c':Nat) (w4:World),yC (λ_=>False) w4 w0.heap.size 121 2 zQu (.slice a' (A.finds.length+1) c') (A.finds++[(id,what)])->zA (λk=>(Value.slice ia A.finds.length ic).ownBlock=some k) (w.alloc (.cells #[.int .i64 id,.int .i64 what] 121)) w4->((Value.slice a' (A.finds.length+1) c').ownBlock=(Value.slice ia A.finds.length ic).ownBlock\/(Value.slice a' (A.finds.length+1) c').ownBlock=some (w.alloc (.cells #[.int .i64 id,.int .i64 what] 121)).heap.size)->∀b:Bool,b=(A.blind || decide (what=3)) ->
   LkS w0 ((w4.setCell ⟨kb,8,none⟩ (.slice a' (A.finds.length+1) c')).setCell ⟨kb,13,none⟩ (.bool b)) kb mb d s g (A.find id what) (.slice a' (A.finds.length+1) c') iv lv/\zAJ kb mb (.slice ia A.finds.length ic) iv lv (.slice a' (A.finds.length+1) c') iv lv w ((w4.setCell ⟨kb,8,none⟩ (.slice a' (A.finds.length+1) c')).setCell ⟨kb,13,none⟩ (.bool b))):=oh (by
  intro a' c' w4 B1 B2 Bt b hb;have A3:=(HB.out.alloc (.cells #[.int .i64 id,.int .i64 what] 121)).mods B2 (λe=>yC.notB HK.out.rf HB.out (by decide) _ e rfl);have m5:zA (λk=>k=kb) w4 ((w4.setCell ⟨kb,8,none⟩ (.slice a' (A.finds.length+1) c')).setCell ⟨kb,13,none⟩ (.bool b)):=zA.setCell (F:=λk=>k=kb) (zA.setCell (F:=λk=>k=kb) (zss w4) (p:=⟨kb,8,none⟩) (.inr rfl) _) (p:=⟨kb,13,none⟩) (.inr rfl) _;have m4:zA (λk=>(Value.slice ia A.finds.length ic).ownBlock=some k\/k=kb) w ((w4.setCell ⟨kb,8,none⟩ (.slice a' (A.finds.length+1) c')).setCell ⟨kb,13,none⟩ (.bool b)) :=
   (((zss w).alloc _).trans (B2.mono (λk e=>.inl e))).trans (m5.mono (λk e=>.inr e))
  refine⟨⟨HK.out.ext.trans' m4 (λi hi hq=>?_),HK.out.new,?_,HK.out.seen.mods m4 (λhq=>?_),B1.mods m5 (λg hg e=>yC.notB B1 A3 (by decide) g hg e),HK.out.ri.mods m4 (λg hg hq=>?_),HK.out.rl.mods m4 (λg hg hq=>?_),HF.out⟩,m4.mono (λk hk=>hk.elim (λe=>.inr (.inr (.inl e))) .inl),?_⟩
  .rcases hq with e|e
   .have:=(HK.out.rf.lt i e).1;omega
   .have:=HK.out.new.1;omega
  .have h:=(A3.set 8 (.slice a' (A.finds.length+1) c')).set 13 (.bool b);rw[hb] at h ⊢;simpa[lkC,yP.find] using h
  .rcases hq with e|e
   .exact yC.notM HK.out.rf HK.out.seen _ e rfl
   .exact HK.out.off e.symm
  .rcases hq with e|e
   .exact yC.notO HK.out.ri HK.out.rf (by decide) g hg e
   .exact yC.notB HK.out.ri HB.out (by decide) g hg e
  .rcases hq with e|e
   .exact yC.notO HK.out.rl HK.out.rf (by decide) g hg e
   .exact yC.notB HK.out.rl HB.out (by decide) g hg e
  .rintro k (e|e|e|e|e)
   .exact .inl (.inl e)
   .exact .inl (.inr (.inl e))
   .rcases Bt with h|h
    .exact .inl (.inr (.inr (.inl (h ▸ e))))
    .rw[h] at e;injection e with e;simp at e;right;omega
   .exact .inl (.inr (.inr (.inr (.inl e))))
   .exact .inl (.inr (.inr (.inr (.inr e)))))
 obtain⟨bl,B3⟩:∃bl,bl=A.blind:=⟨_,rfl⟩;have B4:=oh B3;clear h hB B3;cases bl
 all_goals
  go_enter Tryz.func153, Tryz.ntmps153
  go_wp2_with (first
   | (at_builtin;refine yX Tryz.elF zRq rfl _ _ rfl w0.heap.size (.slice ia A.finds.length ic) (.slice (some ⟨w.heap.size,0,none⟩) 1 1) A.finds [(id,what)] rfl rfl (HK.out.rf.ext (zr.alloc _)) (Sl.one (F:=λ_=>False) (x:=(id,what)) (t := 121) (fz:=(0,0)) (zS rfl) (λf=>f)) (by have:=Aj.out;simp;omega) (uP HK.out.ext.size (by simp)) (λf=>f) ?_;intro a' c' w4 A0 A1 A2;rw[e1] at A0 A2 ⊢;have A3:=(HB.out.alloc (.cells #[.int .i64 id,.int .i64 what] 121)).mods A1 (λe=>yC.notB HK.out.rf HB.out (by decide) _ e rfl);have Ao:=oh A3;have z8:=A3.d 8 (.slice ia A.finds.length ic) rfl;have z13:=A3.d 13 (.bool A.blind) rfl;rw[<- B4.out] at z13;have zf:=A3.frozen;clear A3;have Bu:=oh (Ap.out a' c' w4 A0 A1 A2);clear A0 A1 A2)
   | fail)
  go_end0
  exact⟨rfl,_,Bu.out _ (by rw[<- B4.out];by_cases h:what=3 <;> simp[h])⟩
end
end
section
open Go.RowKit
def yA(D:zJ)(i:Nat):Bool:=match zV (D.lasting.getD i []) (i:Int) with
 | .inl _=>false
 | .inr _=>true
theorem zBG{D:zJ}{i:Nat}:yA D i=true ↔ ∃r,zV (D.lasting.getD i []) (i:Int)=.inr r:=by
 unfold yA;cases h:zV (D.lasting.getD i []) (i:Int) with
 | inl p=>simp
 | inr r=>simp
structure zBM(D:zJ)(s:yG)(m:qW):Prop where
 blk:s.blocks=D.blocks
 siz:s.size=D.size
 ok:zBe s=true
 gen:s.gen<18446744073709551615
 mok:zA6 m=true
 mgen:m.gen=s.gen
 mblk:m.blocks=s.blocks
 sup:∀i,i<2->yA D i=true\/D.lasting.getD i []=yK s i
 one:yA D 0=false\/yA D 1=false
 map:∀k,k<2->yA D (place s.gen k)=true\/D.lasting.getD (place s.gen k) []=yO m (place s.gen k) D.size
section
variable {D:zJ}{s:yG}{m:qW}
theorem zBM.lim(h:zBM D s m):8<=D.blocks/\D.blocks<=256/\256<=D.size/\D.size<=1024:=by
 obtain⟨a,b,c,d, -⟩:=(zAp s).1 h.ok;rw[h.blk] at a b;rw[h.siz] at c d;exact⟨a,b,c,d⟩
theorem zBM.openS(h:zBM D s m){i:Nat}(hi:i<2):openS (D.lasting.getD i []) i=if yA D i=true then none else some s:=by
 rcases h.sup i hi with hs|hs
 .rw[if_pos hs];obtain⟨r,hr⟩:=zBG.1 hs;unfold Go.Proofs.YtalpfcaakpgkmaaGreatDoor.openS;rw[hr]
 .have ho:=zJP h.ok (by have:=h.gen;omega) hi;rw[<- hs] at ho;rw[if_neg,ho];intro hb;obtain⟨r,hr⟩:=zBG.1 hb;unfold Go.Proofs.YtalpfcaakpgkmaaGreatDoor.openS at ho;rw[hr] at ho;cases ho
theorem zBM.none(h:zBM D s m){i:Nat}(hi:i<2):Go.Proofs.YtalpfcaakpgkmaaGreatDoor.openS (D.lasting.getD i []) i=none->∃r,zV (D.lasting.getD i []) (i:Int)=.inr r:=λe=>by
 rw[h.openS hi] at e;split at e
 .rename_i hs;exact zBG.1 hs
 .cases e
end
def zGM(D:zJ)(k:Nat):List (Int × Int):=((List.range k).filter (yA D)).map λ(i:Nat)=>((i:Int),(1:Int))
def zHY(D:zJ)(g k:Nat):List (Int × Int):=((List.range k).filter (λj=>yA D (place g j))).map λ(j:Nat)=>((place g j:Int),(2:Int))
theorem zGk(D:zJ)(k:Nat):zGM D (k+1)=zGM D k++if yA D k=true then [((k:Int),1)] else []:=by
 unfold zGM;rw[List.range_succ,rZ,rH];congr 1
 by_cases h:yA D k=true <;> simp[h]
theorem zGl(D:zJ)(g k:Nat):zHY D g (k+1)=zHY D g k++if yA D (place g k)=true then [((place g k:Int),2)] else []:=by
 unfold zHY;rw[List.range_succ,rZ,rH];congr 1
 by_cases h:yA D (place g k)=true <;> simp[h]
theorem zIi(D:zJ)(k:Nat):(zGM D k).length<=k:=by
 unfold zGM;rw[wS];exact uP (rN _ _) (by simp)
theorem zMC(D:zJ)(g k:Nat):(zHY D g k).length<=k:=by
 unfold zHY;rw[wS];exact uP (rN _ _) (by simp)
def yP.hd(l:List (Int × Int)):yP:=⟨[],l,[],0,[],false⟩
theorem yP.hd_find(l:List (Int × Int))(id what:Int)(h:what≠3):(yP.hd l).find id what=yP.hd (l++[(id,what)]):=by
 unfold yP.hd yP.find;simp[h]
theorem yP.hd_few{l:List (Int × Int)}(h:l.length<=1000):(yP.hd l).few:=⟨by simp[hd],h,by simp[hd],by simp[hd],by simp[hd]⟩
def zC0(D:zJ)(g:Nat):List (Int × Int):=zGM D 2++zHY D g 2
theorem zJ2(D:zJ)(g:Nat):(zC0 D g).length<=4:=by
 unfold zC0;rw[uC];have:=zIi D 2;have:=zMC D g 2;omega
end
section
open Go.RowKit
attribute [local go_sem ↓] Go.wp_at_zero Go.wp_at_succ
def zMD(w:World)(base:Nat)(v:Value)(n:zI):Prop :=
 ∃ve vk vi,v=.agg #[.bool n.leaf,ve,vk,vi]/\yC (λ_=>False) w base 208 4 zAQ ve n.entries/\yC (λ_=>False) w base 9 1 vW vk n.keys/\yC (λ_=>False) w base 3 1 yI vi n.kids
theorem yC.slF{α:Type}{F:NP}{w:World}{base:Nat}{e:TypeId}{sz:Nat}{enc:α->List Value}{v:Value}{l:List α}(h:yC (λ_=>False) w base e sz enc v l)(hF:∀k,F k->k<base)(Aq:∀x,(enc x).length=sz)(hl:l.length<=140737488355328):Sl F w sz enc v l :=
 (h.blocks (G:=F) (λg hg hf=>by have:=(h.lt g hg).1;have:=hF g hf;omega)).sl Aq hl
def zGm(w:World)(x:zI × ByteArray × zI)(e:Ending)(w':World):Prop :=
 ∃va vb,e=.returned (.tuple #[va,.string x.2.1,vb])/\zMD w' w.heap.size va x.1/\zMD w' w.heap.size vb x.2.2/\zF w w'
theorem yC.some'{α:Type}{F:NP}{w:World}{base:Nat}{e:TypeId}{sz:Nat}{enc:α->List Value}{a:Option Addr}{n c:Nat}{l:List α}(h:yC F w base e sz enc (.slice a n c) l)(hl:l≠[]):∃g,a=some ⟨g,0,none⟩:=by
 rcases h.1.2 with ⟨_,h0⟩|⟨g,cap,cur,h0,_⟩
 .exact absurd (tE h0) hl
 .injection h0 with h0 _ _;exact⟨g,h0⟩
section
variable {F:NP}{w w':World}
theorem Tryz.nodeSz:(Tryz.prog.info? 200).map (·.size)=some 4:=by kernel_rfl
abbrev zT:Array Value:=gB
theorem zNP(n:zI)(B5:n.leaf=true)(ve vk vi:Value)(Ae:Sl F w 4 zAQ ve n.entries)(a:Nat)(ha:1<=a/\a<n.entries.length)(hb:n.entries.length<=100000) :
  Calls Tryz.prog 319 #[.agg #[.bool true,ve,vk,vi],.int .i64 (a:Int)] w (zGm w (zW n a)):=by
 have m0:zF w (((w.alloc (.cells #[.bool true,ve,vk,vi] 200)).alloc (.cells zT 200)).alloc (.cells zT 200)):=(((zss w).alloc _).alloc _).alloc _;have Bv:=oh (((zG.new w #[.bool true,ve,vk,vi] 200).alloc (.cells zT 200)).alloc (.cells zT 200));have Bw:Hid (zG (((w.alloc (.cells #[.bool true,ve,vk,vi] 200)).alloc (.cells zT 200)).alloc (.cells zT 200)) (w.heap.size+1) zT 200):=oh ((show zG ((w.alloc (.cells #[.bool true,ve,vk,vi] 200)).alloc (.cells zT 200)) (w.heap.size+1) zT 200 from zS (by simp)).alloc _);have A6:Hid (zG (((w.alloc (.cells #[.bool true,ve,vk,vi] 200)).alloc (.cells zT 200)).alloc (.cells zT 200)) (w.heap.size+1+1) zT 200):=oh (zS (by simp));have Bx:=oh m0;have HE:=oh (Ae.ext m0);obtain⟨ae,ce,rfl,Ch,By,Ci,_⟩:=Ae;unfold maxLen at By;obtain⟨x0,Ar⟩:∃x0,n.entries[a]? = some x0:=⟨_,uB ha.2⟩;have Bz:Hid (zW n a=(⟨true,n.entries.take a,[],[]⟩,x0.key,⟨true,n.entries.drop a,[],[]⟩)):=oh (by unfold zW;rw[if_pos B5,Ar]);have C0:=oh Ar;have B6:(n.entries.take a).length=a:=by rw[wB];omega
 have B7:(n.entries.drop a).length=n.entries.length-a:=wN;have B8:=oh B6;have Af:=oh B7;have hi:(a:Int)<=(n.entries.length:Int):=by omega
 clear m0 B6 B7 B5 Ar
 go_enter Tryz.func319, Tryz.ntmps319
 go_wp2_with fail;refine (zPG _ (n.entries.take a) (HE.out.pre a (by omega)) a B8.out.symm (by rw[B8.out];omega)).mono ?_;rintro e w1 ⟨a1,c1,rfl,B9,As⟩;have C1:=oh B9;have Ag:=oh (As.alloc (.cells #[.bool true,.slice a1 a c1,.slice none 0 0,.slice none 0 0] 200));have b1:=(Bv.out.ext Ag.out).d 1 (.slice ae n.entries.length ce) rfl;have C2:¬ ce=a:=by omega
 have Cj:w.heap.size+1+1<w1.heap.size:=by have:=As.size;simp at this;omega
 clear B9 As;have C3:Hid (Sl F (w1.alloc (.cells #[.bool true,.slice a1 a c1,.slice none 0 0,.slice none 0 0] 200)) 4 zAQ (.slice (ae.map (·.add (a * 4))) (n.entries.length-a) (ce-a)) (n.entries.drop a)):=oh (by
  have:=(HE.out.ext Ag.out).tail_ a (by omega);rw[if_neg C2] at this;exact this)
 go_wp2_with fail;refine (zPH _ (n.entries.drop a) C3.out (n.entries.length-a) Af.out.symm (by rw[Af.out];omega)).mono ?_;rintro e w2 ⟨a2,c2,rfl,A4,A5⟩;obtain⟨g2,rfl⟩:=A4.some' (λe0=>by have:=Af.out;rw[e0] at this;simp at this;omega);have Ba:w2.cell? ⟨g2,0,none⟩=some (.string x0.key):=by
  obtain⟨a',c',e1,_,_,_,e5⟩:=A4.sl zBl.len (by rw[Af.out];omega);injection e1 with e1 _ _;subst e1;obtain⟨b,off,ha,_,hF,hc⟩:=Sl.at e5 (zss w2) (λ_ _ h=>h) 0 (by rw[Af.out];omega);injection ha with ha;injection ha with C4 C5;subst C4 C5;have:=hc 0 (.string x0.key) (by
   have hx:(n.entries.drop a)[0]? = some x0:=by rw[rD];exact C0.out
   have C6:=(uA.1 hx).2;rw[C6];rfl)
  simpa using this
 have At:=(A4.lt g2 rfl).1;have C7:g2≠w.heap.size+1:=by simp at At;omega
 have C8:g2≠w.heap.size+1+1:=by simp at At;omega
 have Ck:=C7.symm;have Cl:=C8.symm;clear At;have Aa:=oh A4;have HX:Hid (zG (w1.alloc (.cells #[.bool true,.slice a1 a c1,.slice none 0 0,.slice none 0 0] 200)) w1.heap.size #[.bool true,.slice a1 a c1,.slice none 0 0,.slice none 0 0] 200):=oh (zG.new _ _ _);have Ah:=oh (A5.alloc (.cells #[.bool true,.slice (some ⟨g2,0,none⟩) (n.entries.length-a) c2,.slice none 0 0,.slice none 0 0] 200));have Bb:=oh (Bx.out.trans (Ag.out.trans Ah.out));have Ak:=oh (HX.out.ext Ah.out);have Al:=oh (zG.new w2 #[.bool true,.slice (some ⟨g2,0,none⟩) (n.entries.length-a) c2,.slice none 0 0,.slice none 0 0] 200);have Ab:=(Bw.out.ext (Ag.out.trans Ah.out));have Ac:=(A6.out.ext (Ag.out.trans Ah.out));have Ba:=zR Ba (.cells #[.bool true,.slice (some ⟨g2,0,none⟩) (n.entries.length-a) c2,.slice none 0 0,.slice none 0 0] 200);have p0:=Ak.out.k 0 rfl;have p1:=Ak.out.k 1 rfl;have p2:=Ak.out.k 2 rfl;have p3:=Ak.out.k 3 rfl;have q0:=Al.out.k 0 rfl;have q1:=Al.out.k 1 rfl;have q2:=Al.out.k 2 rfl;have q3:=Al.out.k 3 rfl;have r0:=Ab.k 0 rfl;have r1:=Ab.k 1 rfl;have r2:=Ab.k 2 rfl;have r3:=Ab.k 3 rfl;have rf:=Ab.frozen;have s0:=Ac.k 0 rfl;have s1:=Ac.k 1 rfl;have s2:=Ac.k 2 rfl;have s3:=Ac.k 3 rfl;have sf:=Ac.frozen;have Cm:w1.heap.size<w2.heap.size:=by have:=A5.size;simp at this;omega
 have Cn:(0:Int)<((n.entries.length-a:Nat):Int):=by omega
 have Bc:=oh Ab;have Bd:=oh Ac;clear A4 A5 Ab Ac;go_wp2_with fail;go_region
 go_wp2_with fail;obtain⟨X0,Au⟩:∃X0,X0=w2.alloc (.cells #[.bool true,.slice (some ⟨g2,0,none⟩) (n.entries.length-a) c2,.slice none 0 0,.slice none 0 0] 200):=⟨_,rfl⟩;rw[<- Au] at Bc Bd Bb;have mA:=zA.set4 (F:=λk=>k=w.heap.size+1) (zss X0) (R:=w.heap.size+1) (.inr rfl) (.bool true) (.slice a1 a c1) (.slice none 0 0) (.slice none 0 0);have hA:=Bc.out.set4 (.bool true) (.slice a1 a c1) (.slice none 0 0) (.slice none 0 0);have C9:=Bd.out.mods mA (by omega);have hB:=C9.set4 (.bool true) (.slice (some ⟨g2,0,none⟩) (n.entries.length-a) c2) (.slice none 0 0) (.slice none 0 0);have mB:=zA.set4 (F:=λk=>k=w.heap.size+1+1) (zA.refl _ ((((X0.setCell ⟨w.heap.size+1,0,none⟩ (.bool true)).setCell ⟨w.heap.size+1,1,none⟩ (.slice a1 a c1)).setCell ⟨w.heap.size+1,2,none⟩ (.slice none 0 0)).setCell ⟨w.heap.size+1,3,none⟩ (.slice none 0 0))) (R:=w.heap.size+1+1) (.inr rfl) (.bool true) (.slice (some ⟨g2,0,none⟩) (n.entries.length-a) c2) (.slice none 0 0) (.slice none 0 0);have Ca:=hA.mods mB (by omega);have hx:=(zA.set4 (zA.set4 Bb.out (R:=w.heap.size+1) (.inl (by omega)) (.bool true) (.slice a1 a c1) (.slice none 0 0) (.slice none 0 0)) (R:=w.heap.size+1+1) (.inl (by omega)) (.bool true) (.slice (some ⟨g2,0,none⟩) (n.entries.length-a) c2) (.slice none 0 0) (.slice none 0 0)).drew;have o1:=(((C1.out.ext ((zss w1).alloc (.cells #[.bool true,.slice a1 a c1,.slice none 0 0,.slice none 0 0] 200))).ext Ah.out));have o2:=Aa.out.ext ((zss w2).alloc (.cells #[.bool true,.slice (some ⟨g2,0,none⟩) (n.entries.length-a) c2,.slice none 0 0,.slice none 0 0] 200));rw[<- Au] at o1 o2;have Be:=λg hg=>(o1.lt g hg).1
 have Bf:=λg hg=>(o2.lt g hg).1
 have o1':=((o1.mods mA (λg hg=>by have:=Be g hg;simp at this;omega)).mods mB (λg hg=>by have:=Be g hg;simp at this;omega)).rebase (base':=w.heap.size) (by simp;omega);have o2':=((o2.mods mA (λg hg=>by have:=Bf g hg;simp at this;omega)).mods mB (λg hg=>by have:=Bf g hg;simp at this;omega)).rebase (base':=w.heap.size) (by simp;omega);subst Au;refine bodyPost_ret (zCz rfl _ _ (w.heap.size+1) (w.heap.size+1+1) 200 200 _ _ _ rfl Ca.drew rfl hB.drew rfl Tryz.underlying200 rfl Tryz.nodeSz rfl) rfl ?_;unfold zGm;rw[Bz.out];exact⟨_,_,rfl,⟨_,_,_,rfl,o1'.ext zr.drew,yC.nil _ _ _ _ _ _,yC.nil _ _ _ _ _ _⟩,⟨_,_,_,rfl,o2'.ext zr.drew,yC.nil _ _ _ _ _ _,yC.nil _ _ _ _ _ _⟩,hx⟩
end
structure jZ(F P:NP)(w0 wr:World)(b:Nat)(c:Array Value)(t:TypeId):Prop where
 blk:zG wr b c t
 f:F b
 p:¬ P b
 new:w0.heap.size<=b
section
variable {P P' F F':NP}{ad:Nat->Addr}{w0 w w':World}{b b2:Nat}{c c2:Array Value}{t t2:TypeId}
theorem jZ.nxt(h:jZ F P w0 w b c t)(n:zX P P' F F' ad w w'):jZ F' P' w0 w' b c t:=⟨n.blk h.blk h.p,n.grow b h.f,n.not h.blk.lt h.p,h.new⟩
theorem jZ.ext(h:jZ F P w0 w b c t)(m:zF w w'):jZ F P w0 w' b c t:=⟨h.blk.ext m,h.f,h.p,h.new⟩
theorem jZ.other(h:jZ F P w0 w b c t){b2:Nat}(m:zA (λk=>k=b2) w w')(hb:b≠b2):jZ F P w0 w' b c t:=⟨h.blk.mods m hb,h.f,h.p,h.new⟩
end
section
variable {P P0 F F0:NP}{ad:Nat->Addr}{w0 w w':World}{b:Nat}{cc:Array Value}{t:TypeId}{c s:Nat}{G:GA}{l:List Nat}
theorem jK.var[zQ](h:jK F w P c s G l)(v:jZ F P w0 w b cc t)(m:zA (λk=>k=b) w w'):jK F w' P c s G l:=h.res m v.p v.f
theorem zX.var(n:zX P0 P F0 F ad w0 w)(v:jZ F P w0 w b cc t)(m:zA (λk=>k=b) w w'):zX P0 P F0 F ad w0 w':=n.resD m v.new v.f
theorem jZ.put(v:jZ F P w0 w b cc t)(i:Nat)(x:Value):jZ F P w0 (w.setCell ⟨b,i,none⟩ x) b (cc.setIfInBounds i x) t:=⟨v.blk.set i x,v.f,v.p,v.new⟩
theorem jZ.mF(v:jZ F P w0 w b cc t)(m:zA (λk=>k=b) w w'):zA F w w':=m.mono (λ_ hk=>hk ▸ v.f)
end
def zJJ(o:zBH):Array Value:=#[.int .i64 (o.id0:Int),.int .i64 (o.id1:Int),.string o.key,.bool o.two,.bool o.news]
def zSY:zBH:=⟨0,0,e0,false,false⟩
abbrev zAV:Array Value:=#[.int .i64 0,.int .i64 0,.string ⟨#[]⟩,.bool false,.bool false]
def zNQ[zQ](F P:NP)(ad:Nat->Addr)(w:World)(c s:Nat)(G:GA)(l:List Nat)(r:StA zBH)(e:Ending)(w':World):Prop :=
  ∃(P' F':NP) (G':GA) (l':List Nat),jK F' w' P' c s G' l'/\zX P P' F F' ad w w' /\
    ((∃ o, r = .inl (G', l', o) /\ e = .returned (.tuple #[.agg (zJJ o), .nilIface])) \/
     (∃k o f el,r=.inr k/\FrG G l G' l'/\e=.returned (.tuple #[.agg (zJJ o),zP f])/\vN F' ad w' (zP f) el k))
theorem Tryz.outSz:(Tryz.prog.info? 255).map (·.size)=some 5:=by kernel_rfl
theorem zDA(G:GA)(l:List Nat)(gen old:Nat)(n:zI):(yQ G l gen old n).size=G.size/\(yQ G l gen old n).blocks=G.blocks/\(yQ G l gen old n).cost<=G.cost+1:=by
 unfold yQ;split
 .exact⟨rfl,rfl,by omega⟩
 .obtain⟨h1,h2,h3⟩:=zEJ G l old;exact⟨h1,h2,by show (qT G l old).cost+1<=_;omega⟩
structure zIj(G:GA)(l:List Nat)(old:Nat)(n:zI):Prop where
 place:vK l old
 low:zKp l
 len:l.length<=G.blocks
 cost:G.cost+10<=1000000
 wt:zH n<=100000
 bytes:zO n=true->(yE n).length<=100000
 cut:¬ zH n<=(G.size:Int)-24->∃a k b,zEa n=some (a,k,b)/\zH a<=(G.size:Int)-24/\zH b<=(G.size:Int)-24
 few:n.entries.length<=100000/\n.keys.length<=100000/\n.kids.length<=100000
section
variable {P P' F F':NP}{ad:Nat->Addr}{w w':World}{c s:Nat}{G:GA}{l:List Nat}
theorem zME[zQ](n:zI)(hF:zH n<=(G.size:Int)-24)(hL:yH F ad w)(hP:∀k,P k->F k)(h:jK F w P c s G l)(gen old:Nat)(Av:gen<18446744073709551616)(ve vk vi:Value)(Ae:Sl F w 4 zAQ ve n.entries)(Bg:Sl F w 1 vW vk n.keys)(Bh:Sl F w 1 yI vi n.kids)(Aw:zIj G l old n) :
  Calls Tryz.prog 228 #[pgV c s gen,.int .i64 (old:Int),.agg #[.bool n.leaf,ve,vk,vi]] w (zNQ F P ad w c s G l (qG G l gen old n)):=by
 have Cb:=oh hF;clear hF;obtain⟨w1,A7⟩:∃w1,w1=(((w.alloc (gP c s gen)).alloc (.cells #[.bool n.leaf,ve,vk,vi] 200)).alloc (.cells zAV 255)).alloc (.cells zAV 255):=⟨_,rfl⟩;have m0:zF w w1:=by rw[A7];exact ((((zss w).alloc _).alloc _).alloc _).alloc _
 have hz:w1.heap.size=w.heap.size+4:=by rw[A7];simp
 have hN:zX P P F (λk=>F k\/(w.heap.size<=k/\k<w1.heap.size)) ad w w1:=zX.new hL hP (Q:=λk=>w.heap.size<=k/\k<w1.heap.size) m0 (λk hk=>hk.1) (λk hk=>hk.2);have HB:=oh (show jZ (λk=>F k\/(w.heap.size<=k/\k<w1.heap.size)) P w w1 w.heap.size (gP c s gen) 117 from ⟨by rw[A7];exact (((zG.new w _ _).alloc _).alloc _).alloc _,.inr ⟨by omega,by omega⟩,λhp=>by have:=h.bd _ hp;omega,by omega⟩);have HD:=oh (show jZ (λk=>F k\/(w.heap.size<=k/\k<w1.heap.size)) P w w1 (w.heap.size+1) #[.bool n.leaf,ve,vk,vi] 200 from ⟨by rw[A7];exact ((show zG ((w.alloc _).alloc (.cells #[.bool n.leaf,ve,vk,vi] 200)) (w.heap.size+1) #[.bool n.leaf,ve,vk,vi] 200 from zS (by simp)).alloc _).alloc _,.inr ⟨by omega,by omega⟩,λhp=>by have:=h.bd _ hp;omega,by omega⟩);have HR:=oh (show jZ (λk=>F k\/(w.heap.size<=k/\k<w1.heap.size)) P w w1 (w.heap.size+1+1) zAV 255 from ⟨by rw[A7];exact (show zG (((w.alloc _).alloc _).alloc (.cells zAV 255)) (w.heap.size+1+1) zAV 255 from zS (by simp)).alloc _,.inr ⟨by omega,by omega⟩,λhp=>by have:=h.bd _ hp;omega,by omega⟩);have HO:=oh (show jZ (λk=>F k\/(w.heap.size<=k/\k<w1.heap.size)) P w w1 (w.heap.size+1+1+1) zAV 255 from ⟨by rw[A7];exact zS (by simp),.inr ⟨by omega,by omega⟩,λhp=>by have:=h.bd _ hp;omega,by omega⟩);have HG:=oh (h.plusNew hP (Q:=λk=>w.heap.size<=k/\k<w1.heap.size) m0 (λk hk=>hk.1));have Bi:=oh (hN.sl hP Ae);have Bj:=oh (hN.sl hP Bg);have Cc:=oh (hN.sl hP Bh);have Ai:=oh h.lim;have HN:=oh hN;have A8:=oh Aw;have Bk:=oh (λW (m:zF w1 W)=>zEE (HG.out.at m) gen);have Am:Hid (∀W,zF w1 W -> Calls Tryz.prog 232 #[.agg #[.bool n.leaf,ve,vk,vi],.int .i64 (G.size:Int)] W λe w'=>e=.returned (.bool (decide (zH n<=(G.size:Int)-24)))/\zF W w'):=oh (λW m=>zEz n ve vk vi W (Bi.out.ext m) (Bj.out.ext m) (by have:=Aw.wt;omega) _ (by omega) (by have:=Ai.out;omega));obtain⟨ea,ec,rfl,_,_,_,_⟩:=Ae;obtain⟨ka,kc,rfl,_,_,_,_⟩:=Bg;obtain⟨ia,ic,rfl,_,_,_,_⟩:=Bh;have b0:=HB.out.blk.k 0 rfl;have b1:=HB.out.blk.k 1 rfl;have b2:=HB.out.blk.k 2 rfl;have n0:=HD.out.blk.k 0 rfl;have n1:=HD.out.blk.k 1 rfl;have n2:=HD.out.blk.k 2 rfl;have n3:=HD.out.blk.k 3 rfl;have Cd:=oh A7;clear hL hP h m0 hN Aw A7;unfold pgV at Bk ⊢
 go_enter Tryz.func228, Tryz.ntmps228
 go_wp2_with fail;rw[<- Cd.out];go_cut [17] (λv17 wx=>v17=.bool (decide (zH n<=(G.size:Int)-24))/\Hid (zF w1 wx))
 case first =>
  go_region_held3 (λw'=>w'.cell? ⟨w.heap.size+1,0,none⟩=some (.bool n.leaf)/\w'.cell? ⟨w.heap.size+1,1,none⟩=some (.slice ea n.entries.length ec)/\w'.cell? ⟨w.heap.size+1,2,none⟩=some (.slice ka n.keys.length kc)/\w'.cell? ⟨w.heap.size+1,3,none⟩=some (.slice ia n.kids.length ic) /\
    w'.cell? ⟨w.heap.size,0,none⟩=some (.pointer (some ⟨c,0,none⟩))/\w'.cell? ⟨w.heap.size,1,none⟩=some (.pointer (some ⟨s,0,none⟩))/\w'.cell? ⟨w.heap.size,2,none⟩=some (.int .u64 (gen:Int)))
   (first|(with_reducible exact⟨n0,n1,n2,n3,b0,b1,b2⟩)|(with_reducible exact⟨y0,y1,y2,y3,d0,d1,d2⟩)|(with_reducible exact⟨z0,z1,z2,z3,f0,f1,f2⟩)|go_keep)
   (first
    | (go_at_call 233;(with_reducible refine (Bk.out _ (zss w1).drew).mono ?_);rintro e w2 ⟨rfl,A5⟩;have y0:=zE A5 n0;have y1:=zE A5 n1;have y2:=zE A5 n2;have y3:=zE A5 n3;have d0:=zE A5 b0;have d1:=zE A5 b1;have d2:=zE A5 b2)
    | (go_at_call 232;refine (Am.out _ ((zss w1).drew.trans A5)).mono ?_;rintro e w3 ⟨rfl,A9⟩;have z0:=zE A9 y0;have z1:=zE A9 y1;have z2:=zE A9 y2;have z3:=zE A9 y3;have f0:=zE A9 d0;have f1:=zE A9 d1;have f2:=zE A9 d2)
    | fail)
  all_goals
   go_wp2_with fail;go_meet;exact⟨rfl,oh ((zss w1).drew.trans (A5.trans A9))⟩
 obtain⟨rfl,HX⟩:=hcut;have HB:=oh (HB.out.ext HX.out);have HD:=oh (HD.out.ext HX.out);have HR:=oh (HR.out.ext HX.out);have HO:=oh (HO.out.ext HX.out);have Ax:=oh (HN.out.trans (zX.ext HN.out.env HN.out.sub HX.out));have HG:=oh (HG.out.at HX.out);have b0:=HB.out.blk.k 0 rfl;have b1:=HB.out.blk.k 1 rfl;have b2:=HB.out.blk.k 2 rfl;have n0:=HD.out.blk.k 0 rfl;have n1:=HD.out.blk.k 1 rfl;have n2:=HD.out.blk.k 2 rfl;have n3:=HD.out.blk.k 3 rfl;cases Ad:decide (zH n<=(G.size:Int)-24) with
 | true =>
  have Am:=oh (rR Ad);have Bl:=oh (zGG Ax.out.env Ax.out.sub HG.out gen old Av n _ _ _ (Bi.out.ext HX.out) (Bj.out.ext HX.out) (Cc.out.ext HX.out) A8.out.bytes A8.out.place.ok A8.out.place.two (A8.out.place.lt (by have:=Ai.out;omega)) A8.out.len (by have:=A8.out.cost;omega));unfold pgV at Bl;clear Ad;go_wp2_with fail;refine Bl.out.mono ?_;rintro e w2 ⟨P2,F2,Bm,An,hr⟩;have A6:=oh (HR.out.nxt An);have A4:=HO.out.nxt An;have Bn:=oh Bm;have Bo:=oh (Ax.out.trans An);have o0:=A4.blk.k 0 rfl;have o1:=A4.blk.k 1 rfl;have o2:=A4.blk.k 2 rfl;have o3:=A4.blk.k 3 rfl;have o4:=A4.blk.k 4 rfl;have of:=A4.blk.frozen;have Aa:=oh A4;have r0:=A6.out.blk.k 0 rfl;have r1:=A6.out.blk.k 1 rfl;have r2:=A6.out.blk.k 2 rfl;have r3:=A6.out.blk.k 3 rfl;have r4:=A6.out.blk.k 4 rfl;have rf:=A6.out.blk.frozen;clear Bm An A4;rcases hr with ⟨i,hi,rfl⟩|⟨hi,f,el,rfl,hE⟩
  .have Ay:Hid (qG G l gen old n=.inl (yQ G l gen old n,yY G l old n,⟨i,0,e0,false,false⟩)):=oh (by unfold qG;rw[if_pos Am.out,hi]);clear hi;go_wp2_with fail;have mO:=zA.at (λk=>k=w.heap.size+1+1+1) w2 (w.heap.size+1+1+1) 0 (.int .i64 (i:Int)) rfl;have g3:=Bn.out.var Aa.out mO;have n3:=Bo.out.var Aa.out mO;have r3:=A6.out.other mO (by omega);have mR:=zA.set5 (F:=λk=>k=w.heap.size+1+1) (zA.refl _ (w2.setCell ⟨w.heap.size+1+1+1,0,none⟩ (.int .i64 (i:Int)))) (R:=w.heap.size+1+1) (.inr rfl) (.int .i64 (i:Int)) (.int .i64 0) (.string ⟨#[]⟩) (.bool false) (.bool false);have bR:=r3.blk.set5 (.int .i64 (i:Int)) (.int .i64 0) (.string ⟨#[]⟩) (.bool false) (.bool false);refine bodyPost_ret (zC rfl _ _ (w.heap.size+1+1) 255 _ _ rfl bR Tryz.underlying255 rfl Tryz.outSz) rfl ?_;exact⟨P2,F2,_,_,g3.var r3 mR,n3.var r3 mR,.inl ⟨_,Ay.out,rfl⟩⟩
  .have Ay:Hid (qG G l gen old n=.inr (zBX G n)):=oh (by unfold qG;rw[if_pos Am.out,hi]);have Ce:Hid (FrG G l (yQ G l gen old n) (yY G l old n)):=oh (zKq A8.out.place (by rw[A8.out.low.1];simp));have HE:=oh hE;clear hi hE;go_wp2_with fail;have mO:=zA.at (λk=>k=w.heap.size+1+1+1) w2 (w.heap.size+1+1+1) 0 (.int .i64 0) rfl;have g3:=Bn.out.var Aa.out mO;have n3:=Bo.out.var Aa.out mO;have r3:=A6.out.other mO (by omega);have mR:=zA.set5 (F:=λk=>k=w.heap.size+1+1) (zA.refl _ (w2.setCell ⟨w.heap.size+1+1+1,0,none⟩ (.int .i64 0))) (R:=w.heap.size+1+1) (.inr rfl) (.int .i64 0) (.int .i64 0) (.string ⟨#[]⟩) (.bool false) (.bool false);have bR:=r3.blk.set5 (.int .i64 0) (.int .i64 0) (.string ⟨#[]⟩) (.bool false) (.bool false);refine bodyPost_ret (zC rfl _ _ (w.heap.size+1+1) 255 _ _ rfl bR Tryz.underlying255 rfl Tryz.outSz) rfl ?_;exact⟨P2,F2,_,_,g3.var r3 mR,n3.var r3 mR,.inr ⟨_,zSY,_,_,Ay.out,Ce.out,rfl,(HE.out.mods (Aa.out.mF mO)).mods (r3.mF mR)⟩⟩
 | false=>exact absurd Cb.out (of_decide_eq_false Ad)
end
theorem Tryz.entSz:(Tryz.prog.info? 208).map (·.size)=some 4:=by kernel_rfl
section
variable {P P' F F':NP}{ad:Nat->Addr}{w w':World}{c s:Nat}{G:GA}{l:List Nat}
theorem zNR(gen:Nat)(key v:ByteArray)(hv:v.size<=24) :
  Calls Tryz.prog 226 #[pgV c s gen,.string key,.string v] w λe w'=>e=.returned (.tuple #[.agg #[.string key,.string v,.int .i64 0,.int .i64 0],.nilIface])/\zF w w':=by
 have Bp:(v.size:Int)<=24:=by omega
 have HB:Hid (zG ((w.alloc (gP c s gen)).alloc (.cells #[.string key,.string v,.int .i64 0,.int .i64 0] 208)) (w.heap.size+1) #[.string key,.string v,.int .i64 0,.int .i64 0] 208):=oh (zS (by simp));have HM:Hid (zF w ((w.alloc (gP c s gen)).alloc (.cells #[.string key,.string v,.int .i64 0,.int .i64 0] 208))):=oh (((zss w).alloc _).alloc _);clear hv;unfold pgV
 go_enter Tryz.func226, Tryz.ntmps226
 go_wp2_with fail;refine bodyPost_ret (zC rfl _ _ (w.heap.size+1) 208 _ _ rfl HB.out Tryz.underlying208 rfl Tryz.entSz) rfl ?_;exact⟨rfl,HM.out⟩
def zSE(b:Bool):StA zBH->StA zBH
 | .inr k=>.inr k
 | .inl (G2,l2,o)=>.inl (G2,l2,{ o with news:=b })
theorem zQx(key:ByteArray)(es:List zM):jA key es<=es.length:=List.findIdx_le_length
end
def zEP(key v:ByteArray):Option Err:=if jO key=false then some ([-1],2) else if 4096<v.size then some ([-1],8) else none
section
variable {P P' F F':NP}{ad:Nat->Addr}{w w':World}{c s:Nat}{G:GA}{l:List Nat}
theorem zMF(hL:yH F ad w)(gen:Nat)(key v:ByteArray)(Bq:zEZ ad\/v.size<=4096) :
  Calls Tryz.prog 144 #[pgV c s gen,.string key,.string v] w λe w'=>∃ev,e=.returned ev/\zAb F ad w' ev (zEP key v)/\zF w w':=by
 unfold pgV;have m0:zF w (w.alloc (gP c s gen)):=(zss w).alloc _;have Az:=hL.mods m0.ext;have g2:=Az.c2;have HL:=oh Az;have M0:=oh m0;have Cf:=oh Bq;clear hL Az m0 Bq;cases hk:jO key with
 | false =>
  have HR:Hid (zEP key v=some ([-1],2)):=oh (by unfold zEP;rw[if_pos hk]);have HK:=oh (zBk key);rw[hk] at HK;clear hk
  go_enter Tryz.func144, Tryz.ntmps144
  go_wp2_with fail;refine (HK.out _).mono ?_;rintro e w1 ⟨rfl,rfl⟩;go_wp2_with fail;refine (vI HL.out _ _ [] 2 (.sent 2 (by decide) (by decide))).mono ?_;rintro e w1 ⟨f,rfl,hE,hm⟩;have HE:=oh hE;have HM:=oh hm;clear hE hm;go_wp2_with fail;go_ret;exact⟨_,rfl,by rw[HR.out];exact⟨f,rfl,HE.out⟩,M0.out.trans HM.out⟩
 | true =>
  have HK:=oh (zBk key);rw[hk] at HK;by_cases hv:4096<v.size
  .have HR:Hid (zEP key v=some ([-1],8)):=oh (by unfold zEP;rw[if_neg (by rw[hk];simp),if_pos hv]);have Bp:(4096:Int)<(v.size:Int):=by omega
   have g8:=HL.out.c8 (Cf.out.resolve_right (by omega));clear hk hv
   go_enter Tryz.func144, Tryz.ntmps144
   go_wp2_with fail;refine (HK.out _).mono ?_;rintro e w1 ⟨rfl,rfl⟩;go_wp2_with fail;refine (vI HL.out _ _ [] 8 (.sent 8 (by decide) (by decide))).mono ?_;rintro e w1 ⟨f,rfl,hE,hm⟩;have HE:=oh hE;have HM:=oh hm;clear hE hm;go_wp2_with fail;go_ret;exact⟨_,rfl,by rw[HR.out];exact⟨f,rfl,HE.out⟩,M0.out.trans HM.out⟩
  .have HR:Hid (zEP key v=none):=oh (by unfold zEP;rw[if_neg (by rw[hk];simp),if_neg hv]);have Bp:¬ (4096:Int)<(v.size:Int):=by omega
   clear hk hv
   go_enter Tryz.func144, Tryz.ntmps144
   go_wp2_with fail;refine (HK.out _).mono ?_;rintro e w1 ⟨rfl,rfl⟩;go_wp2_with fail;go_ret;exact⟨_,rfl,by rw[HR.out];rfl,M0.out⟩
end
end
end Go.Proofs.YtalpfcaakpgkmaaGreatDoor
