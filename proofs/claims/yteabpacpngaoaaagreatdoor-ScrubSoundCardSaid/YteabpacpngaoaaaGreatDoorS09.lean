import Derived.Test.YteabpacpngaoaaaGreatDoorS07
import Derived.DataShut
namespace Go.Proofs.YteabpacpngaoaaaGreatDoor
open Lib renaming hid->oh
set_option maxHeartbeats 4000000
set_option maxRecDepth 100000
open Go.RowKit Go.Maps
attribute [local go_sem ↓] Go.wp_at_zero Go.wp_at_succ
section
variable {ad:Nat->Addr}{w0 w w':World}{kb mb d:Nat}{s:SupA}{g:Int}{A:zA}{fv iv lv:Value}{P:Nat->Prop}{D:DiskA}
theorem zQ.saw(h:zQ w0 w kb mb d s g A fv iv lv)(id:Int)(hf:(A.see id).few){w1:World}(hg:w.grownBy w1 (some mb))(hs:zV w1 mb (A.seen++[id])):zQ w0 w1 kb mb d s g (A.see id) fv iv lv:=by
 have m:=Mods.of_grown hg;refine⟨h.ext.trans' m (λi hi hq=>?_),h.new,?_,hs,h.rf.mods m (λg hg e=>Own.notM h.rf h.seen g hg (Option.some.inj e).symm),h.ri.mods m (λg hg e=>Own.notM h.ri h.seen g hg (Option.some.inj e).symm),h.rl.mods m (λg hg e=>Own.notM h.rl h.seen g hg (Option.some.inj e).symm),hf⟩
 .have:=h.new.2;injection hq with e;omega
 .exact h.blk.mods m (λe=>h.off (Option.some.inj e).symm)
theorem zJ.saw{w1:World}(hg:w.grownBy w1 (some mb)):zJ kb mb fv iv lv fv iv lv w w1 :=
 ⟨(Mods.of_grown hg).mono (λ_k e=>.inr (.inl (Option.some.inj e).symm)),λ_ h=>.inl h⟩
theorem zQ.notB{R:Nat}{cc:Array Value}{t:TypeId}(h:zQ w0 w kb mb d s g A fv iv lv)(hB:Blk w R cc t)(ht:t ≠ 135 /\ t ≠ 137 /\ t ≠ 3 /\ t ≠ 9):¬ qH kb mb fv iv lv R:=by
 rintro (e|e|e|e|e)
 .subst e;have h1:w.heap[R]? = some (.cells cc t (0,0)):=hB;have h2:w.heap[R]? = some (.cells (lkC d mb s g A fv iv lv) 135 (0,0)):=h.blk;rw[h1] at h2;injection h2 with h2;injection h2 with _ h2;exact ht.1 h2
 .exact Blk.notM hB h.seen e
 .exact Own.notB h.rf hB ht.2.1 _ e rfl
 .exact Own.notB h.ri hB ht.2.2.1 _ e rfl
 .exact Own.notB h.rl hB ht.2.2.2 _ e rfl
theorem zQ.other{Q:Nat->Prop}(h:zQ w0 w kb mb d s g A fv iv lv)(m:Mods Q w w')(hQ:∀k,Q k->w0.heap.size<=k/\¬ qH kb mb fv iv lv k):zQ w0 w' kb mb d s g A fv iv lv :=
 ⟨h.ext.trans' m (λi hi hq=>by have:=(hQ i hq).1;omega),h.new,h.blk.mods m (λhq=>(hQ _ hq).2 (.inl rfl)),h.seen.mods m (λhq=>(hQ _ hq).2 (.inr (.inl rfl))),h.rf.mods m (λg hg hq=>(hQ _ hq).2 (.inr (.inr (.inl hg)))),h.ri.mods m (λg hg hq=>(hQ _ hq).2 (.inr (.inr (.inr (.inl hg))))),h.rl.mods m (λg hg hq=>(hQ _ hq).2 (.inr (.inr (.inr (.inr hg))))),h.few⟩
def zBO(w0:World)(kb mb d:Nat)(s:SupA)(g:Int)(fv iv lv:Value)(w:World)(X:zA × Option PageA)(e:Ending)(w':World):Prop :=
 ∃fv',zQ w0 w' kb mb d s g X.1 fv' iv lv/\zJ kb mb fv iv lv fv' iv lv w w'/\match X.2 with
  | none=>e=.returned (.tuple #[pageV ⟨0,0,0,[]⟩ (.slice none 0 0),.bool false])
  | some p=>∃pv,e=.returned (.tuple #[pageV p pv,.bool true])/\Sl (qH kb mb fv' iv lv) w' 1 encB pv p.body/\p.body.length<=1000
theorem zA.few_see{A:zA}{id what:Int}(h:((A.see id).find id what).few):(A.see id).few:=by
 obtain⟨h1,h2,h3⟩:=h;refine⟨h1,?_,h3⟩;simp only[zA.find,zA.see,uC] at h2 ⊢;omega
theorem zAH{l:List UInt8}{id:Int}{p:PageA}(h:openAtP l id=.inl p):p.body.length+24<=l.length:=by
 unfold openAtP at h;split at h
 .cases h
 .rename_i ho;split at h
  .cases h
  .injection h with h;subst h;have ho:openB l=true:=by simpa using ho
   unfold openB at ho;have hp:=(pgCheck_none (by simpa using (Bool.and_eq_true_iff.1 ho).1)).2.2.2.2.2;omega
theorem vK(hL:Env NoB ad w0)(hD:DkS w0 P d D)(h:zQ w0 w kb mb d s g A fv iv lv)(id:Int)(hid:qD id)(what:Int)(hf:(zG (zP D) s.gen A id what).1.few) :
  Calls Tryz.prog 176 #[.pointer (some ⟨kb,0,none⟩),.int .i64 id,.int .i64 what] w (zBO w0 kb mb d s g fv iv lv w (zG (zP D) s.gen A id what)):=by
 have m0:Ext w (w.alloc (.cells #[.int .i64 0,.int .i64 0,.int .u64 0,.slice none 0 0] 192)):=(Mods.refl _ w).alloc _;obtain⟨DM,h1,h2,h3⟩:=(h.at m0).seen;have HK:=oh (h.at m0);have HS:=oh h1;have HI:=oh h2;have H3:=oh h3;have Ad:=hD.lim;have Ae:keyOf Tryz.prog 3 (.int .i64 id)=some (.int .i64 id):=keyOf_int_mk Tryz.underlying3 hid;obtain⟨cc,Bu,Af,Cg⟩:=h1.lookup_int Tryz.intKeyed Tryz.seenU Tryz.underlying3 (Tryz.intZero _) Ae;rw[h3 id] at Af;have Ag:=oh (Blk.new w #[.int .i64 0,.int .i64 0,.int .u64 0,.slice none 0 0] 192);have Am:=oh m0;by_cases hm:id∈A.seen
 .rw[if_pos hm] at Af;obtain rfl:cc=1:=by injection Af with e;injection e with _ e;exact e.symm
  have HV:=oh (qR (Q:=zP D) (gen:=s.gen) (what:=what) hm);have k6:=HK.out.blk.cell (o:=6) (v:=.map (some mb)) rfl;have r0:=Ag.out.cell (o:=0) (v:=.int .i64 0) rfl;have r1:=Ag.out.cell (o:=1) (v:=.int .i64 0) rfl;have r2:=Ag.out.cell (o:=2) (v:=.int .u64 0) rfl;have r3:=Ag.out.cell (o:=3) (v:=.slice none 0 0) rfl;have rf:=Ag.out.frozen;clear Af h h1 h2 h3 hm hL hD Ad m0 hf hid
  go_enter Tryz.func176, Tryz.ntmps176
  go_wp2_with fail;refine bodyPost_ret (results_row_tmp rfl _ _ w.heap.size 192 #[.int .i64 0,.int .i64 0,.int .u64 0,.slice none 0 0] _ rfl Ag.out Tryz.underlying192 rfl Tryz.pageSize) rfl ?_;rw[HV.out];exact⟨fv,HK.out,zJ.ext Am.out,rfl⟩
 .rw[if_neg hm] at Af;obtain rfl:cc=0:=by injection Af with e;injection e with _ e;exact e.symm
  have Bv:=h.seen.lt;have Bi:∀w1,(w.alloc (.cells #[.int .i64 0,.int .i64 0,.int .u64 0,.slice none 0 0] 192)).grownBy w1 (some mb)->Blk w1 w.heap.size #[.int .i64 0,.int .i64 0,.int .u64 0,.slice none 0 0] 192:=λw1 hg=>Ag.out.mods (Mods.of_grown hg) (λe=>by injection e with e;omega)
  have Aj:=oh Bi;have An:Hid (w0.heap.size<=w.heap.size):=oh h.ext.size;have B3:Hid (¬ qH kb mb fv iv lv w.heap.size):=oh (λhb=>by have:=(h.lt _ hb).2;omega);have B4:Hid ((A.see id).few):=oh (by
   cases hq:zP D id with
   | none=>rw[yO hm hq] at hf;exact zA.few_see hf
   | some p =>
    by_cases hg:s.gen<p.gen
    .rw[yP hm hq hg] at hf;exact zA.few_see hf
    .rw[zW hm hq hg] at hf;exact hf)
  have HL:=oh hL;have HD:=oh hD;have Ah:=oh Ad;have Aw:=oh hm;have HF:=oh hf;have Ax:A.seen.length<1000:=by
   have:=B4.out.1;simp only[zA.see,uC,uB,uD] at this;omega
  have Bj:=oh Ax;have k6:=HK.out.blk.cell (o:=6) (v:=.map (some mb)) rfl;clear Af h h1 h2 h3 hm hL hD Ad m0 Bi Bv hf hid Ax;by_cases hr:id<0\/(D.blocks:Int)<=id
  .have HV:=oh (yO (gen:=s.gen) (what:=what) Aw.out (zBY hr));have Ao:Hid (((A.see id).find id what).few):=oh (by have:=HF.out;rw[HV.out] at this;exact this);have HR:=oh hr;clear hr
   go_enter Tryz.func176, Tryz.ntmps176
   go_wp2_with (first
    | (at_mapUpdate;refine wpList_mapUpdate_own _ rfl _ _ _ 133 rfl 3 3 Tryz.intKeyed Tryz.seenU _ mb A.seen.length DM rfl HS.out (by have:=Bj.out;simp[maxLen];omega) _ _ (.int .i64 id) rfl rfl Ae (.lit (.int .i64 1)) [] (plainElem_int Tryz.underlying3 (by decide)) ?_;intro w1 A7 A0;have s1:zV w1 mb (A.seen++[id]):=⟨_,by rw[uC];exact A7,HI.out.put _ _,zV.put H3.out HI.out⟩;have Ab:=oh (zQ.saw HK.out id B4.out A0 s1);have B5:=oh ((zJ.ext (kb:=kb) (mb:=mb) (fv:=fv) (iv:=iv) (lv:=lv) Am.out).trans (zJ.saw A0));have Ay:=oh (Aj.out w1 A0);have y0:=Ab.out.blk.cell (o:=0) (v:=.pointer (some ⟨d,0,none⟩)) rfl;clear s1 A7 A0)
    | fail)
   refine (DkS.lasting_bad (HL.out.mods Ab.out.ext.ext) (HD.out.at Ab.out.ext) id HR.out).mono ?_;rintro e w2 ⟨b2,rfl,m2⟩;have B6:=oh (Ab.out.at m2);have Ak:=oh (B5.out.trans (zJ.ext m2));have Aj:=oh (Ay.out.ext m2);have Az:=oh (λW (m:Ext w2 W)=>zS (B6.out.at m) id what Ao.out);have Ap:=oh (λW (m:Ext w2 W)=>zJ.trans Ak.out (zJ.ext (kb:=kb) (mb:=mb) (fv:=fv) (iv:=iv) (lv:=lv) m));clear m2 y0 k6;unfold faultV;go_wp2_with fail;refine (Az.out _ (Mods.refl _ _)).mono ?_;rintro e w6 ⟨rfl,fv6,h6,m6⟩;have A4:=Aj.out.mods m6.1 B3.out;have Ac:=oh A4;have H6:=oh h6;have Aq:=oh ((Ap.out _ (Mods.refl _ _)).trans m6);have r0:=A4.cell (o:=0) (v:=.int .i64 0) rfl;have r1:=A4.cell (o:=1) (v:=.int .i64 0) rfl;have r2:=A4.cell (o:=2) (v:=.int .u64 0) rfl;have r3:=A4.cell (o:=3) (v:=.slice none 0 0) rfl;have rf:=A4.frozen;clear A4 h6 m6;go_wp2_with fail;have A5:w0.heap.size<=w.heap.size:=An.out;refine bodyPost_ret (results_row_tmp rfl _ _ w.heap.size 192 #[.int .i64 0,.int .i64 0,.int .u64 0,.slice none 0 0] _ rfl (Ac.out.set4 (.int .i64 0) (.int .i64 0) (.int .u64 0) (.slice none 0 0)) Tryz.underlying192 rfl Tryz.pageSize) rfl ?_;have m7:=Mods.set4 (F:=λk=>k=w.heap.size) (Mods.refl _ w6) (R:=w.heap.size) (.inr rfl) (.int .i64 0) (.int .i64 0) (.int .u64 0) (.slice none 0 0);have h7:=H6.out.other m7 (λk hk=>by subst hk;exact⟨A5,H6.out.notB Ac.out (by decide)⟩);rw[HV.out];exact⟨fv6,h7,Aq.out.res m7 (uA _),rfl⟩
  obtain⟨n,rfl⟩:∃n:Nat,id=(n:Int):=⟨id.toNat,by omega⟩;have hn:n<D.blocks:=by omega
  have HN:=oh hn;have HQ:=oh (zBJ hn);clear hr
  go_enter Tryz.func176, Tryz.ntmps176
  go_wp2_with (first
   | (at_mapUpdate;refine wpList_mapUpdate_own _ rfl _ _ _ 133 rfl 3 3 Tryz.intKeyed Tryz.seenU _ mb A.seen.length DM rfl HS.out (by have:=Bj.out;simp[maxLen];omega) _ _ (.int .i64 (n:Int)) rfl rfl Ae (.lit (.int .i64 1)) [] (plainElem_int Tryz.underlying3 (by decide)) ?_;intro w1 A7 A0;have s1:zV w1 mb (A.seen++[(n:Int)]):=⟨_,by rw[uC];exact A7,HI.out.put _ _,zV.put H3.out HI.out⟩;have Ab:=oh (zQ.saw HK.out (n:Int) B4.out A0 s1);have B5:=oh ((zJ.ext (kb:=kb) (mb:=mb) (fv:=fv) (iv:=iv) (lv:=lv) Am.out).trans (zJ.saw A0));have Ay:=oh (Aj.out w1 A0);have y0:=Ab.out.blk.cell (o:=0) (v:=.pointer (some ⟨d,0,none⟩)) rfl;clear s1 A7 A0)
   | fail)
  have Bk:Hid (Env (plusR (qH kb mb fv iv lv) w.heap.size) ad w1):=oh (Ab.out.envX HL.out An.out Ay.out.lt);refine (DkS.lasting Bk.out (HD.out.at Ab.out.ext) n HN.out).mono ?_;rintro e w2 ⟨v2,rfl,Bl,Bm,m2⟩;have B0:=oh (And.intro Bl Bm);have B6:=oh (Ab.out.at m2);have Ak:=oh (B5.out.trans (zJ.ext m2));have Aj:=oh (Ay.out.ext m2);have Bw:=oh (Bk.out.mods m2.ext);clear Bl Bm m2 y0 k6;go_wp2_with fail;refine (OpenAt_any Bw.out v2 _ B0.out.1 (by rw[B0.out.2];have:=Ah.out;omega) (by rw[B0.out.2];have:=Ah.out;omega) (n:Int)).mono ?_;rintro e w3 ⟨m3,B7⟩;have B8:=oh (B6.out.at m3);have Al:=oh (Aj.out.ext m3);have Az:=oh (λW (m:Ext w3 W)=>zS (B8.out.at m) (n:Int) what);have Ap:=oh (λW (m:Ext w3 W)=>zJ.trans Ak.out (zJ.ext (kb:=kb) (mb:=mb) (fv:=fv) (iv:=iv) (lv:=lv) (m3.trans m)));clear m3;rcases B7 with ⟨p,pv,hp,rfl,B9⟩|⟨pg,k,f,hp,rfl,hE⟩
  .have Bx:Hid (p.body.length<=1000):=oh (by have:=zAH hp;have:=B0.out.2;have:=Ah.out;omega);obtain⟨pk,pi,pgn,pb⟩:=p;obtain⟨pa,pc,rfl, -⟩:=_root_.id B9;have HP:Hid (zP D (n:Int)=some ⟨pk,pi,pgn,pb⟩):=oh (by rw[HQ.out,hp]);have By:=oh B9;unfold pageV;have m4:Ext w3 (w3.alloc (.cells #[.int .i64 pk,.int .i64 pi,.int .u64 (pgn:Int),.slice pa pb.length pc] 192)):=(Mods.refl _ w3).alloc _;have k1:=(B8.out.at m4).blk.cell (o:=1) (v:=.int .u64 (s.gen:Int)) rfl;have Bn:=oh m4;clear hp B9 m4;by_cases hg:s.gen<pgn
   .have Bz:decide ((s.gen:Int)<(pgn:Int))=true:=by rw[decide_eq_true];omega
    have HV:=oh (yP (what:=what) Aw.out HP.out hg);have Ao:Hid (((A.see (n:Int)).find (n:Int) what).few):=oh (by have:=HF.out;rw[HV.out] at this;exact this);go_wp2_with fail;go_quiet (fail)
    have HX:Hid (Ext w3 ((w3.alloc (.cells #[.int .i64 pk,.int .i64 pi,.int .u64 (pgn:Int),.slice pa pb.length pc] 192)).drewN nq)):=oh (Bn.out.drewN nq);go_wp2_with fail;refine (Az.out _ HX.out Ao.out).mono ?_;rintro e w6 ⟨rfl,fv6,h6,m6⟩;have A4:=(Al.out.ext HX.out).mods m6.1 B3.out;have Ac:=oh A4;have H6:=oh h6;have Aq:=oh ((Ap.out _ HX.out).trans m6);have r0:=A4.cell (o:=0) (v:=.int .i64 0) rfl;have r1:=A4.cell (o:=1) (v:=.int .i64 0) rfl;have r2:=A4.cell (o:=2) (v:=.int .u64 0) rfl;have r3:=A4.cell (o:=3) (v:=.slice none 0 0) rfl;have rf:=A4.frozen;clear A4 h6 m6;go_wp2_with fail;have A5:w0.heap.size<=w.heap.size:=An.out;refine bodyPost_ret (results_row_tmp rfl _ _ w.heap.size 192 #[.int .i64 0,.int .i64 0,.int .u64 0,.slice none 0 0] _ rfl (Ac.out.set4 (.int .i64 0) (.int .i64 0) (.int .u64 0) (.slice none 0 0)) Tryz.underlying192 rfl Tryz.pageSize) rfl ?_;have m7:=Mods.set4 (F:=λk=>k=w.heap.size) (Mods.refl _ w6) (R:=w.heap.size) (.inr rfl) (.int .i64 0) (.int .i64 0) (.int .u64 0) (.slice none 0 0);have h7:=H6.out.other m7 (λk hk=>by subst hk;exact⟨A5,H6.out.notB Ac.out (by decide)⟩);rw[HV.out];exact⟨fv6,h7,Aq.out.res m7 (uA _),rfl⟩
   .have Bz:decide ((s.gen:Int)<(pgn:Int))=false:=by rw[decide_eq_false];omega
    have HV:=oh (zW (what:=what) Aw.out HP.out hg);go_wp2_with fail;go_quiet (fail)
    have HX:Hid (Ext w3 ((w3.alloc (.cells #[.int .i64 pk,.int .i64 pi,.int .u64 (pgn:Int),.slice pa pb.length pc] 192)).drewN nq)):=oh (Bn.out.drewN nq);have A9:=Al.out.ext HX.out;have Bo:=oh A9;have C0:Blk (w3.alloc (.cells #[.int .i64 pk,.int .i64 pi,.int .u64 (pgn:Int),.slice pa pb.length pc] 192)) w3.heap.size #[.int .i64 pk,.int .i64 pi,.int .u64 (pgn:Int),.slice pa pb.length pc] 192:=Blk.new _ _ _;have Ar:=C0.ext ((Mods.refl (λ_=>False) _).drewN nq);have c0:=Ar.cell (o:=0) (v:=.int .i64 pk) rfl;have c1:=Ar.cell (o:=1) (v:=.int .i64 pi) rfl;have c2:=Ar.cell (o:=2) (v:=.int .u64 (pgn:Int)) rfl;have c3:=Ar.cell (o:=3) (v:=.slice pa pb.length pc) rfl;have r0:=A9.cell (o:=0) (v:=.int .i64 0) rfl;have r1:=A9.cell (o:=1) (v:=.int .i64 0) rfl;have r2:=A9.cell (o:=2) (v:=.int .u64 0) rfl;have r3:=A9.cell (o:=3) (v:=.slice none 0 0) rfl;have rf:=A9.frozen;clear A9 Ar;go_wp2_with fail;have A5:w0.heap.size<=w.heap.size:=An.out;refine bodyPost_ret (results_row_tmp rfl _ _ w.heap.size 192 #[.int .i64 pk,.int .i64 pi,.int .u64 (pgn:Int),.slice pa pb.length pc] _ rfl (Bo.out.set4 (.int .i64 pk) (.int .i64 pi) (.int .u64 (pgn:Int)) (.slice pa pb.length pc)) Tryz.underlying192 rfl Tryz.pageSize) rfl ?_;have m7:=Mods.set4 (F:=λk=>k=w.heap.size) (Mods.refl _ ((w3.alloc (.cells #[.int .i64 pk,.int .i64 pi,.int .u64 (pgn:Int),.slice pa pb.length pc] 192)).drewN nq)) (R:=w.heap.size) (.inr rfl) (.int .i64 pk) (.int .i64 pi) (.int .u64 (pgn:Int)) (.slice pa pb.length pc);have h5:=B8.out.at HX.out;have h7:=h5.other m7 (λk hk=>by subst hk;exact⟨A5,h5.notB Bo.out (by decide)⟩);rw[HV.out];exact⟨fv,h7,(Ap.out _ HX.out).res m7 (uA _),_,rfl,((By.out.ext HX.out).mods (m7.mono (λk e=>.inr e))).anti (λk _ hb=>.inl hb),Bx.out⟩
  .have HP:Hid (zP D (n:Int)=none):=oh (by rw[HQ.out,hp]);have HV:=oh (yO (gen:=s.gen) (what:=what) Aw.out HP.out);have Ao:Hid (((A.see (n:Int)).find (n:Int) what).few):=oh (by have:=HF.out;rw[HV.out] at this;exact this);clear hp hE;unfold pageV faultV;go_wp2_with fail;go_quiet (fail)
   have HX:Hid (Ext w3 ((w3.alloc (.cells #[.int .i64 0,.int .i64 0,.int .u64 0,.slice none 0 0] 192)).drewN nq)):=oh (((Mods.refl _ w3).alloc _).drewN nq);go_wp2_with fail;refine (Az.out _ HX.out Ao.out).mono ?_;rintro e w6 ⟨rfl,fv6,h6,m6⟩;have A4:=(Al.out.ext HX.out).mods m6.1 B3.out;have Ac:=oh A4;have H6:=oh h6;have Aq:=oh ((Ap.out _ HX.out).trans m6);have r0:=A4.cell (o:=0) (v:=.int .i64 0) rfl;have r1:=A4.cell (o:=1) (v:=.int .i64 0) rfl;have r2:=A4.cell (o:=2) (v:=.int .u64 0) rfl;have r3:=A4.cell (o:=3) (v:=.slice none 0 0) rfl;have rf:=A4.frozen;clear A4 h6 m6;go_wp2_with fail;have A5:w0.heap.size<=w.heap.size:=An.out;refine bodyPost_ret (results_row_tmp rfl _ _ w.heap.size 192 #[.int .i64 0,.int .i64 0,.int .u64 0,.slice none 0 0] _ rfl (Ac.out.set4 (.int .i64 0) (.int .i64 0) (.int .u64 0) (.slice none 0 0)) Tryz.underlying192 rfl Tryz.pageSize) rfl ?_;have m7:=Mods.set4 (F:=λk=>k=w.heap.size) (Mods.refl _ w6) (R:=w.heap.size) (.inr rfl) (.int .i64 0) (.int .i64 0) (.int .u64 0) (.slice none 0 0);have h7:=H6.out.other m7 (λk hk=>by subst hk;exact⟨A5,H6.out.notB Ac.out (by decide)⟩);rw[HV.out];exact⟨fv6,h7,Aq.out.res m7 (uA _),rfl⟩
end
section
variable {ad:Nat->Addr}{w0 w w' wr:World}{kb mb d:Nat}{s:SupA}{g:Int}{A:zA}{fv iv lv:Value}{P:Nat->Prop}{D:DiskA}
theorem zBO.form{X:zA × Option PageA}{e:Ending}(h:zBO w0 kb mb d s g fv iv lv w X e w'):∃fv',zQ w0 w' kb mb d s g X.1 fv' iv lv/\zJ kb mb fv iv lv fv' iv lv w w'/\((X.2=none/\e=.returned (.tuple #[.agg #[.int .i64 0,.int .i64 0,.int .u64 0,.slice none 0 0],.bool false])) \/
  ∃p pa pc,X.2=some p/\e=.returned (.tuple #[.agg #[.int .i64 p.kind,.int .i64 p.id,.int .u64 (p.gen:Int),.slice pa p.body.length pc],.bool true])/\Sl (qH kb mb fv' iv lv) w' 1 encB (.slice pa p.body.length pc) p.body/\p.body.length<=1000/\p.body.length<=pc/\pc<=9223372036854775807):=by
 obtain⟨fv',h1,h2,h3⟩:=h;refine⟨fv',h1,h2,?_⟩;obtain⟨A1,o⟩:=X;cases o with
 | none=>exact .inl ⟨rfl,h3⟩
 | some p =>
  obtain⟨pv,h4,h5,h6⟩:=h3;obtain⟨pa,pc,rfl,k1,k2, -⟩:=id h5;exact .inr ⟨p,pa,pc,rfl,h4,h5,h6,k1,by unfold maxLen at k2;omega⟩
theorem zAI(hL:Env NoB ad w0)(hD:DkS w0 P d D)(hz:256<=s.size/\s.size<=1024)(h:zQ w0 w kb mb d s g A fv iv lv)(e:EntryA)(he:qD e.chain)(hs:e.size<=4096)
  (hf:(zD (zP D) s.gen s.size e.size.toNat e.chain e.size A).1.few) :
  Calls Tryz.prog 179 #[.pointer (some ⟨kb,0,none⟩),.agg #[.string e.key,.string e.value,.int .i64 e.chain,.int .i64 e.size]] w λx w'=>x=.returned (.bool (zD (zP D) s.gen s.size e.size.toNat e.chain e.size A).2)/\zBM w0 kb mb d s g fv iv lv w (zD (zP D) s.gen s.size e.size.toNat e.chain e.size A).1 w':=by
 have m0:Ext w (w.alloc (.cells #[.string e.key,.string e.value,.int .i64 e.chain,.int .i64 e.size] 228)):=(Mods.refl _ w).alloc _;have hE:=Blk.new w #[.string e.key,.string e.value,.int .i64 e.chain,.int .i64 e.size] 228;have e2:=hE.cell (o:=2) (v:=.int .i64 e.chain) rfl;have e3:=hE.cell (o:=3) (v:=.int .i64 e.size) rfl;have H0:=oh (h.at m0);have Am:=oh m0;have HL:=oh hL;have HD:=oh hD;have HF:=oh hf;obtain⟨nn,C1⟩:∃nn,nn=s.size-28:=⟨_,rfl⟩;have Bp:(s.size:Int)-28=(nn:Int):=by omega
 have C2:=oh Bp;have Ba:228<=nn/\nn<=996:=by omega
 obtain⟨C3,C4⟩:=Ba;have Ax:(s.size:Int)=(nn:Int)+28:=by omega
 have Ch:(nn:Int)+28-24-4=(nn:Int):=by omega
 obtain⟨fuel,Bq⟩:∃f,f=e.size.toNat:=⟨_,rfl⟩;have Bb:e.size<=(fuel:Int):=by omega
 have C5:=oh he;rw[<- Bq] at HF ⊢;clear hE h m0 hL hD hf C1 Bp Bq he hz
 go_enter Tryz.func179, Tryz.ntmps179
 go_wp2_with fail;go_quiet (fail)
 go_wp2_with fail;go_loopg [5,6] fuel (λm idv nv wr=>∃(id1 n1:Int) (A1:zA) (fv1 iv1 lv1:Value),idv=.int .i64 id1/\nv=.int .i64 n1/\n1<=m/\n1<=4096 /\
  Hid (zQ w0 wr kb mb d s g A1 fv1 iv1 lv1/\zJ kb mb fv iv lv fv1 iv1 lv1 w wr/\qD id1/\zD (zP D) s.gen s.size m id1 n1 A1=zD (zP D) s.gen s.size fuel e.chain e.size A))
 case atStart=>exact⟨e.chain,e.size,A,fv,iv,lv,rfl,rfl,Bb,hs,oh ⟨H0.out.at ((Mods.refl _ _).drewN nq),zJ.ext (Am.out.drewN nq),C5.out,rfl⟩⟩
 case round =>
  obtain⟨id1,n1,A1,fv1,iv1,lv1,rfl,rfl,Ci,Cj,HW⟩:=hrel;by_cases C6:0<n1
  .obtain⟨m,rfl⟩:∃m,gk=m+1:=⟨gk-1,by omega⟩;have C7:Hid ((zG (zP D) s.gen A1 id1 4).1.few):=oh (by
    have h4:=HW.out.2.2.2;refine zA.le.few ?_ (h4 ▸ HF.out);have h5:=yT (zP D) s.gen A1 id1 4;rw[zD,if_neg (by omega)];cases ho:zG (zP D) s.gen A1 id1 4 with
    | mk A2 o =>
     cases o with
     | none=>exact A2.le_refl
     | some x =>
      simp only;split
      .exact zA.le_find _ _ _
      .exact (zA.le_good _ _).trans (yD _ _ _ _ _ _ _))
   go_wp2_with fail;refine (vK HL.out HD.out HW.out.1 id1 HW.out.2.2.1 4 C7.out).mono ?_;intro x w2 hx;obtain⟨fv2,h2,g2,hx⟩:=hx.form;have Ak:=oh (HW.out.2.1.trans g2);have H2:=oh h2;clear h2 g2;rcases hx with ⟨ho,rfl⟩|⟨p,pa,pc,ho,rfl,Bc,C8,C9,Ck⟩
   .have HO:Hid (zD (zP D) s.gen s.size fuel e.chain e.size A=((zG (zP D) s.gen A1 id1 4).1,false)):=oh (by
     rw[<- HW.out.2.2.2,zD,if_neg (by omega)];cases hq:zG (zP D) s.gen A1 id1 4 with
     | mk A2 o=>rw[hq] at ho;simp only at ho;subst ho;rfl)
    have HX:Hid (Ext w2 (w2.alloc (.cells #[.int .i64 0,.int .i64 0,.int .u64 0,.slice none 0 0] 192))):=oh ((Mods.refl _ w2).alloc _);clear ho;go_wp2_with fail;go_ret;rw[HO.out];exact⟨rfl,fv2,iv1,lv1,H2.out.at HX.out,Ak.out.trans (zJ.ext HX.out)⟩
   .obtain⟨A2,As⟩:∃A2,A2=(zG (zP D) s.gen A1 id1 4).1:=⟨_,rfl⟩;obtain⟨xk,xi,xg,xb⟩:=p;simp only at Bc C8 C9 ho;have HO:Hid (zD (zP D) s.gen s.size fuel e.chain e.size A=if pieceBad s.size ⟨xk,xi,xg,xb⟩ n1=true then (A2.find id1 4,false) else zD (zP D) s.gen s.size m ((takeF xb 0 4).1:Nat) (n1-min n1 ((s.size:Int)-28)) (A2.good id1)):=oh (by
     rw[<- HW.out.2.2.2,zD,if_neg (by omega)];cases hq:zG (zP D) s.gen A1 id1 4 with
     | mk A3 o=>rw[hq] at ho As;simp only at ho As;subst ho As;rfl)
    rw[<- As] at H2;have Ca:=oh Bc;obtain⟨wt,Cb⟩:∃wt:Nat,min n1 (nn:Int)=(wt:Int):=⟨(min n1 (nn:Int)).toNat,by omega⟩;have Cc:1<=wt:=by omega
    have Cd:(wt:Int)<=n1:=by omega
    have Ce:wt<=996:=by omega
    have B1:Hid (min n1 ((s.size:Int)-28)=(wt:Int)):=oh (by rw[C2.out];exact Cb);have Bd:Ext w2 (w2.alloc (.cells #[.int .i64 xk,.int .i64 xi,.int .u64 (xg:Int),.slice pa xb.length pc] 192)):=(Mods.refl _ w2).alloc _;have Be:=oh Bd;have k3:=(H2.out.at Bd).blk.cell (o:=3) (v:=.int .i64 (s.size:Int)) rfl;rw[Ax] at k3;have Al:=oh (Blk.new w2 #[.int .i64 xk,.int .i64 xi,.int .u64 (xg:Int),.slice pa xb.length pc] 192);have p3:=Al.out.cell (o:=3) (v:=.slice pa xb.length pc) rfl;clear ho As Bc Bd;go_wp2_with fail;have Cf:=oh ((H2.out.at Be.out).env HL.out);refine (Take_any Cf.out (.slice pa xb.length pc) xb (Ca.out.ext Be.out) 0 4 (by omega)).mono ?_;rintro e5 w5 ⟨ev,rfl,B2,Bf⟩;have Br:Hid (Ext w2 w5):=oh (Be.out.trans Bf);have A9:=Al.out.ext Bf;have p0:=A9.cell (o:=0) (v:=.int .i64 xk) rfl;have p3:=A9.cell (o:=3) (v:=.slice pa xb.length pc) rfl;have Bs:=takeF_lt xb;have H5:=oh (H2.out.at Br.out);have Ai:=oh (Ak.out.trans (zJ.ext Br.out));obtain⟨tk,Bg⟩:∃t,t=takeF xb 0 4:=⟨_,rfl⟩;rw[<- Bg] at B2 Bs HO ⊢;obtain⟨nx,o⟩:=tk;simp only at B2 Bs HO ⊢;have At:=oh Bg;have BAD:Hid (pieceBad s.size ⟨xk,xi,xg,xb⟩ n1=true->zD (zP D) s.gen s.size fuel e.chain e.size A=(A2.find id1 4,false)):=oh (λhb=>by rw[HO.out,if_pos hb]);have BADF:Hid (pieceBad s.size ⟨xk,xi,xg,xb⟩ n1=true -> Calls Tryz.prog 174 #[.pointer (some ⟨kb,0,none⟩),.int .i64 id1,.int .i64 4] w5 λe w'=>e=.returned (.tuple #[])/\∃fv',zQ w0 w' kb mb d s g (A2.find id1 4) fv' iv1 lv1/\zJ kb mb fv2 iv1 lv1 fv' iv1 lv1 w5 w'):=oh (λhb=>zS H5.out id1 4 (by have h7:=HF.out;rw[BAD.out hb] at h7;exact h7));clear Bg Bf A9 k3;cases o with
    | some er =>
     obtain⟨el,ek⟩:=er;obtain⟨f5,rfl,_⟩:=B2;have A8:Hid (pieceBad s.size ⟨xk,xi,xg,xb⟩ n1=true):=oh (by unfold pieceBad;rw[<- At.out];simp);unfold faultV;go_wp2_with fail;refine (BADF.out A8.out).mono ?_;rintro e6 w6 ⟨rfl,fv6,h6,g6⟩;have H6:=oh (And.intro h6 (Ai.out.trans g6));clear h6 g6;go_wp2_with fail;go_ret;rw[BAD.out A8.out];exact⟨rfl,fv6,iv1,lv1,H6.out.1,H6.out.2⟩
    | none =>
     cases B2
     by_cases Au:xk=4
     .subst Au;by_cases A6:(xb.length:Int)=4+(wt:Int)
      .have b1:((xb.length:Int) != 4+(wt:Int))=false:=by simp[A6]
       by_cases Aa:(nx=0) ↔ (n1=(wt:Int))
       .have A8:Hid (pieceBad s.size ⟨4,xi,xg,xb⟩ n1=false):=oh (by
         unfold pieceBad;rw[<- At.out,B1.out];by_cases h1:nx=0 <;> by_cases h2:n1=(wt:Int) <;> simp[h1,h2,A6] at Aa ⊢)
        have Bh:Hid (zD (zP D) s.gen s.size m (nx:Int) (n1-(wt:Int)) (A2.good id1)=zD (zP D) s.gen s.size fuel e.chain e.size A):=oh (by
         rw[HO.out,A8.out,if_neg (by simp),B1.out])
        have Bt:=oh (vI H5.out id1 (by
         have h7:=HF.out;rw[<- Bh.out] at h7;exact (yD _ _ _ _ _ _ _).few h7))
        have Av:Hid (qD (nx:Int)):=oh ((Lit.wf_int_iff .i64 _).2 (by simp[IntKind.min,IntKind.max,IntKind.signed,IntKind.bits];omega));by_cases h1:nx=0
        .subst h1;have h2:n1=(wt:Int):=Aa.1 rfl;subst h2;clear Aa A6;go_wp2_with fail;refine (Bt.out).mono ?_;rintro e6 w6 ⟨rfl,fv6,iv6,lv6,h6,g6⟩;have H6:=oh (And.intro h6 (Ai.out.trans g6));clear h6 g6;go_wp2_with fail;go_roundg m
         case measure=>omega
         case rel=>exact⟨((0:Nat):Int),(wt:Int)-(wt:Int),A2.good id1,fv6,iv6,lv6,by first|rfl|exact val_int (by omega),by first|rfl|exact val_int (by omega),by omega,by omega,oh ⟨H6.out.1,H6.out.2,Av.out,Bh.out⟩⟩
        .have h2:n1≠(wt:Int):=λe=>h1 (Aa.2 e)
         have b2:(n1 == (wt:Int))=false:=uH.2 h2;have b3:((nx:Int) == 0)=false:=uH.2 (by omega);clear Aa A6 h1 h2;go_wp2_with fail;refine (Bt.out).mono ?_;rintro e6 w6 ⟨rfl,fv6,iv6,lv6,h6,g6⟩;have H6:=oh (And.intro h6 (Ai.out.trans g6));clear h6 g6;go_wp2_with fail;go_roundg m
         case measure=>omega
         case rel=>exact⟨(nx:Int),n1-(wt:Int),A2.good id1,fv6,iv6,lv6,by first|rfl|exact val_int (by omega),by first|rfl|exact val_int (by omega),by omega,by omega,oh ⟨H6.out.1,H6.out.2,Av.out,Bh.out⟩⟩
       .have A8:Hid (pieceBad s.size ⟨4,xi,xg,xb⟩ n1=true):=oh (by
         unfold pieceBad;rw[<- At.out,B1.out];by_cases h1:nx=0 <;> by_cases h2:n1=(wt:Int) <;> simp[h1,h2] at Aa ⊢)
        by_cases h1:nx=0
        .subst h1;have h2:n1≠(wt:Int):=λe=>Aa ⟨λ_=>e,λ_=>rfl⟩
         have b2:(n1 == (wt:Int))=false:=uH.2 h2;clear Aa A6 h2;go_wp2_with fail;refine (BADF.out A8.out).mono ?_;rintro e6 w6 ⟨rfl,fv6,h6,g6⟩;have H6:=oh (And.intro h6 (Ai.out.trans g6));clear h6 g6;go_wp2_with fail;go_ret;rw[BAD.out A8.out];exact⟨rfl,fv6,iv1,lv1,H6.out.1,H6.out.2⟩
        .have h2:n1=(wt:Int):=Classical.byContradiction (λe=>Aa ⟨λh=>absurd h h1,λh=>absurd h e⟩);have b2:(n1 == (wt:Int))=true:=beq_iff_eq.2 h2;have b3:((nx:Int) == 0)=false:=uH.2 (by omega);clear Aa A6 h2;go_wp2_with fail;refine (BADF.out A8.out).mono ?_;rintro e6 w6 ⟨rfl,fv6,h6,g6⟩;have H6:=oh (And.intro h6 (Ai.out.trans g6));clear h6 g6;go_wp2_with fail;go_ret;rw[BAD.out A8.out];exact⟨rfl,fv6,iv1,lv1,H6.out.1,H6.out.2⟩
      .have b1:((xb.length:Int) != 4+(wt:Int))=true:=bne_iff_ne.2 A6;have b1':((xb.length:Int) == 4+(wt:Int))=false:=uH.2 A6;have A8:Hid (pieceBad s.size ⟨4,xi,xg,xb⟩ n1=true):=oh (by
        unfold pieceBad;rw[<- At.out,B1.out];simp[A6])
       clear A6;go_wp2_with fail;refine (BADF.out A8.out).mono ?_;rintro e6 w6 ⟨rfl,fv6,h6,g6⟩;have H6:=oh (And.intro h6 (Ai.out.trans g6));clear h6 g6;go_wp2_with fail;go_ret;rw[BAD.out A8.out];exact⟨rfl,fv6,iv1,lv1,H6.out.1,H6.out.2⟩
     .have b1:(xk != 4)=true:=bne_iff_ne.2 Au;have b1':(xk == 4)=false:=uH.2 Au;have A8:Hid (pieceBad s.size ⟨xk,xi,xg,xb⟩ n1=true):=oh (by
       unfold pieceBad;rw[<- At.out];simp[Au])
      clear Au;go_wp2_with fail;refine (BADF.out A8.out).mono ?_;rintro e6 w6 ⟨rfl,fv6,h6,g6⟩;have H6:=oh (And.intro h6 (Ai.out.trans g6));clear h6 g6;go_wp2_with fail;go_ret;rw[BAD.out A8.out];exact⟨rfl,fv6,iv1,lv1,H6.out.1,H6.out.2⟩
  .have HO:Hid (zD (zP D) s.gen s.size fuel e.chain e.size A=(A1,true)):=oh (by
    rw[<- HW.out.2.2.2];cases gk with
    | zero=>rfl
    | succ k=>rw[zD,if_pos (by omega)])
   go_wp2_with fail;go_ret;rw[HO.out];exact⟨rfl,fv1,iv1,lv1,HW.out.1,HW.out.2.1⟩
end
end Go.Proofs.YteabpacpngaoaaaGreatDoor
