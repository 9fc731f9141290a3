import Derived.Test.YtalpfcaakpgkmaaGreatDoorR35
import Derived.BigQuiet
import Derived.DataShut
import Derived.Test.YtalpfcaakpgkmaaGreatDoorR29
namespace Go.Proofs.YtalpfcaakpgkmaaGreatDoor
open Lib renaming hid->oh
set_option maxHeartbeats 8000000
set_option maxRecDepth 100000
open Go.RowKit Go.Maps
attribute [local go_sem ↓] Go.wp_at_zero Go.wp_at_succ
section
variable {ad:Nat->Addr}{w0 w w':World}{kb mb d:Nat}{s:yG}{g:Int}{A:yP}{fv iv lv:Value}{P:NP}{D:zJ}
theorem LkS.saw(h:LkS w0 w kb mb d s g A fv iv lv)(id:Int)(hf:(A.see id).few){w1:World}(hg:w.grownBy w1 (some mb))(hs:zCg w1 mb (A.seen++[id])):LkS w0 w1 kb mb d s g (A.see id) fv iv lv:=by
 have m:=zA.of_grown hg;refine⟨h.ext.trans' m (λi hi hq=>?_),h.new,?_,hs,h.rf.mods m (λg hg e=>yC.notM h.rf h.seen g hg (Option.some.inj e).symm),h.ri.mods m (λg hg e=>yC.notM h.ri h.seen g hg (Option.some.inj e).symm),h.rl.mods m (λg hg e=>yC.notM h.rl h.seen g hg (Option.some.inj e).symm),hf⟩
 .have:=h.new.2;injection hq with e;omega
 .exact h.blk.mods m (λe=>h.off (Option.some.inj e).symm)
theorem zAJ.saw{w1:World}(hg:w.grownBy w1 (some mb)):zAJ kb mb fv iv lv fv iv lv w w1 :=
 ⟨(zA.of_grown hg).mono (λ_k e=>.inr (.inl (Option.some.inj e).symm)),λ_ h=>.inl h⟩
theorem LkS.notB{R:Nat}{cc:Array Value}{t:TypeId}(h:LkS w0 w kb mb d s g A fv iv lv)(hB:zG w R cc t)(ht:t ≠ 101 /\ t ≠ 121 /\ t ≠ 3 /\ t ≠ 9):¬ LkB kb mb fv iv lv R:=by
 rintro (e|e|e|e|e)
 .subst e;have h1:w.heap[R]? = some (.cells cc t (0,0)):=hB;have h2:w.heap[R]? = some (.cells (lkC d mb s g A fv iv lv) 101 (0,0)):=h.blk;rw[h1] at h2;injection h2 with h2;injection h2 with _ h2;exact ht.1 h2
 .exact zG.notM hB h.seen e
 .exact yC.notB h.rf hB ht.2.1 _ e rfl
 .exact yC.notB h.ri hB ht.2.2.1 _ e rfl
 .exact yC.notB h.rl hB ht.2.2.2 _ e rfl
theorem LkS.other{Q:NP}(h:LkS w0 w kb mb d s g A fv iv lv)(m:zA Q w w')(hQ:∀k,Q k->w0.heap.size<=k/\¬ LkB kb mb fv iv lv k):LkS w0 w' kb mb d s g A fv iv lv :=
 ⟨h.ext.trans' m (λi hi hq=>by have:=(hQ i hq).1;omega),h.new,h.blk.mods m (λhq=>(hQ _ hq).2 (.inl rfl)),h.seen.mods m (λhq=>(hQ _ hq).2 (.inr (.inl rfl))),h.rf.mods m (λg hg hq=>(hQ _ hq).2 (.inr (.inr (.inl hg)))),h.ri.mods m (λg hg hq=>(hQ _ hq).2 (.inr (.inr (.inr (.inl hg))))),h.rl.mods m (λg hg hq=>(hQ _ hq).2 (.inr (.inr (.inr (.inr hg))))),h.few⟩
def zRA(w0:World)(kb mb d:Nat)(s:yG)(g:Int)(fv iv lv:Value)(w:World)(X:yP × Option zY)(e:Ending)(w':World):Prop :=
 ∃fv',LkS w0 w' kb mb d s g X.1 fv' iv lv/\zAJ kb mb fv iv lv fv' iv lv w w'/\match X.2 with
  | none=>e=.returned (.tuple #[qC ⟨0,0,0,[]⟩ (.slice none 0 0),.bool false])
  | some p=>∃pv,e=.returned (.tuple #[qC p pv,.bool true])/\Sl (LkB kb mb fv' iv lv) w' 1 zZ pv p.body/\p.body.length<=1000
theorem yP.few_see{A:yP}{id what:Int}(h:((A.see id).find id what).few):(A.see id).few:=by
 obtain⟨h1,h2,h3⟩:=h;refine⟨h1,?_,h3⟩;simp only[yP.find,yP.see,uC] at h2 ⊢;omega
theorem zMT{l:List UInt8}{id:Int}{p:zY}(h:zV l id=.inl p):p.body.length+24<=l.length:=by
 unfold zV at h;split at h
 .cases h
 .rename_i ho;split at h
  .cases h
  .injection h with h;subst h;have ho:zBq l=true:=by simpa using ho
   unfold zBq at ho;have hp:=(qO (by simpa using (Bool.and_eq_true_iff.1 ho).1)).2.2.2.2.2;omega
theorem zIs(hL:yH NoB ad w0)(hD:DkS w0 P d D)(h:LkS w0 w kb mb d s g A fv iv lv)(id:Int)(hid:zGF id)(what:Int)(hf:(jE (dkQ D) s.gen A id what).1.few) :
  Calls Tryz.prog 155 #[.pointer (some ⟨kb,0,none⟩),.int .i64 id,.int .i64 what] w (zRA w0 kb mb d s g fv iv lv w (jE (dkQ D) s.gen A id what)):=by
 have m0:zF w (w.alloc gE):=(zss w).alloc _;obtain⟨DM,h1,h2,h3⟩:=(h.at m0).seen;have HK:=oh (h.at m0);have HS:=oh h1;have HI:=oh h2;have H3:=oh h3;have A4:=hD.lim;have Ae:keyOf Tryz.prog 3 (.int .i64 id)=some (.int .i64 id):=keyOf_int_mk Tryz.underlying3 hid;obtain⟨cc,Cd,Af,Cy⟩:=h1.lookup_int Tryz.intKeyed Tryz.seenU Tryz.underlying3 (Tryz.intZero _) Ae;rw[h3 id] at Af;have A7:=oh (zG.new w gE 221);have Ap:=oh m0;by_cases hm:id∈A.seen
 .rw[if_pos hm] at Af;obtain rfl:cc=1:=by injection Af with e;injection e with _ e;exact e.symm
  have HV:=oh (zHK (Q:=dkQ D) (gen:=s.gen) (what:=what) hm);have k6:=HK.out.blk.d 6 (.map (some mb)) rfl;have r0:=A7.out.d 0 (.int .i64 0) rfl;have r1:=A7.out.d 1 (.int .i64 0) rfl;have r2:=A7.out.d 2 (.int .u64 0) rfl;have r3:=A7.out.d 3 (.slice none 0 0) rfl;have rf:=A7.out.frozen;clear Af h h1 h2 h3 hm hL hD A4 m0 hf hid
  go_enter Tryz.func155, Tryz.ntmps155
  go_wp2_with fail;refine bodyPost_ret (zC rfl _ _ w.heap.size 221 gE _ rfl A7.out Tryz.underlying221 rfl Tryz.pageSize) rfl ?_;rw[HV.out];exact⟨fv,HK.out,zAJ.ext Ap.out,rfl⟩
 .rw[if_neg hm] at Af;obtain rfl:cc=0:=by injection Af with e;injection e with _ e;exact e.symm
  have Am:=h.seen.lt;have Br:∀w1,(w.alloc gE).grownBy w1 (some mb)->zG w1 w.heap.size gE 221:=λw1 hg=>A7.out.mods (zA.of_grown hg) (λe=>by injection e with e;omega)
  have Ab:=oh Br;have Aq:Hid (w0.heap.size<=w.heap.size):=oh h.ext.size;have B8:Hid (¬ LkB kb mb fv iv lv w.heap.size):=oh (λhb=>by have:=(h.lt _ hb).2;omega);have A5:Hid ((A.see id).few):=oh (by
   cases hq:dkQ D id with
   | none=>rw[zCQ hm hq] at hf;exact yP.few_see hf
   | some p =>
    by_cases hg:s.gen<p.gen
    .rw[zEO hm hq hg] at hf;exact yP.few_see hf
    .rw[zBa hm hq hg] at hf;exact hf)
  have HL:=oh hL;have HD:=oh hD;have Ag:=oh A4;have B0:=oh hm;have HF:=oh hf;have Bs:A.seen.length<1000:=by
   have:=A5.out.1;simp only[yP.see,uC,uG,uL] at this;omega
  have Bt:=oh Bs;have k6:=HK.out.blk.d 6 (.map (some mb)) rfl;clear Af h h1 h2 h3 hm hL hD A4 m0 Br Am hf hid Bs;by_cases hr:id<0\/(D.blocks:Int)<=id
  .have HV:=oh (zCQ (gen:=s.gen) (what:=what) B0.out (zRp hr));have Ar:Hid (((A.see id).find id what).few):=oh (by have:=HF.out;rw[HV.out] at this;exact this);have HR:=oh hr;clear hr
   go_enter Tryz.func155, Tryz.ntmps155
   go_wp2_with (first
    | (at_mapUpdate;refine wpList_mapUpdate_own _ rfl _ _ _ 99 rfl 3 3 Tryz.intKeyed Tryz.seenU _ mb A.seen.length DM rfl HS.out (by have:=Bt.out;simp[maxLen];omega) _ _ (.int .i64 id) rfl rfl Ae (.lit (.int .i64 1)) [] (plainElem_int Tryz.underlying3 (by decide)) ?_;intro w1 A3 A0;have s1:zCg w1 mb (A.seen++[id]):=⟨_,by rw[uC];exact A3,HI.out.put _ _,zCg.put H3.out HI.out⟩;have A9:=oh (LkS.saw HK.out id A5.out A0 s1);have B9:=oh ((zAJ.ext (kb:=kb) (mb:=mb) (fv:=fv) (iv:=iv) (lv:=lv) Ap.out).trans (zAJ.saw A0));have B1:=oh (Ab.out w1 A0);have y0:=A9.out.blk.d 0 (.pointer (some ⟨d,0,none⟩)) rfl;clear s1 A3 A0)
    | fail)
   refine (DkS.lasting_bad (HL.out.mods A9.out.ext.ext) (HD.out.at A9.out.ext) id HR.out).mono ?_;rintro e w2 ⟨b2,rfl,m2⟩;have Ba:=oh (A9.out.at m2);have Bb:=oh (B9.out.trans (zAJ.ext m2));have Ab:=oh (B1.out.ext m2);have B2:=oh (λW (m:zF w2 W)=>zCR (Ba.out.at m) id what Ar.out);have As:=oh (λW (m:zF w2 W)=>zAJ.trans Bb.out (zAJ.ext (kb:=kb) (mb:=mb) (fv:=fv) (iv:=iv) (lv:=lv) m));clear m2 y0 k6;unfold zP;go_wp2_with fail;refine (B2.out _ zr).mono ?_;rintro e w6 ⟨rfl,fv6,h6,m6⟩;have A1:=Ab.out.mods m6.1 B8.out;have Ac:=oh A1;have H6:=oh h6;have At:=oh ((As.out _ zr).trans m6);have r0:=A1.d 0 (.int .i64 0) rfl;have r1:=A1.d 1 (.int .i64 0) rfl;have r2:=A1.d 2 (.int .u64 0) rfl;have r3:=A1.d 3 (.slice none 0 0) rfl;have rf:=A1.frozen;clear A1 h6 m6;go_wp2_with fail;have A2:w0.heap.size<=w.heap.size:=Aq.out;refine bodyPost_ret (zC rfl _ _ w.heap.size 221 gE _ rfl (Ac.out.set4 (.int .i64 0) (.int .i64 0) (.int .u64 0) (.slice none 0 0)) Tryz.underlying221 rfl Tryz.pageSize) rfl ?_;have m7:=zA.set4 (F:=λk=>k=w.heap.size) (zss w6) (R:=w.heap.size) (.inr rfl) (.int .i64 0) (.int .i64 0) (.int .u64 0) (.slice none 0 0);have h7:=H6.out.other m7 (λk hk=>by subst hk;exact⟨A2,H6.out.notB Ac.out (by decide)⟩);rw[HV.out];exact⟨fv6,h7,At.out.res m7 (uD _),rfl⟩
  obtain⟨n,rfl⟩:∃n:Nat,id=(n:Int):=⟨id.toNat,by omega⟩;have hn:n<D.blocks:=by omega
  have HN:=oh hn;have HQ:=oh (zNO hn);clear hr
  go_enter Tryz.func155, Tryz.ntmps155
  go_wp2_with (first
   | (at_mapUpdate;refine wpList_mapUpdate_own _ rfl _ _ _ 99 rfl 3 3 Tryz.intKeyed Tryz.seenU _ mb A.seen.length DM rfl HS.out (by have:=Bt.out;simp[maxLen];omega) _ _ (.int .i64 (n:Int)) rfl rfl Ae (.lit (.int .i64 1)) [] (plainElem_int Tryz.underlying3 (by decide)) ?_;intro w1 A3 A0;have s1:zCg w1 mb (A.seen++[(n:Int)]):=⟨_,by rw[uC];exact A3,HI.out.put _ _,zCg.put H3.out HI.out⟩;have A9:=oh (LkS.saw HK.out (n:Int) A5.out A0 s1);have B9:=oh ((zAJ.ext (kb:=kb) (mb:=mb) (fv:=fv) (iv:=iv) (lv:=lv) Ap.out).trans (zAJ.saw A0));have B1:=oh (Ab.out w1 A0);have y0:=A9.out.blk.d 0 (.pointer (some ⟨d,0,none⟩)) rfl;clear s1 A3 A0)
   | fail)
  have Bu:Hid (yH (qB (LkB kb mb fv iv lv) w.heap.size) ad w1):=oh (A9.out.envX HL.out Aq.out B1.out.lt);refine (DkS.lasting Bu.out (HD.out.at A9.out.ext) n HN.out).mono ?_;rintro e w2 ⟨v2,rfl,Bv,Bw,m2⟩;have B3:=oh (And.intro Bv Bw);have Ba:=oh (A9.out.at m2);have Bb:=oh (B9.out.trans (zAJ.ext m2));have Ab:=oh (B1.out.ext m2);have Ce:=oh (Bu.out.mods m2.ext);clear Bv Bw m2 y0 k6;go_wp2_with fail;refine (zDL Ce.out v2 _ B3.out.1 (by rw[B3.out.2];have:=Ag.out;omega) (by rw[B3.out.2];have:=Ag.out;omega) (n:Int)).mono ?_;rintro e w3 ⟨m3,Bc⟩;have Bd:=oh (Ba.out.at m3);have Be:=oh (Ab.out.ext m3);have B2:=oh (λW (m:zF w3 W)=>zCR (Bd.out.at m) (n:Int) what);have As:=oh (λW (m:zF w3 W)=>zAJ.trans Bb.out (zAJ.ext (kb:=kb) (mb:=mb) (fv:=fv) (iv:=iv) (lv:=lv) (m3.trans m)));clear m3;rcases Bc with ⟨p,pv,hp,rfl,Bf⟩|⟨pg,k,f,hp,rfl,hE⟩
  .have Bg:Hid (p.body.length<=1000):=oh (by have:=zMT hp;have:=B3.out.2;have:=Ag.out;omega);obtain⟨pk,pi,pgn,pb⟩:=p;obtain⟨pa,pc,rfl, -⟩:=_root_.id Bf;have HP:Hid (dkQ D (n:Int)=some ⟨pk,pi,pgn,pb⟩):=oh (by rw[HQ.out,hp]);have Bh:=oh Bf;unfold qC;have m4:zF w3 (w3.alloc (.cells #[.int .i64 pk,.int .i64 pi,.int .u64 (pgn:Int),.slice pa pb.length pc] 221)):=(zss w3).alloc _;have k1:=(Bd.out.at m4).blk.d 1 (.int .u64 (s.gen:Int)) rfl;have Bx:=oh m4;clear hp Bf m4;by_cases hg:s.gen<pgn
   .have Cf:decide ((s.gen:Int)<(pgn:Int))=true:=by rw[wL];omega
    have HV:=oh (zEO (what:=what) B0.out HP.out hg);have Ar:Hid (((A.see (n:Int)).find (n:Int) what).few):=oh (by have:=HF.out;rw[HV.out] at this;exact this);go_wp2_with fail;go_quiet (fail)
    have HX:Hid (zF w3 ((w3.alloc (.cells #[.int .i64 pk,.int .i64 pi,.int .u64 (pgn:Int),.slice pa pb.length pc] 221)).drewN nq)):=oh (Bx.out.drewN nq);go_wp2_with fail;refine (B2.out _ HX.out Ar.out).mono ?_;rintro e w6 ⟨rfl,fv6,h6,m6⟩;have A1:=(Be.out.ext HX.out).mods m6.1 B8.out;have Ac:=oh A1;have H6:=oh h6;have At:=oh ((As.out _ HX.out).trans m6);have r0:=A1.d 0 (.int .i64 0) rfl;have r1:=A1.d 1 (.int .i64 0) rfl;have r2:=A1.d 2 (.int .u64 0) rfl;have r3:=A1.d 3 (.slice none 0 0) rfl;have rf:=A1.frozen;clear A1 h6 m6;go_wp2_with fail;have A2:w0.heap.size<=w.heap.size:=Aq.out;refine bodyPost_ret (zC rfl _ _ w.heap.size 221 gE _ rfl (Ac.out.set4 (.int .i64 0) (.int .i64 0) (.int .u64 0) (.slice none 0 0)) Tryz.underlying221 rfl Tryz.pageSize) rfl ?_;have m7:=zA.set4 (F:=λk=>k=w.heap.size) (zss w6) (R:=w.heap.size) (.inr rfl) (.int .i64 0) (.int .i64 0) (.int .u64 0) (.slice none 0 0);have h7:=H6.out.other m7 (λk hk=>by subst hk;exact⟨A2,H6.out.notB Ac.out (by decide)⟩);rw[HV.out];exact⟨fv6,h7,At.out.res m7 (uD _),rfl⟩
   .have Cf:decide ((s.gen:Int)<(pgn:Int))=false:=by rw[wM];omega
    have HV:=oh (zBa (what:=what) B0.out HP.out hg);go_wp2_with fail;go_quiet (fail)
    have HX:Hid (zF w3 ((w3.alloc (.cells #[.int .i64 pk,.int .i64 pi,.int .u64 (pgn:Int),.slice pa pb.length pc] 221)).drewN nq)):=oh (Bx.out.drewN nq);have Ah:=Be.out.ext HX.out;have By:=oh Ah;have Cg:zG (w3.alloc (.cells #[.int .i64 pk,.int .i64 pi,.int .u64 (pgn:Int),.slice pa pb.length pc] 221)) w3.heap.size #[.int .i64 pk,.int .i64 pi,.int .u64 (pgn:Int),.slice pa pb.length pc] 221:=zG.new _ _ _;have Au:=Cg.ext ((zA.refl (λ_=>False) _).drewN nq);have c0:=Au.d 0 (.int .i64 pk) rfl;have c1:=Au.d 1 (.int .i64 pi) rfl;have c2:=Au.d 2 (.int .u64 (pgn:Int)) rfl;have c3:=Au.d 3 (.slice pa pb.length pc) rfl;have r0:=Ah.d 0 (.int .i64 0) rfl;have r1:=Ah.d 1 (.int .i64 0) rfl;have r2:=Ah.d 2 (.int .u64 0) rfl;have r3:=Ah.d 3 (.slice none 0 0) rfl;have rf:=Ah.frozen;clear Ah Au;go_wp2_with fail;have A2:w0.heap.size<=w.heap.size:=Aq.out;refine bodyPost_ret (zC rfl _ _ w.heap.size 221 #[.int .i64 pk,.int .i64 pi,.int .u64 (pgn:Int),.slice pa pb.length pc] _ rfl (By.out.set4 (.int .i64 pk) (.int .i64 pi) (.int .u64 (pgn:Int)) (.slice pa pb.length pc)) Tryz.underlying221 rfl Tryz.pageSize) rfl ?_;have m7:=zA.set4 (F:=λk=>k=w.heap.size) (zA.refl _ ((w3.alloc (.cells #[.int .i64 pk,.int .i64 pi,.int .u64 (pgn:Int),.slice pa pb.length pc] 221)).drewN nq)) (R:=w.heap.size) (.inr rfl) (.int .i64 pk) (.int .i64 pi) (.int .u64 (pgn:Int)) (.slice pa pb.length pc);have h5:=Bd.out.at HX.out;have h7:=h5.other m7 (λk hk=>by subst hk;exact⟨A2,h5.notB By.out (by decide)⟩);rw[HV.out];exact⟨fv,h7,(As.out _ HX.out).res m7 (uD _),_,rfl,((Bh.out.ext HX.out).mods (m7.mono (λk e=>.inr e))).anti (λk _ hb=>.inl hb),Bg.out⟩
  .have HP:Hid (dkQ D (n:Int)=none):=oh (by rw[HQ.out,hp]);have HV:=oh (zCQ (gen:=s.gen) (what:=what) B0.out HP.out);have Ar:Hid (((A.see (n:Int)).find (n:Int) what).few):=oh (by have:=HF.out;rw[HV.out] at this;exact this);clear hp hE;unfold qC zP;go_wp2_with fail;go_quiet (fail)
   have HX:Hid (zF w3 ((w3.alloc gE).drewN nq)):=oh (((zss w3).alloc _).drewN nq);go_wp2_with fail;refine (B2.out _ HX.out Ar.out).mono ?_;rintro e w6 ⟨rfl,fv6,h6,m6⟩;have A1:=(Be.out.ext HX.out).mods m6.1 B8.out;have Ac:=oh A1;have H6:=oh h6;have At:=oh ((As.out _ HX.out).trans m6);have r0:=A1.d 0 (.int .i64 0) rfl;have r1:=A1.d 1 (.int .i64 0) rfl;have r2:=A1.d 2 (.int .u64 0) rfl;have r3:=A1.d 3 (.slice none 0 0) rfl;have rf:=A1.frozen;clear A1 h6 m6;go_wp2_with fail;have A2:w0.heap.size<=w.heap.size:=Aq.out;refine bodyPost_ret (zC rfl _ _ w.heap.size 221 gE _ rfl (Ac.out.set4 (.int .i64 0) (.int .i64 0) (.int .u64 0) (.slice none 0 0)) Tryz.underlying221 rfl Tryz.pageSize) rfl ?_;have m7:=zA.set4 (F:=λk=>k=w.heap.size) (zss w6) (R:=w.heap.size) (.inr rfl) (.int .i64 0) (.int .i64 0) (.int .u64 0) (.slice none 0 0);have h7:=H6.out.other m7 (λk hk=>by subst hk;exact⟨A2,H6.out.notB Ac.out (by decide)⟩);rw[HV.out];exact⟨fv6,h7,At.out.res m7 (uD _),rfl⟩
end
section
variable {F:NP}{ad:Nat->Addr}{w0 w w' wr:World}{kb mb d:Nat}{s:yG}{m:qW}{g:Int}{A:yP}{fv iv lv:Value}{P:NP}{D:zJ}
theorem zNf(hL:yH F ad w)(h:zBM D s m)(bv:Value)(i:Nat)(hi:i<2)(hb:Sl F w 1 zZ bv (D.lasting.getD i []))(hl:(D.lasting.getD i []).length=D.size) :
  Calls Tryz.prog 96 #[bv,.int .i64 (i:Int)] w λe w'=>((yA D i=false/\e=.returned (.tuple #[yL s,.nilIface]))\/(yA D i=true/\∃f,e=.returned (.tuple #[yL sup0,zP f])))/\zF w w':=by
 have A4:=h.lim;refine (vF hL bv _ hb (by omega) (by omega) i hi (h.none hi)).mono ?_;rintro e w' ⟨ev,rfl,hE,hm⟩;rw[h.openS hi] at hE ⊢;refine⟨?_,hm⟩;cases hs:yA D i with
 | false =>
  rw[hs] at hE;cases hE
  exact .inl ⟨rfl,rfl⟩
 | true =>
  rw[hs] at hE;obtain⟨f,rfl, -⟩:=hE;exact .inr ⟨rfl,f,rfl⟩
def zE4(ad:Nat->Addr)(D:zJ)(s:yG):Prop:=∀(F:NP) (w:World) (av bv:Value),yH F ad w->Sl F w 1 zZ av (D.lasting.getD 0 [])->Sl F w 1 zZ bv (D.lasting.getD 1 [])->(D.lasting.getD 0 []).length=D.size->(D.lasting.getD 1 []).length=D.size ->
  Calls Tryz.prog 95 #[av,bv] w λe w'=>∃j:Int,e=.returned (.tuple #[yL s,.int .i64 j,.nilIface])/\zF w w'
theorem zNg(h:zBM D s m)(e0:yA D 0=false)(e1:yA D 1=false):zE4 ad D s:=by
 intro F w av bv hL ha hb Cz D0;have A4:=h.lim;have h0:=h.openS (i:=0) (by omega);have h1:=h.openS (i:=1) (by omega);have n0:=h.none (i:=0) (by omega);have n1:=h.none (i:=1) (by omega);obtain⟨sg,sb,sz,sr,sk⟩:=s;rw[e0,if_neg (by simp)] at h0;rw[e1,if_neg (by simp)] at h1;refine (zCo hL av bv _ _ ha hb (by omega) (by omega) (by omega) (by omega) n0 n1 h0 h1 (uD _)).mono ?_;rintro e w' ⟨ev,rfl,hE,hm⟩;cases hE
 exact⟨0,rfl,hm⟩
theorem zNh(hL:yH F ad w)(h:zBM D s m)(bv:Value)(k:Nat)(hk:k<2)(hb:Sl F w 1 zZ bv (D.lasting.getD (place s.gen k) []))(hl:(D.lasting.getD (place s.gen k) []).length=D.size) :
  Calls Tryz.prog 154 #[bv,.int .i64 (place s.gen k:Int),.int .u64 (s.gen:Int),.int .i64 (s.blocks:Int)] w λe w'=>∃(mg mb:Int) (ua:Option Addr) (un uc:Nat) (ev:Value),e=.returned (.tuple #[.agg #[.int .u64 mg,.int .i64 mb,.slice ua un uc],ev])/\((yA D (place s.gen k)=false/\ev=.nilIface)\/(yA D (place s.gen k)=true/\∃f,ev=zP f))/\zF w w':=by
 have A4:=h.lim;have hg:=h.gen;have hp:place s.gen k<6:=by unfold place;omega
 cases hs:yA D (place s.gen k) with
 | true =>
  refine (zHG hL (place s.gen k) s.gen s.blocks hp bv _ hb (by omega) (by omega) (zBG.1 hs)).mono ?_;rintro e w' ⟨f,rfl,hm⟩;exact⟨0,0,none,0,0,_,rfl,.inr ⟨rfl,f,rfl⟩,hm⟩
 | false =>
  have hr:D.lasting.getD (place s.gen k) []=yO m (place s.gen k) D.size:=by
   rcases h.map k hk with h|h
   .rw[hs] at h;cases h
   .exact h
  rw[hr] at hb;have Ch:zAw m.gen (place s.gen k)=true:=by
   rw[h.mgen];rcases (show k=0\/k=1 by omega) with rfl|rfl
   .exact zLd _
   .exact zLe _
  have hc:=zIR hL m h.mok (by rw[h.mgen];omega) (place s.gen k) D.size Ch (by omega) (by omega) bv hb;rw[h.mgen,h.mblk] at hc;refine hc.mono ?_;rintro e w' ⟨uv,rfl,ho,_,hm⟩;obtain⟨ua,uc,rfl, -⟩:=ho.form;exact⟨_,_,ua,_,uc,_,rfl,.inl ⟨rfl,rfl⟩,hm⟩
theorem LkS.headed(h:LkS w0 w kb mb d s g A fv iv lv)(G b z r k:Nat):LkS w0 ((((((w.setCell ⟨kb,1,none⟩ (.int .u64 (G:Int))).setCell ⟨kb,2,none⟩ (.int .i64 (b:Int))).setCell ⟨kb,3,none⟩ (.int .i64 (z:Int))).setCell ⟨kb,4,none⟩ (.int .i64 (r:Int))).setCell ⟨kb,5,none⟩ (.int .i64 (k:Int))).setCell ⟨kb,7,none⟩ (.int .u64 (G:Int))).drew kb mb d ⟨G,b,z,r,k⟩ (G:Int) A fv iv lv /\
  zAJ kb mb fv iv lv fv iv lv w ((((((w.setCell ⟨kb,1,none⟩ (.int .u64 (G:Int))).setCell ⟨kb,2,none⟩ (.int .i64 (b:Int))).setCell ⟨kb,3,none⟩ (.int .i64 (z:Int))).setCell ⟨kb,4,none⟩ (.int .i64 (r:Int))).setCell ⟨kb,5,none⟩ (.int .i64 (k:Int))).setCell ⟨kb,7,none⟩ (.int .u64 (G:Int))).drew:=by
 obtain⟨W,hW⟩:∃W,W=((((((w.setCell ⟨kb,1,none⟩ (.int .u64 (G:Int))).setCell ⟨kb,2,none⟩ (.int .i64 (b:Int))).setCell ⟨kb,3,none⟩ (.int .i64 (z:Int))).setCell ⟨kb,4,none⟩ (.int .i64 (r:Int))).setCell ⟨kb,5,none⟩ (.int .i64 (k:Int))).setCell ⟨kb,7,none⟩ (.int .u64 (G:Int))).drew:=⟨_,rfl⟩;have m:zA (λk=>k=kb) w W:=by
  rw[hW];exact (zA.setCell (F:=λj=>j=kb) (zA.setCell (F:=λj=>j=kb) (zA.setCell (F:=λj=>j=kb) (zA.setCell (F:=λj=>j=kb) (zA.setCell (F:=λj=>j=kb) (zA.setCell (F:=λj=>j=kb) (zss w) (p:=⟨kb,1,none⟩) (.inr rfl) _) (p:=⟨kb,2,none⟩) (.inr rfl) _) (p:=⟨kb,3,none⟩) (.inr rfl) _) (p:=⟨kb,4,none⟩) (.inr rfl) _) (p:=⟨kb,5,none⟩) (.inr rfl) _) (p:=⟨kb,7,none⟩) (.inr rfl) _).drew
 have hB:zG W kb (lkC d mb ⟨G,b,z,r,k⟩ (G:Int) A fv iv lv) 101:=by
  rw[hW];exact zG.drew (by simpa[lkC] using (((((h.blk.set 1 (.int .u64 (G:Int))).set 2 (.int .i64 (b:Int))).set 3 (.int .i64 (z:Int))).set 4 (.int .i64 (r:Int))).set 5 (.int .i64 (k:Int))).set 7 (.int .u64 (G:Int)))
 rw[<- hW];exact⟨⟨h.ext.trans' m (λi hi e=>by have:=h.new.1;omega),h.new,hB,h.seen.mods m (λe=>h.off e.symm),h.rf.mods m (λg hg e=>yC.notB h.rf h.blk (by decide) g hg e),h.ri.mods m (λg hg e=>yC.notB h.ri h.blk (by decide) g hg e),h.rl.mods m (λg hg e=>yC.notB h.rl h.blk (by decide) g hg e),h.few⟩,m.mono (λk e=>.inl e),λ_ h=>.inl h⟩
theorem Sl.lenE{α:Type}{sz:Nat}{enc:α->List Value}{a:Option Addr}{n c:Nat}{l:List α}(h:Sl F w sz enc (.slice a n c) l):l.length=n:=by
 obtain⟨_,_,he,_⟩:=h;injection he with _ he;exact he.symm
abbrev zNi(z:Nat)(x:Option Addr × Nat):Value:=.slice x.1 z x.2
structure zK2(w0 w wr:World)(kb mb d:Nat)(D:zJ)(s:yG)(fv iv lv:Value)(R R7:Nat)(cs:Array Value)(G:Nat->Option Addr × Nat)(l:List (Int × Int))(fv1 iv1 lv1:Value):Prop where
 st:LkS w0 wr kb mb d s (s.gen:Int) (yP.hd l) fv1 iv1 lv1
 go:zAJ kb mb fv iv lv fv1 iv1 lv1 w wr
 rb:zG wr R cs 260
 rn:¬ LkB kb mb fv1 iv1 lv1 R
 sb:zG wr R7 #[.int .u64 (s.gen:Int),.int .i64 (s.blocks:Int),.int .i64 (s.size:Int),.int .i64 (s.root:Int),.int .i64 (s.keys:Int)] 55
 sn:¬ LkB kb mb fv1 iv1 lv1 R7
 cs:∀j,j<6->cs[j]? = some (zNi D.size (G j))/\Sl (LkB kb mb fv1 iv1 lv1) wr 1 zZ (zNi D.size (G j)) (D.lasting.getD j [])
theorem zK2.nxt{w2:World}{R R7:Nat}{cs:Array Value}{G:Nat->Option Addr × Nat}{l l2:List (Int × Int)}{fv1 iv1 lv1 fv2 iv2 lv2:Value}(h:zK2 w0 w wr kb mb d D s fv iv lv R R7 cs G l fv1 iv1 lv1)(h2:LkS w0 w2 kb mb d s (s.gen:Int) (yP.hd l2) fv2 iv2 lv2)(g2:zAJ kb mb fv1 iv1 lv1 fv2 iv2 lv2 wr w2):zK2 w0 w w2 kb mb d D s fv iv lv R R7 cs G l2 fv2 iv2 lv2 :=
 ⟨h2,h.go.trans g2,(g2.blk h.rb h.rn).1,(g2.blk h.rb h.rn).2,(g2.blk h.sb h.sn).1,(g2.blk h.sb h.sn).2,λj hj=>⟨(h.cs j hj).1,g2.sl (h.cs j hj).2⟩⟩
theorem zK2.ext{w2:World}{R R7:Nat}{cs:Array Value}{G:Nat->Option Addr × Nat}{l:List (Int × Int)}{fv1 iv1 lv1:Value}(h:zK2 w0 w wr kb mb d D s fv iv lv R R7 cs G l fv1 iv1 lv1)(m:zF wr w2):zK2 w0 w w2 kb mb d D s fv iv lv R R7 cs G l fv1 iv1 lv1:=h.nxt (h.st.at m) (zAJ.ext m)
theorem zPZ(hL:yH NoB ad w0)(hD:DkS w0 P d D)(hH:zBM D s m)(hC:zE4 ad D s)(h:LkS w0 w kb mb d sup0 0 (yP.hd []) fv iv lv) :
  Calls Tryz.prog 92 #[.pointer (some ⟨kb,0,none⟩)] w λe w'=>e=.returned .nilIface/\zQw w0 kb mb d s (s.gen:Int) fv iv lv w (yP.hd (zC0 D s.gen)) w':=by
 have HL:=oh hL;have HD:=oh hD;have HH:=oh hH;have Ci:=oh hC;have H:=oh h;obtain⟨z8,zQV,z3,z4⟩:=hH.lim;obtain⟨DZ,Bz⟩:∃n,n=D.size:=⟨_,rfl⟩;have Ai:=oh Bz;have m0:zF w (w.alloc (.cells #[.slice none 0 0,.slice none 0 0,.slice none 0 0,.slice none 0 0,.slice none 0 0,.slice none 0 0] 260)):=(zss w).alloc _;have Ap:=oh m0;have A7:=oh (zG.new w #[.slice none 0 0,.slice none 0 0,.slice none 0 0,.slice none 0 0,.slice none 0 0,.slice none 0 0] 260);obtain⟨R,hR⟩:∃R,R=w.heap.size:=⟨_,rfl⟩;have D1:R≠kb:=λe=>by have:=h.blk.lt;omega
 have Cj:Hid (¬ LkB kb mb fv iv lv R):=oh (λhb=>by have:=(h.lt _ hb).2;omega);have Bi:Hid (R=w.heap.size):=oh hR;rw[<- hR] at A7;clear hL hD hH hC h m0 Bz
 go_enter Tryz.func92, Tryz.ntmps92
 go_wp2_with fail;rw[<- hR];clear hR;go_loopg [17] 6 (λq v17 wr=>∃(k:Nat) (G:Nat->Option Addr × Nat) (cs:Array Value),k+q=6/\v17=.int .i64 (k:Int)/\Hid (zF w wr/\zG wr R cs 260 /\ (∀j,j<k->cs[j]? = some (zNi DZ (G j))/\Sl (qB (LkB kb mb fv iv lv) R) wr 1 zZ (zNi DZ (G j)) (D.lasting.getD j []))/\∀j,k<=j->j<6->cs[j]? = some (.slice none 0 0)))
 case atStart=>exact⟨0,λ_=>(none,0),_,by omega,rfl,oh ⟨Ap.out,A7.out,λj hj=>by omega,λj _ hj=>by
  match j,hj with
  | 0,_=>rfl
  | 1,_=>rfl
  | 2,_=>rfl
  | 3,_=>rfl
  | 4,_=>rfl
  | 5,_=>rfl⟩⟩
 case round =>
  obtain⟨k,G,cs,hk,rfl,HQ⟩:=hrel;by_cases Am:k<6
  .have i0:(0:Int)<=(k:Int):=by omega
   have i6:(k:Int)<6:=by omega
   have c0:=(H.out.at HQ.out.1).blk.d 0 (.pointer (some ⟨d,0,none⟩)) rfl;have Ck:=oh (DkS.lasting ((H.out.at HQ.out.1).envX HL.out (X:=R) (by have:=Bi.out;have:=H.out.ext.size;omega) HQ.out.2.1.lt) (HD.out.at (H.out.ext.trans HQ.out.1)) k (by omega));go_wp2_with fail;refine Ck.out.mono ?_;rintro e w2 ⟨v,rfl,B4,Av,hm⟩;obtain⟨va,vc,rfl, -⟩:=id B4;rw[Av,<- Ai.out] at B4 ⊢;have Cl:=oh B4;have Cm:=oh (HQ.out.1.trans hm);have HM2':=oh hm;have B5:=HQ.out.2.1.ext hm;have Ab:=oh B5;have r0:=B5.d k (.slice none 0 0) (HQ.out.2.2.2 k (uD _) Am);have rf:=B5.frozen;clear B4 Av hm B5 c0;go_wp2_with fail;go_roundg (gk-1)
   case measure=>omega
   case rel =>
    have Cn:k<cs.size:=(tC.1 (HQ.out.2.2.2 k (uD _) Am)).1;have m3:zA (λj=>j=R) w2 (w2.setCell ⟨R,k,none⟩ (.slice va DZ vc)):=zA.setCell (F:=λj=>j=R) (zss w2) (p:=⟨R,k,none⟩) (.inr rfl) _;refine⟨k+1,λj=>if j=k then (va,vc) else G j,cs.setIfInBounds k (.slice va DZ vc),by omega,by go_num,oh ⟨Cm.out.trans' m3 (λi hi e=>by have:=Bi.out;omega),Ab.out.set k _,λj hj=>?_,λj hj Co=>?_⟩⟩
    .by_cases e:j=k
     .subst e;refine⟨by simp[Cn],?_⟩;simp only[tU];exact Cl.out.mods (m3.mono (λi e=>.inr e))
     .obtain⟨q1,q2⟩:=HQ.out.2.2.1 j (by omega);refine⟨?_,?_⟩
      .simp only[if_neg e];rw[<- q1,rC (λe'=>e e'.symm)]
      .simp only[if_neg e];exact (q2.ext HM2'.out).mods (m3.mono (λi e=>.inr e))
    .rw[rC (by omega)];exact HQ.out.2.2.2 j (by omega) Co
  .obtain rfl:k=6:=by omega
   obtain⟨p0,q0⟩:=HQ.out.2.2.1 0 (by omega);obtain⟨p1,q1⟩:=HQ.out.2.2.1 1 (by omega);have r0:=HQ.out.2.1.cell p0;have r1:=HQ.out.2.1.cell p1;have HE:=oh ((H.out.at HQ.out.1).envX HL.out (X:=R) (by have:=Bi.out;have:=H.out.ext.size;omega) HQ.out.2.1.lt);have C0:=oh (Ci.out _ _ _ _ HE.out q0 q1 (q0.lenE.trans Ai.out) (q1.lenE.trans Ai.out));have HW:=oh HQ.out.1;have Cp:=oh HQ.out.2.1;have Cq:=oh HQ.out.2.2.1;clear p0 p1 q0 q1 HQ;go_wp2_with fail;refine C0.out.mono ?_;rintro e w5 ⟨j5,rfl,Bj⟩;have C1:Hid (yL s=.agg #[.int .u64 (s.gen:Int),.int .i64 (s.blocks:Int),.int .i64 (s.size:Int),.int .i64 (s.root:Int),.int .i64 (s.keys:Int)]):=oh rfl;rw[C1.out];obtain⟨W6,B6⟩:∃W,W=w5.alloc (.cells #[.int .u64 (s.gen:Int),.int .i64 (s.blocks:Int),.int .i64 (s.size:Int),.int .i64 (s.root:Int),.int .i64 (s.keys:Int)] 55):=⟨_,rfl⟩;obtain⟨R7,Bk⟩:∃R,R=w5.heap.size:=⟨_,rfl⟩;have m6:zF wr W6:=by rw[B6];exact Bj.alloc _
   have C2:zG W6 R7 #[.int .u64 (s.gen:Int),.int .i64 (s.blocks:Int),.int .i64 (s.size:Int),.int .i64 (s.root:Int),.int .i64 (s.keys:Int)] 55:=by rw[B6,Bk];exact zG.new w5 _ _
   have Bl:=oh C2;have B7:=oh m6;have Cr:Hid (¬ LkB kb mb fv iv lv R7):=oh (λhb=>by have:=((H.out.at HW.out).lt _ hb).2;have:=Bj.size;omega);clear r0 r1 Bj m6 C2;go_wp2_with fail;rw[<- B6,<- Bk];have A6:=oh (λW (m:zF W6 W)=>(⟨((H.out.at (HW.out.trans B7.out)).at m).blk.cell rfl,(Bl.out.ext m).cell rfl,(Bl.out.ext m).cell rfl⟩:W.cell? ⟨kb,0,none⟩=some (.pointer (some ⟨d,0,none⟩))/\W.cell? ⟨R7,1,none⟩=some (.int .i64 (s.blocks:Int))/\W.cell? ⟨R7,2,none⟩=some (.int .i64 (s.size:Int))));have zd:=A6.out _ (zss W6).drew;have Cs:Hid (∀W,DkS W P d D -> Calls Tryz.prog 47 #[.pointer (some ⟨d,0,none⟩)] W λe w'=>e=.returned (.agg #[.int .i64 (s.blocks:Int),.int .i64 (s.size:Int)])/\zF W w'):=oh (λW m=>by have:=m.geo;rw[<- HH.out.blk,<- HH.out.siz] at this;exact this);have Ct:=oh (HD.out.at (H.out.ext.trans (HW.out.trans B7.out)));have eqg:∀(a b c d:Int) (w:World),(Op.equalIn 10000 53 (.agg #[.int .i64 a,.int .i64 b]) (.agg #[.int .i64 c,.int .i64 d])).run Tryz.prog w=.ok (decide (a=c) && decide (b=d)) w:=λa b c d w=>Tryz.eqGeo 9998 a b c d w
   clear B6 Bk;go_region_held3 (λw'=>w'.cell? ⟨kb,0,none⟩=some (.pointer (some ⟨d,0,none⟩))/\w'.cell? ⟨R7,1,none⟩=some (.int .i64 (s.blocks:Int))/\w'.cell? ⟨R7,2,none⟩=some (.int .i64 (s.size:Int)))
    (first|(with_reducible exact zd)|(with_reducible exact z5)|fail)
    (first
     | (go_at_call 47;(with_reducible refine (Cs.out _ (Ct.out.at (zss W6).drew)).mono ?_);rintro e w7 ⟨rfl,m7⟩;have xw7:=(zss W6).drew.trans m7;have z5:=A6.out _ xw7)
     | fail)
   have Ad:=oh (H.out.at ((HW.out.trans B7.out).trans xw7));have Aj:=Bl.out.ext xw7;have Cu:=oh Aj;have Bm:=oh (B7.out.trans xw7);have s0:=Aj.d 0 (.int .u64 (s.gen:Int)) rfl;have s1:=Aj.d 1 (.int .i64 (s.blocks:Int)) rfl;have s2:=Aj.d 2 (.int .i64 (s.size:Int)) rfl;have s3:=Aj.d 3 (.int .i64 (s.root:Int)) rfl;have s4:=Aj.d 4 (.int .i64 (s.keys:Int)) rfl;have k1:=Ad.out.blk.d 1 (.int .u64 0) rfl;have k2:=Ad.out.blk.d 2 (.int .i64 0) rfl;have k3:=Ad.out.blk.d 3 (.int .i64 0) rfl;have k4:=Ad.out.blk.d 4 (.int .i64 0) rfl;have k5:=Ad.out.blk.d 5 (.int .i64 0) rfl;have k7:=Ad.out.blk.d 7 (.int .u64 0) rfl;have kf:=Ad.out.blk.frozen;clear zd z5 xw7 m7 Aj;go_wp2_with fail;go_region
   obtain⟨h8,g8⟩:=Ad.out.headed s.gen s.blocks s.size s.root s.keys;obtain⟨W8,C3⟩:∃W,W=((((((w7.setCell ⟨kb,1,none⟩ (.int .u64 (s.gen:Int))).setCell ⟨kb,2,none⟩ (.int .i64 (s.blocks:Int))).setCell ⟨kb,3,none⟩ (.int .i64 (s.size:Int))).setCell ⟨kb,4,none⟩ (.int .i64 (s.root:Int))).setCell ⟨kb,5,none⟩ (.int .i64 (s.keys:Int))).setCell ⟨kb,7,none⟩ (.int .u64 (s.gen:Int))).drew:=⟨_,rfl⟩;rw[<- C3] at h8 g8 ⊢;have Cv:Hid (zK2 w0 w W8 kb mb d D s fv iv lv R R7 cs G [] fv iv lv):=oh (by
    have C4:=g8.blk ((Cp.out.ext Bm.out)) Cj.out;have Aa:=g8.blk Cu.out Cr.out;refine⟨h8,(zAJ.ext (HW.out.trans Bm.out)).trans g8,C4.1,C4.2,Aa.1,Aa.2,λj hj=>?_⟩;obtain⟨e1,e2⟩:=Cq.out j hj;rw[Ai.out] at e1 e2;exact⟨e1,g8.sl ((e2.anti (λ_ _ hb=>.inl hb)).ext Bm.out)⟩)
   have eqs:∀(w:World),(Op.equalIn 10000 55 (.agg #[.int .u64 (s.gen:Int),.int .i64 (s.blocks:Int),.int .i64 (s.size:Int),.int .i64 (s.root:Int),.int .i64 (s.keys:Int)]) (.agg #[.int .u64 (s.gen:Int),.int .i64 (s.blocks:Int),.int .i64 (s.size:Int),.int .i64 (s.root:Int),.int .i64 (s.keys:Int)])).run Tryz.prog w=.ok true w:=λw=>Tryz.eqSuper 9997 _ _ _ _ _ w
   clear h8 g8 C3 s0 s1 s2 s3 s4 k1 k2 k3 k4 k5 k7 kf C0 HE;go_wp2_with fail;go_loopg [68] 2 (λq v68 wr=>∃(k:Nat) (fv1 iv1 lv1:Value),k+q=2/\v68=.int .i64 (k:Int)/\Hid (zK2 w0 w wr kb mb d D s fv iv lv R R7 cs G (zGM D k) fv1 iv1 lv1))
   case atStart=>exact⟨0,fv,iv,lv,rfl,rfl,oh Cv.out⟩
   case round =>
    obtain⟨k,fv1,iv1,lv1,hk,rfl,HQ⟩:=hrel;by_cases Am:k<2
    .obtain⟨e1,e2⟩:=HQ.out.cs k (by omega);have r0:=HQ.out.rb.cell e1;have i0:(0:Int)<=(k:Int):=by omega
     have i6:(k:Int)<6:=by omega
     have i2:(k:Int)<2:=by omega
     have An:=oh (zNf (HQ.out.st.env HL.out) HH.out _ k Am e2 e2.lenE);have Ao:=oh (zGk D k);rw[<- Ai.out] at r0 An;clear e1 e2;go_wp2_with fail;refine An.out.mono ?_;rintro e w9 ⟨⟨hs,rfl⟩|⟨hs,f,rfl⟩,Ak⟩
     .rw[C1.out];have m10:zF wr (w9.alloc (.cells #[.int .u64 (s.gen:Int),.int .i64 (s.blocks:Int),.int .i64 (s.size:Int),.int .i64 (s.root:Int),.int .i64 (s.keys:Int)] 55)):=Ak.alloc _;have HN:=oh (HQ.out.ext m10);have Aa:=HN.out.sb;have s0:=Aa.d 0 (.int .u64 (s.gen:Int)) rfl;have s1:=Aa.d 1 (.int .i64 (s.blocks:Int)) rfl;have s2:=Aa.d 2 (.int .i64 (s.size:Int)) rfl;have s3:=Aa.d 3 (.int .i64 (s.root:Int)) rfl;have s4:=Aa.d 4 (.int .i64 (s.keys:Int)) rfl;have A5:Hid (zGM D (k+1)=zGM D k):=oh (by rw[Ao.out,hs];simp);clear Ak m10 Aa hs r0;go_wp2_with fail;go_roundg (gk-1)
      case measure=>omega
      case rel=>exact⟨k+1,fv1,iv1,lv1,by omega,by go_num,oh (by rw[A5.out];exact HN.out)⟩
     .have Bn:Hid (yL sup0=.agg #[.int .u64 0,.int .i64 0,.int .i64 0,.int .i64 0,.int .i64 0]):=oh rfl;rw[Bn.out];have m10:zF wr (w9.alloc (.cells #[.int .u64 0,.int .i64 0,.int .i64 0,.int .i64 0,.int .i64 0] 55)):=Ak.alloc _;have HN:=oh (HQ.out.ext m10);have Bo:=zIi D (k+1);have A5:Hid (zGM D (k+1)=zGM D k++[((k:Int),1)]):=oh (by rw[Ao.out,hs];simp);have Aw:=oh (zCR HN.out.st (k:Int) 1 (by rw[yP.hd_find _ _ _ (by decide),<- A5.out];exact yP.hd_few (by omega)));rw[yP.hd_find _ _ _ (by decide),<- A5.out] at Aw;unfold zP;clear Ak m10 hs r0 Bo;go_wp2_with fail;refine Aw.out.mono ?_;rintro e w11 ⟨rfl,fv11,Ax,g11⟩;have Al:=oh (HN.out.nxt Ax g11);clear Ax g11;go_wp2_with fail;go_roundg (gk-1)
      case measure=>omega
      case rel=>exact⟨k+1,fv11,iv1,lv1,by omega,by go_num,oh Al.out⟩
    .obtain rfl:k=2:=by omega
     have s0:=HQ.out.sb.d 0 (.int .u64 (s.gen:Int)) rfl;have Bg:=oh (λw'=>zDN s.gen (by have:=HH.out.gen;omega) w');go_wp2_with fail;refine (Bg.out _).mono ?_;rintro e w9 ⟨rfl,Ak⟩;have Bh:Hid (zC3 s.gen=.agg #[.int .i64 (place s.gen 0:Int),.int .i64 (place s.gen 1:Int)]):=oh rfl;rw[Bh.out];have C5:Hid (∀k:Nat,k<2->∀w,(Instr.index 181 (.agg #[.int .i64 (place s.gen 0:Int),.int .i64 (place s.gen 1:Int)]) (.int .i64 (k:Int))).run Tryz.prog w=.ok (.int .i64 (place s.gen k:Int)) w):=oh (λk hk w=>by
      rcases (show k=0\/k=1 by omega) with rfl|rfl
      .exact Tryz.idx2_0 _ _ w
      .exact Tryz.idx2_1 _ _ w)
     have Cw:=oh (HQ.out.ext Ak);obtain⟨P0,C6⟩:∃p,p=place s.gen 0:=⟨_,rfl⟩;obtain⟨P1,C7⟩:∃p,p=place s.gen 1:=⟨_,rfl⟩;rw[<- C6,<- C7] at C5 ⊢;clear C6 C7 Ak s0;go_wp2_with fail;go_loopg [93] 2 (λq v93 wr=>∃(k:Nat) (fv1 iv1 lv1:Value),k+q=2/\v93=.int .i64 (k:Int)/\Hid (zK2 w0 w wr kb mb d D s fv iv lv R R7 cs G (zGM D 2++zHY D s.gen k) fv1 iv1 lv1))
     case atStart=>exact⟨0,fv1,iv1,lv1,rfl,rfl,oh (by have e:zHY D s.gen 0=[]:=rfl;rw[e,wJ];exact Cw.out)⟩
     case round =>
      obtain⟨k,fv2,iv2,lv2,D2,rfl,A8⟩:=hrel;by_cases Ay:k<2
      .have C8:=C5.out k Ay;obtain⟨pk,Az⟩:∃p,p=place s.gen k:=⟨_,rfl⟩;have Bp:=oh Az;have Cx:pk<6:=by rw[Az];unfold place;omega
       rw[<- Az] at C8;obtain⟨e1,e2⟩:=A8.out.cs pk Cx;have i0:(0:Int)<=(pk:Int):=by omega
       have i6:(pk:Int)<6:=by omega
       have i2:(k:Int)<2:=by omega
       have i20:(0:Int)<=(k:Int):=by omega
       have An:=oh (λW (m:zF wr W)=>zNh ((A8.out.st.at m).env HL.out) HH.out (zNi D.size (G pk)) k Ay (by rw[<- Bp.out];exact e2.ext m) (by rw[<- Bp.out];exact e2.lenE));rw[<- Az,<- Ai.out] at An;have A6:=oh (λW (m:zF wr W)=>(⟨(A8.out.rb.ext m).cell e1,(A8.out.sb.ext m).cell rfl,(A8.out.sb.ext m).cell rfl⟩:W.cell? ⟨R,pk,none⟩=some (zNi D.size (G pk))/\W.cell? ⟨R7,0,none⟩=some (.int .u64 (s.gen:Int))/\W.cell? ⟨R7,1,none⟩=some (.int .i64 (s.blocks:Int))));rw[<- Ai.out] at A6;have zd:=A6.out _ (zss wr).drew;have za:=A6.out _ ((zss wr).alloc (.cells #[.int .u64 0,.int .i64 0,.slice none 0 0] 133)).drew;have n1:R≠wr.heap.size:=λe=>by have:=A8.out.rb.lt;omega
       have n2:R7≠wr.heap.size:=λe=>by have:=A8.out.sb.lt;omega
       clear Az e1 e2;go_wp2_with fail;go_region_held3 (λw'=>w'.cell? ⟨R,pk,none⟩=some (zNi DZ (G pk))/\w'.cell? ⟨R7,0,none⟩=some (.int .u64 (s.gen:Int))/\w'.cell? ⟨R7,1,none⟩=some (.int .i64 (s.blocks:Int)))
        (first|(with_reducible exact zd)|(with_reducible exact z5)|(with_reducible exact z7)|(with_reducible exact z6)|(with_reducible exact za)|fail)
        (first
         | (go_at_call 154;((with_reducible refine (An.out _ (zss wr).drew).mono ?_);rintro e w9 ⟨mgx,mbx,ua,un,uc,ev,rfl,C9,m9⟩;have x9:=(zss wr).drew.trans m9;have z5:=A6.out _ x9;have z7:=A6.out _ (x9.alloc (.cells #[.int .u64 0,.int .i64 0,.slice none 0 0] 133));have hB:zG (w9.alloc (.cells #[.int .u64 0,.int .i64 0,.slice none 0 0] 133)) w9.heap.size #[.int .u64 0,.int .i64 0,.slice none 0 0] 133:=zG.new w9 _ _;have b0:=hB.d 0 (.int .u64 0) rfl;have b1:=hB.d 1 (.int .i64 0) rfl;have b2:=hB.d 2 (.slice none 0 0) rfl;have bf:=hB.frozen;have lo:wr.heap.size<=w9.heap.size:=x9.size;have z6:=A6.out _ (x9.alloc (.cells #[.int .u64 mgx,.int .i64 mbx,.slice ua un uc] 133));have Ca:∃w3,w3=w9.alloc (.cells #[.int .u64 mgx,.int .i64 mbx,.slice ua un uc] 133)/\zF wr w3:=⟨_,rfl,x9.alloc _⟩))
         | (go_at_call 154;((with_reducible refine (An.out _ ((zss wr).alloc (.cells #[.int .u64 0,.int .i64 0,.slice none 0 0] 133)).drew).mono ?_);rintro e w9 ⟨mgx,mbx,ua,un,uc,ev,rfl,C9,m9⟩;have x9:=((zss wr).alloc (.cells #[.int .u64 0,.int .i64 0,.slice none 0 0] 133)).drew.trans m9;have z5:=A6.out _ x9;have z7:=z5;have hB:zG w9 wr.heap.size #[.int .u64 0,.int .i64 0,.slice none 0 0] 133:=zG.ext (w:=(wr.alloc (.cells #[.int .u64 0,.int .i64 0,.slice none 0 0] 133)).drew) (zG.new wr _ _) m9;have b0:=hB.d 0 (.int .u64 0) rfl;have b1:=hB.d 1 (.int .i64 0) rfl;have b2:=hB.d 2 (.slice none 0 0) rfl;have bf:=hB.frozen;have lo:wr.heap.size<=wr.heap.size:=uD _;have z6:=A6.out _ (zA.set3 (F:=λ_=>False) x9 (R:=wr.heap.size) (.inl lo) (.int .u64 mgx) (.int .i64 mbx) (.slice ua un uc));have Ca:∃w3,w3=((w9.setCell ⟨wr.heap.size,0,none⟩ (.int .u64 mgx)).setCell ⟨wr.heap.size,1,none⟩ (.int .i64 mbx)).setCell ⟨wr.heap.size,2,none⟩ (.slice ua un uc)/\zF wr w3:=⟨_,rfl,zA.set3 (F:=λ_=>False) x9 (R:=wr.heap.size) (.inl lo) (.int .u64 mgx) (.int .i64 mbx) (.slice ua un uc)⟩))
         | fail)
       all_goals
        obtain⟨w3,Cb,Cc⟩:=Ca;rw[<- Cb];have HN:=oh (A8.out.ext Cc);have Ao:=oh (zGl D s.gen k);rw[<- Bp.out] at Ao;clear Cb Cc zd za z5 z7 z6 x9 m9 hB b0 b1 b2 bf lo n1 n2 C8;rcases C9 with ⟨hs,rfl⟩|⟨hs,f,rfl⟩
        .have A5:Hid (zHY D s.gen (k+1)=zHY D s.gen k):=oh (by rw[Ao.out,hs];simp);clear hs;go_wp2_with fail;go_roundg (gk-1)
         case measure=>omega
         case rel=>exact⟨k+1,fv2,iv2,lv2,by omega,by go_num,oh (by rw[A5.out];exact HN.out)⟩
        .have Bo:=zMC D s.gen (k+1);have Bq:=zIi D 2;have A5:Hid (zGM D 2++zHY D s.gen (k+1)=zGM D 2++zHY D s.gen k++[((pk:Int),2)]):=oh (by rw[Ao.out,hs,uN];simp);have Aw:=oh (zCR HN.out.st (pk:Int) 2 (by rw[yP.hd_find _ _ _ (by decide),<- A5.out];exact yP.hd_few (by rw[uC];omega)));rw[yP.hd_find _ _ _ (by decide),<- A5.out] at Aw;unfold zP;clear hs Bo Bq;go_wp2_with fail;refine Aw.out.mono ?_;rintro e w11 ⟨rfl,fv11,Ax,g11⟩;have Al:=oh (HN.out.nxt Ax g11);clear Ax g11;go_wp2_with fail;go_roundg (gk-1)
         case measure=>omega
         case rel=>exact⟨k+1,fv11,iv2,lv2,by omega,by go_num,oh Al.out⟩
      .obtain rfl:k=2:=by omega
       go_wp2_with fail;go_ret;exact⟨rfl,fv2,iv2,lv2,A8.out.st,A8.out.go⟩
end
end Go.Proofs.YtalpfcaakpgkmaaGreatDoor
