import Derived.Test.YteabpacpngaoaaaGreatDoorC57
import Derived.DataShut
namespace Go.Proofs.YteabpacpngaoaaaGreatDoor
open Lib renaming hid->oh
set_option maxHeartbeats 4000000
set_option maxRecDepth 100000
open Go.RowKit Go.Maps
attribute [local go_sem ↓] Go.wp_at_zero Go.wp_at_succ
section
variable {ad:Nat->Addr}{w0 w w':World}{kb mb d:Nat}{s:yM}{g:Int}{A:yQ}{fv iv lv:Value}{P:Nat->Prop}{D:zI}
theorem LkS.saw(h:LkS w0 w kb mb d s g A fv iv lv)(id:Int)(hf:(A.see id).few){w1:World}(hg:w.grownBy w1 (some mb))(hs:zCY w1 mb (A.seen++[id])):LkS w0 w1 kb mb d s g (A.see id) fv iv lv:=by
 have m:=zA.of_grown hg;refine⟨h.ext.trans' m (λi hi hq=>?_),h.new,?_,hs,h.rf.mods m (λg hg e=>yC.notM h.rf h.seen g hg (Option.some.inj e).symm),h.ri.mods m (λg hg e=>yC.notM h.ri h.seen g hg (Option.some.inj e).symm),h.rl.mods m (λg hg e=>yC.notM h.rl h.seen g hg (Option.some.inj e).symm),hf⟩
 .have:=h.new.2;injection hq with e;omega
 .exact h.blk.mods m (λe=>h.off (Option.some.inj e).symm)
theorem zAA.saw{w1:World}(hg:w.grownBy w1 (some mb)):zAA kb mb fv iv lv fv iv lv w w1 :=
 ⟨(zA.of_grown hg).mono (λ_k e=>.inr (.inl (Option.some.inj e).symm)),λ_ h=>.inl h⟩
theorem LkS.notB{R:Nat}{cc:Array Value}{t:TypeId}(h:LkS w0 w kb mb d s g A fv iv lv)(hB:zH w R cc t)(ht:t ≠ 135 /\ t ≠ 137 /\ t ≠ 3 /\ t ≠ 9):¬ LkB kb mb fv iv lv R:=by
 rintro (e|e|e|e|e)
 .subst e;have h1:w.heap[R]? = some (.cells cc t (0,0)):=hB;have h2:w.heap[R]? = some (.cells (lkC d mb s g A fv iv lv) 135 (0,0)):=h.blk;rw[h1] at h2;injection h2 with h2;injection h2 with _ h2;exact ht.1 h2
 .exact zH.notM hB h.seen e
 .exact yC.notB h.rf hB ht.2.1 _ e rfl
 .exact yC.notB h.ri hB ht.2.2.1 _ e rfl
 .exact yC.notB h.rl hB ht.2.2.2 _ e rfl
theorem LkS.other{Q:Nat->Prop}(h:LkS w0 w kb mb d s g A fv iv lv)(m:zA Q w w')(hQ:∀k,Q k->w0.heap.size<=k/\¬ LkB kb mb fv iv lv k):LkS w0 w' kb mb d s g A fv iv lv :=
 ⟨h.ext.trans' m (λi hi hq=>by have:=(hQ i hq).1;omega),h.new,h.blk.mods m (λhq=>(hQ _ hq).2 (.inl rfl)),h.seen.mods m (λhq=>(hQ _ hq).2 (.inr (.inl rfl))),h.rf.mods m (λg hg hq=>(hQ _ hq).2 (.inr (.inr (.inl hg)))),h.ri.mods m (λg hg hq=>(hQ _ hq).2 (.inr (.inr (.inr (.inl hg))))),h.rl.mods m (λg hg hq=>(hQ _ hq).2 (.inr (.inr (.inr (.inr hg))))),h.few⟩
def zQR(w0:World)(kb mb d:Nat)(s:yM)(g:Int)(fv iv lv:Value)(w:World)(X:yQ × Option zX)(e:Ending)(w':World):Prop :=
 ∃fv',LkS w0 w' kb mb d s g X.1 fv' iv lv/\zAA kb mb fv iv lv fv' iv lv w w'/\match X.2 with
  | none=>e=.returned (.tuple #[qA ⟨0,0,0,[]⟩ (.slice none 0 0),.bool false])
  | some p=>∃pv,e=.returned (.tuple #[qA p pv,.bool true])/\Sl (LkB kb mb fv' iv lv) w' 1 zZ pv p.body/\p.body.length<=1000
theorem yQ.few_see{A:yQ}{id what:Int}(h:((A.see id).find id what).few):(A.see id).few:=by
 obtain⟨h1,h2,h3⟩:=h;refine⟨h1,?_,h3⟩;simp only[yQ.find,yQ.see,List.length_append] at h2 ⊢;omega
theorem zLr{l:List UInt8}{id:Int}{p:zX}(h:zQ l id=.inl p):p.body.length+24<=l.length:=by
 unfold zQ at h;split at h
 .cases h
 .rename_i ho;split at h
  .cases h
  .injection h with h;subst h;have ho:zBO l=true:=by simpa using ho
   unfold zBO at ho;have hp:=(yZ (by simpa using (Bool.and_eq_true_iff.1 ho).1)).2.2.2.2.2;omega
theorem zIN(hL:yG NoB ad w0)(hD:jT w0 P d D)(h:LkS w0 w kb mb d s g A fv iv lv)(id:Int)(hid:zFz id)(what:Int)(hf:(vT (dkQ D) s.gen A id what).1.few) :
  Calls Tryz.prog 176 #[.pointer (some ⟨kb,0,none⟩),.int .i64 id,.int .i64 what] w (zQR w0 kb mb d s g fv iv lv w (vT (dkQ D) s.gen A id what)):=by
 have m0:zF w (w.alloc (.cells #[.int .i64 0,.int .i64 0,.int .u64 0,.slice none 0 0] 192)):=(zA.refl _ w).alloc _;obtain⟨DM,h1,h2,h3⟩:=(h.at m0).seen;have HK:=oh (h.at m0);have HS:=oh h1;have HI:=oh h2;have H3:=oh h3;have hlim:=hD.lim;have hkey:keyOf Tryz.prog 3 (.int .i64 id)=some (.int .i64 id):=keyOf_int_mk Tryz.underlying3 hid;obtain⟨cc,hrun,hat,hwf⟩:=h1.lookup_int Tryz.intKeyed Tryz.seenU Tryz.underlying3 (Tryz.intZero _) hkey;rw[h3 id] at hat;have HB0:=oh (zH.new w #[.int .i64 0,.int .i64 0,.int .u64 0,.slice none 0 0] 192);have HM0:=oh m0;by_cases hm:id∈A.seen
 .rw[if_pos hm] at hat;obtain rfl:cc=1:=by injection hat with e;injection e with _ e;exact e.symm
  have HV:=oh (zGv (Q:=dkQ D) (gen:=s.gen) (what:=what) hm);have k6:=HK.out.blk.cell (o:=6) (v:=.map (some mb)) rfl;have r0:=HB0.out.cell (o:=0) (v:=.int .i64 0) rfl;have r1:=HB0.out.cell (o:=1) (v:=.int .i64 0) rfl;have r2:=HB0.out.cell (o:=2) (v:=.int .u64 0) rfl;have r3:=HB0.out.cell (o:=3) (v:=.slice none 0 0) rfl;have rf:=HB0.out.frozen;clear hat h h1 h2 h3 hm hL hD hlim m0 hf hid
  go_enter Tryz.func176, Tryz.ntmps176
  go_wp2_with fail;refine bodyPost_ret (zC rfl _ _ w.heap.size 192 #[.int .i64 0,.int .i64 0,.int .u64 0,.slice none 0 0] _ rfl HB0.out Tryz.underlying192 rfl Tryz.pageSize) rfl ?_;rw[HV.out];exact⟨fv,HK.out,zAA.ext HM0.out,rfl⟩
 .rw[if_neg hm] at hat;obtain rfl:cc=0:=by injection hat with e;injection e with _ e;exact e.symm
  have hlt:=h.seen.lt;have hb2:∀w1,(w.alloc (.cells #[.int .i64 0,.int .i64 0,.int .u64 0,.slice none 0 0] 192)).grownBy w1 (some mb)->zH w1 w.heap.size #[.int .i64 0,.int .i64 0,.int .u64 0,.slice none 0 0] 192:=λw1 hg=>HB0.out.mods (zA.of_grown hg) (λe=>by injection e with e;omega)
  have HB2:=oh hb2;have HBS:Hid (w0.heap.size<=w.heap.size):=oh h.ext.size;have HNB:Hid (¬ LkB kb mb fv iv lv w.heap.size):=oh (λhb=>by have:=(h.lt _ hb).2;omega);have HFS:Hid ((A.see id).few):=oh (by
   cases hq:dkQ D id with
   | none=>rw[zEA hm hq] at hf;exact yQ.few_see hf
   | some p =>
    by_cases hg:s.gen<p.gen
    .rw[zEB hm hq hg] at hf;exact yQ.few_see hf
    .rw[zCZ hm hq hg] at hf;exact hf)
  have HL:=oh hL;have HD:=oh hD;have HLIM:=oh hlim;have HNM:=oh hm;have HF:=oh hf;have hsn:A.seen.length<1000:=by
   have:=HFS.out.1;simp only[yQ.see,List.length_append,List.length_cons,List.length_nil] at this;omega
  have HSN:=oh hsn;have k6:=HK.out.blk.cell (o:=6) (v:=.map (some mb)) rfl;clear hat h h1 h2 h3 hm hL hD hlim m0 hb2 hlt hf hid hsn;by_cases hr:id<0\/(D.blocks:Int)<=id
  .have HV:=oh (zEA (gen:=s.gen) (what:=what) HNM.out (zQ8 hr));have HFB:Hid (((A.see id).find id what).few):=oh (by have:=HF.out;rw[HV.out] at this;exact this);have HR:=oh hr;clear hr
   go_enter Tryz.func176, Tryz.ntmps176
   go_wp2_with (first
    | (at_mapUpdate;refine wpList_mapUpdate_own _ rfl _ _ _ 133 rfl 3 3 Tryz.intKeyed Tryz.seenU _ mb A.seen.length DM rfl HS.out (by have:=HSN.out;simp[maxLen];omega) _ _ (.int .i64 id) rfl rfl hkey (.lit (.int .i64 1)) [] (plainElem_int Tryz.underlying3 (by decide)) ?_;intro w1 hown1 hgrow1;have s1:zCY w1 mb (A.seen++[id]):=⟨_,by rw[List.length_append];exact hown1,HI.out.put _ _,zCY.put H3.out HI.out⟩;have HS1:=oh (LkS.saw HK.out id HFS.out hgrow1 s1);have HG1:=oh ((zAA.ext (kb:=kb) (mb:=mb) (fv:=fv) (iv:=iv) (lv:=lv) HM0.out).trans (zAA.saw hgrow1));have HB1:=oh (HB2.out w1 hgrow1);have y0:=HS1.out.blk.cell (o:=0) (v:=.pointer (some ⟨d,0,none⟩)) rfl;clear s1 hown1 hgrow1)
    | fail)
   refine (jT.lasting_bad (HL.out.mods HS1.out.ext.ext) (HD.out.at HS1.out.ext) id HR.out).mono ?_;rintro e w2 ⟨b2,rfl,m2⟩;have HS2:=oh (HS1.out.at m2);have HG2:=oh (HG1.out.trans (zAA.ext m2));have HB2:=oh (HB1.out.ext m2);have HFD:=oh (λW (m:zF w2 W)=>zCE (HS2.out.at m) id what HFB.out);have HGX:=oh (λW (m:zF w2 W)=>zAA.trans HG2.out (zAA.ext (kb:=kb) (mb:=mb) (fv:=fv) (iv:=iv) (lv:=lv) m));clear m2 y0 k6;unfold zL;go_wp2_with fail;refine (HFD.out _ (zA.refl _ _)).mono ?_;rintro e w6 ⟨rfl,fv6,h6,m6⟩;have hB6:=HB2.out.mods m6.1 HNB.out;have HB6:=oh hB6;have H6:=oh h6;have HG6:=oh ((HGX.out _ (zA.refl _ _)).trans m6);have r0:=hB6.cell (o:=0) (v:=.int .i64 0) rfl;have r1:=hB6.cell (o:=1) (v:=.int .i64 0) rfl;have r2:=hB6.cell (o:=2) (v:=.int .u64 0) rfl;have r3:=hB6.cell (o:=3) (v:=.slice none 0 0) rfl;have rf:=hB6.frozen;clear hB6 h6 m6;go_wp2_with fail;have hbase:w0.heap.size<=w.heap.size:=HBS.out;refine bodyPost_ret (zC rfl _ _ w.heap.size 192 #[.int .i64 0,.int .i64 0,.int .u64 0,.slice none 0 0] _ rfl (HB6.out.set4 (.int .i64 0) (.int .i64 0) (.int .u64 0) (.slice none 0 0)) Tryz.underlying192 rfl Tryz.pageSize) rfl ?_;have m7:=zA.set4 (F:=λk=>k=w.heap.size) (zA.refl _ w6) (R:=w.heap.size) (.inr rfl) (.int .i64 0) (.int .i64 0) (.int .u64 0) (.slice none 0 0);have h7:=H6.out.other m7 (λk hk=>by subst hk;exact⟨hbase,H6.out.notB HB6.out (by decide)⟩);rw[HV.out];exact⟨fv6,h7,HG6.out.res m7 (Nat.le_refl _),rfl⟩
  obtain⟨n,rfl⟩:∃n:Nat,id=(n:Int):=⟨id.toNat,by omega⟩;have hn:n<D.blocks:=by omega
  have HN:=oh hn;have HQ:=oh (zQM hn);clear hr
  go_enter Tryz.func176, Tryz.ntmps176
  go_wp2_with (first
   | (at_mapUpdate;refine wpList_mapUpdate_own _ rfl _ _ _ 133 rfl 3 3 Tryz.intKeyed Tryz.seenU _ mb A.seen.length DM rfl HS.out (by have:=HSN.out;simp[maxLen];omega) _ _ (.int .i64 (n:Int)) rfl rfl hkey (.lit (.int .i64 1)) [] (plainElem_int Tryz.underlying3 (by decide)) ?_;intro w1 hown1 hgrow1;have s1:zCY w1 mb (A.seen++[(n:Int)]):=⟨_,by rw[List.length_append];exact hown1,HI.out.put _ _,zCY.put H3.out HI.out⟩;have HS1:=oh (LkS.saw HK.out (n:Int) HFS.out hgrow1 s1);have HG1:=oh ((zAA.ext (kb:=kb) (mb:=mb) (fv:=fv) (iv:=iv) (lv:=lv) HM0.out).trans (zAA.saw hgrow1));have HB1:=oh (HB2.out w1 hgrow1);have y0:=HS1.out.blk.cell (o:=0) (v:=.pointer (some ⟨d,0,none⟩)) rfl;clear s1 hown1 hgrow1)
   | fail)
  have HE1:Hid (yG (qE (LkB kb mb fv iv lv) w.heap.size) ad w1):=oh (HS1.out.envX HL.out HBS.out HB1.out.lt);refine (jT.lasting HE1.out (HD.out.at HS1.out.ext) n HN.out).mono ?_;rintro e w2 ⟨v2,rfl,hv2,hl2,m2⟩;have HV2:=oh (And.intro hv2 hl2);have HS2:=oh (HS1.out.at m2);have HG2:=oh (HG1.out.trans (zAA.ext m2));have HB2:=oh (HB1.out.ext m2);have HE2:=oh (HE1.out.mods m2.ext);clear hv2 hl2 m2 y0 k6;go_wp2_with fail;refine (zC6 HE2.out v2 _ HV2.out.1 (by rw[HV2.out.2];have:=HLIM.out;omega) (by rw[HV2.out.2];have:=HLIM.out;omega) (n:Int)).mono ?_;rintro e w3 ⟨m3,hres⟩;have HS3:=oh (HS2.out.at m3);have HB3:=oh (HB2.out.ext m3);have HFD:=oh (λW (m:zF w3 W)=>zCE (HS3.out.at m) (n:Int) what);have HGX:=oh (λW (m:zF w3 W)=>zAA.trans HG2.out (zAA.ext (kb:=kb) (mb:=mb) (fv:=fv) (iv:=iv) (lv:=lv) (m3.trans m)));clear m3;rcases hres with ⟨p,pv,hp,rfl,hpv⟩|⟨pg,k,f,hp,rfl,hE⟩
  .have HPL:Hid (p.body.length<=1000):=oh (by have:=zLr hp;have:=HV2.out.2;have:=HLIM.out;omega);obtain⟨pk,pi,pgn,pb⟩:=p;obtain⟨pa,pc,rfl, -⟩:=_root_.id hpv;have HP:Hid (dkQ D (n:Int)=some ⟨pk,pi,pgn,pb⟩):=oh (by rw[HQ.out,hp]);have HPV:=oh hpv;unfold qA;have m4:zF w3 (w3.alloc (.cells #[.int .i64 pk,.int .i64 pi,.int .u64 (pgn:Int),.slice pa pb.length pc] 192)):=(zA.refl _ w3).alloc _;have k1:=(HS3.out.at m4).blk.cell (o:=1) (v:=.int .u64 (s.gen:Int)) rfl;have HM4:=oh m4;clear hp hpv m4;by_cases hg:s.gen<pgn
   .have hgi:decide ((s.gen:Int)<(pgn:Int))=true:=by rw[decide_eq_true];omega
    have HV:=oh (zEB (what:=what) HNM.out HP.out hg);have HFB:Hid (((A.see (n:Int)).find (n:Int) what).few):=oh (by have:=HF.out;rw[HV.out] at this;exact this);go_wp2_with fail;go_quiet (fail)
    have HX:Hid (zF w3 ((w3.alloc (.cells #[.int .i64 pk,.int .i64 pi,.int .u64 (pgn:Int),.slice pa pb.length pc] 192)).drewN nq)):=oh (HM4.out.drewN nq);go_wp2_with fail;refine (HFD.out _ HX.out HFB.out).mono ?_;rintro e w6 ⟨rfl,fv6,h6,m6⟩;have hB6:=(HB3.out.ext HX.out).mods m6.1 HNB.out;have HB6:=oh hB6;have H6:=oh h6;have HG6:=oh ((HGX.out _ HX.out).trans m6);have r0:=hB6.cell (o:=0) (v:=.int .i64 0) rfl;have r1:=hB6.cell (o:=1) (v:=.int .i64 0) rfl;have r2:=hB6.cell (o:=2) (v:=.int .u64 0) rfl;have r3:=hB6.cell (o:=3) (v:=.slice none 0 0) rfl;have rf:=hB6.frozen;clear hB6 h6 m6;go_wp2_with fail;have hbase:w0.heap.size<=w.heap.size:=HBS.out;refine bodyPost_ret (zC rfl _ _ w.heap.size 192 #[.int .i64 0,.int .i64 0,.int .u64 0,.slice none 0 0] _ rfl (HB6.out.set4 (.int .i64 0) (.int .i64 0) (.int .u64 0) (.slice none 0 0)) Tryz.underlying192 rfl Tryz.pageSize) rfl ?_;have m7:=zA.set4 (F:=λk=>k=w.heap.size) (zA.refl _ w6) (R:=w.heap.size) (.inr rfl) (.int .i64 0) (.int .i64 0) (.int .u64 0) (.slice none 0 0);have h7:=H6.out.other m7 (λk hk=>by subst hk;exact⟨hbase,H6.out.notB HB6.out (by decide)⟩);rw[HV.out];exact⟨fv6,h7,HG6.out.res m7 (Nat.le_refl _),rfl⟩
   .have hgi:decide ((s.gen:Int)<(pgn:Int))=false:=by rw[decide_eq_false];omega
    have HV:=oh (zCZ (what:=what) HNM.out HP.out hg);go_wp2_with fail;go_quiet (fail)
    have HX:Hid (zF w3 ((w3.alloc (.cells #[.int .i64 pk,.int .i64 pi,.int .u64 (pgn:Int),.slice pa pb.length pc] 192)).drewN nq)):=oh (HM4.out.drewN nq);have hB5:=HB3.out.ext HX.out;have HB5:=oh hB5;have hN5:zH (w3.alloc (.cells #[.int .i64 pk,.int .i64 pi,.int .u64 (pgn:Int),.slice pa pb.length pc] 192)) w3.heap.size #[.int .i64 pk,.int .i64 pi,.int .u64 (pgn:Int),.slice pa pb.length pc] 192:=zH.new _ _ _;have hR5:=hN5.ext ((zA.refl (λ_=>False) _).drewN nq);have c0:=hR5.cell (o:=0) (v:=.int .i64 pk) rfl;have c1:=hR5.cell (o:=1) (v:=.int .i64 pi) rfl;have c2:=hR5.cell (o:=2) (v:=.int .u64 (pgn:Int)) rfl;have c3:=hR5.cell (o:=3) (v:=.slice pa pb.length pc) rfl;have r0:=hB5.cell (o:=0) (v:=.int .i64 0) rfl;have r1:=hB5.cell (o:=1) (v:=.int .i64 0) rfl;have r2:=hB5.cell (o:=2) (v:=.int .u64 0) rfl;have r3:=hB5.cell (o:=3) (v:=.slice none 0 0) rfl;have rf:=hB5.frozen;clear hB5 hR5;go_wp2_with fail;have hbase:w0.heap.size<=w.heap.size:=HBS.out;refine bodyPost_ret (zC rfl _ _ w.heap.size 192 #[.int .i64 pk,.int .i64 pi,.int .u64 (pgn:Int),.slice pa pb.length pc] _ rfl (HB5.out.set4 (.int .i64 pk) (.int .i64 pi) (.int .u64 (pgn:Int)) (.slice pa pb.length pc)) Tryz.underlying192 rfl Tryz.pageSize) rfl ?_;have m7:=zA.set4 (F:=λk=>k=w.heap.size) (zA.refl _ ((w3.alloc (.cells #[.int .i64 pk,.int .i64 pi,.int .u64 (pgn:Int),.slice pa pb.length pc] 192)).drewN nq)) (R:=w.heap.size) (.inr rfl) (.int .i64 pk) (.int .i64 pi) (.int .u64 (pgn:Int)) (.slice pa pb.length pc);have h5:=HS3.out.at HX.out;have h7:=h5.other m7 (λk hk=>by subst hk;exact⟨hbase,h5.notB HB5.out (by decide)⟩);rw[HV.out];exact⟨fv,h7,(HGX.out _ HX.out).res m7 (Nat.le_refl _),_,rfl,((HPV.out.ext HX.out).mods (m7.mono (λk e=>.inr e))).anti (λk _ hb=>.inl hb),HPL.out⟩
  .have HP:Hid (dkQ D (n:Int)=none):=oh (by rw[HQ.out,hp]);have HV:=oh (zEA (gen:=s.gen) (what:=what) HNM.out HP.out);have HFB:Hid (((A.see (n:Int)).find (n:Int) what).few):=oh (by have:=HF.out;rw[HV.out] at this;exact this);clear hp hE;unfold qA zL;go_wp2_with fail;go_quiet (fail)
   have HX:Hid (zF w3 ((w3.alloc (.cells #[.int .i64 0,.int .i64 0,.int .u64 0,.slice none 0 0] 192)).drewN nq)):=oh (((zA.refl _ w3).alloc _).drewN nq);go_wp2_with fail;refine (HFD.out _ HX.out HFB.out).mono ?_;rintro e w6 ⟨rfl,fv6,h6,m6⟩;have hB6:=(HB3.out.ext HX.out).mods m6.1 HNB.out;have HB6:=oh hB6;have H6:=oh h6;have HG6:=oh ((HGX.out _ HX.out).trans m6);have r0:=hB6.cell (o:=0) (v:=.int .i64 0) rfl;have r1:=hB6.cell (o:=1) (v:=.int .i64 0) rfl;have r2:=hB6.cell (o:=2) (v:=.int .u64 0) rfl;have r3:=hB6.cell (o:=3) (v:=.slice none 0 0) rfl;have rf:=hB6.frozen;clear hB6 h6 m6;go_wp2_with fail;have hbase:w0.heap.size<=w.heap.size:=HBS.out;refine bodyPost_ret (zC rfl _ _ w.heap.size 192 #[.int .i64 0,.int .i64 0,.int .u64 0,.slice none 0 0] _ rfl (HB6.out.set4 (.int .i64 0) (.int .i64 0) (.int .u64 0) (.slice none 0 0)) Tryz.underlying192 rfl Tryz.pageSize) rfl ?_;have m7:=zA.set4 (F:=λk=>k=w.heap.size) (zA.refl _ w6) (R:=w.heap.size) (.inr rfl) (.int .i64 0) (.int .i64 0) (.int .u64 0) (.slice none 0 0);have h7:=H6.out.other m7 (λk hk=>by subst hk;exact⟨hbase,H6.out.notB HB6.out (by decide)⟩);rw[HV.out];exact⟨fv6,h7,HG6.out.res m7 (Nat.le_refl _),rfl⟩
end
section
variable {ad:Nat->Addr}{w0 w w' wr:World}{kb mb d:Nat}{s:yM}{g:Int}{A:yQ}{fv iv lv:Value}{P:Nat->Prop}{D:zI}
theorem zQR.form{X:yQ × Option zX}{e:Ending}(h:zQR w0 kb mb d s g fv iv lv w X e w'):∃fv',LkS w0 w' kb mb d s g X.1 fv' iv lv/\zAA kb mb fv iv lv fv' iv lv w w'/\((X.2=none/\e=.returned (.tuple #[.agg #[.int .i64 0,.int .i64 0,.int .u64 0,.slice none 0 0],.bool false])) \/
  ∃p pa pc,X.2=some p/\e=.returned (.tuple #[.agg #[.int .i64 p.kind,.int .i64 p.id,.int .u64 (p.gen:Int),.slice pa p.body.length pc],.bool true])/\Sl (LkB kb mb fv' iv lv) w' 1 zZ (.slice pa p.body.length pc) p.body/\p.body.length<=1000/\p.body.length<=pc/\pc<=9223372036854775807):=by
 obtain⟨fv',h1,h2,h3⟩:=h;refine⟨fv',h1,h2,?_⟩;obtain⟨A1,o⟩:=X;cases o with
 | none=>exact .inl ⟨rfl,h3⟩
 | some p =>
  obtain⟨pv,h4,h5,h6⟩:=h3;obtain⟨pa,pc,rfl,k1,k2, -⟩:=id h5;exact .inr ⟨p,pa,pc,rfl,h4,h5,h6,k1,by unfold maxLen at k2;omega⟩
theorem zLs(hL:yG NoB ad w0)(hD:jT w0 P d D)(hz:256<=s.size/\s.size<=1024)(h:LkS w0 w kb mb d s g A fv iv lv)(e:zV)(he:zFz e.chain)(hs:e.size<=4096)
  (hf:(qI (dkQ D) s.gen s.size e.size.toNat e.chain e.size A).1.few) :
  Calls Tryz.prog 179 #[.pointer (some ⟨kb,0,none⟩),.agg #[.string e.key,.string e.value,.int .i64 e.chain,.int .i64 e.size]] w λx w'=>x=.returned (.bool (qI (dkQ D) s.gen s.size e.size.toNat e.chain e.size A).2)/\zQP w0 kb mb d s g fv iv lv w (qI (dkQ D) s.gen s.size e.size.toNat e.chain e.size A).1 w':=by
 have m0:zF w (w.alloc (.cells #[.string e.key,.string e.value,.int .i64 e.chain,.int .i64 e.size] 228)):=(zA.refl _ w).alloc _;have hE:=zH.new w #[.string e.key,.string e.value,.int .i64 e.chain,.int .i64 e.size] 228;have e2:=hE.cell (o:=2) (v:=.int .i64 e.chain) rfl;have e3:=hE.cell (o:=3) (v:=.int .i64 e.size) rfl;have H0:=oh (h.at m0);have HM0:=oh m0;have HL:=oh hL;have HD:=oh hD;have HF:=oh hf;obtain⟨nn,hnn⟩:∃nn,nn=s.size-28:=⟨_,rfl⟩;have hnI:(s.size:Int)-28=(nn:Int):=by omega
 have HNI:=oh hnI;have hnn2:228<=nn/\nn<=996:=by omega
 obtain⟨hnn3,hnn4⟩:=hnn2;have hsn:(s.size:Int)=(nn:Int)+28:=by omega
 have hs4:(nn:Int)+28-24-4=(nn:Int):=by omega
 obtain⟨fuel,hfu⟩:∃f,f=e.size.toNat:=⟨_,rfl⟩;have hfu2:e.size<=(fuel:Int):=by omega
 have HOK:=oh he;rw[<- hfu] at HF ⊢;clear hE h m0 hL hD hf hnn hnI hfu he hz
 go_enter Tryz.func179, Tryz.ntmps179
 go_wp2_with fail;go_quiet (fail)
 go_wp2_with fail;go_loopg [5,6] fuel (λm idv nv wr=>∃(id1 n1:Int) (A1:yQ) (fv1 iv1 lv1:Value),idv=.int .i64 id1/\nv=.int .i64 n1/\n1<=m/\n1<=4096 /\
  Hid (LkS w0 wr kb mb d s g A1 fv1 iv1 lv1/\zAA kb mb fv iv lv fv1 iv1 lv1 w wr/\zFz id1/\qI (dkQ D) s.gen s.size m id1 n1 A1=qI (dkQ D) s.gen s.size fuel e.chain e.size A))
 case atStart=>exact⟨e.chain,e.size,A,fv,iv,lv,rfl,rfl,hfu2,hs,oh ⟨H0.out.at ((zA.refl _ _).drewN nq),zAA.ext (HM0.out.drewN nq),HOK.out,rfl⟩⟩
 case round =>
  obtain⟨id1,n1,A1,fv1,iv1,lv1,rfl,rfl,hf1,hn1,HW⟩:=hrel;by_cases hpos:0<n1
  .obtain⟨m,rfl⟩:∃m,gk=m+1:=⟨gk-1,by omega⟩;have HLE:Hid ((vT (dkQ D) s.gen A1 id1 4).1.few):=oh (by
    have h4:=HW.out.2.2.2;refine yQ.le.few ?_ (h4 ▸ HF.out);have h5:=zEx (dkQ D) s.gen A1 id1 4;rw[qI,if_neg (by omega)];cases ho:vT (dkQ D) s.gen A1 id1 4 with
    | mk A2 o =>
     cases o with
     | none=>exact A2.le_refl
     | some x =>
      simp only;split
      .exact yQ.le_find _ _ _
      .exact (yQ.le_good _ _).trans (zDC _ _ _ _ _ _ _))
   go_wp2_with fail;refine (zIN HL.out HD.out HW.out.1 id1 HW.out.2.2.1 4 HLE.out).mono ?_;intro x w2 hx;obtain⟨fv2,h2,g2,hx⟩:=hx.form;have HG2:=oh (HW.out.2.1.trans g2);have H2:=oh h2;clear h2 g2;rcases hx with ⟨ho,rfl⟩|⟨p,pa,pc,ho,rfl,hpb,hpl,hpc,hpm⟩
   .have HO:Hid (qI (dkQ D) s.gen s.size fuel e.chain e.size A=((vT (dkQ D) s.gen A1 id1 4).1,false)):=oh (by
     rw[<- HW.out.2.2.2,qI,if_neg (by omega)];cases hq:vT (dkQ D) s.gen A1 id1 4 with
     | mk A2 o=>rw[hq] at ho;simp only at ho;subst ho;rfl)
    have HX:Hid (zF w2 (w2.alloc (.cells #[.int .i64 0,.int .i64 0,.int .u64 0,.slice none 0 0] 192))):=oh ((zA.refl _ w2).alloc _);clear ho;go_wp2_with fail;go_ret;rw[HO.out];exact⟨rfl,fv2,iv1,lv1,H2.out.at HX.out,HG2.out.trans (zAA.ext HX.out)⟩
   .obtain⟨A2,hA2⟩:∃A2,A2=(vT (dkQ D) s.gen A1 id1 4).1:=⟨_,rfl⟩;obtain⟨xk,xi,xg,xb⟩:=p;simp only at hpb hpl hpc ho;have HO:Hid (qI (dkQ D) s.gen s.size fuel e.chain e.size A=if yP s.size ⟨xk,xi,xg,xb⟩ n1=true then (A2.find id1 4,false) else qI (dkQ D) s.gen s.size m ((vI xb 0 4).1:Nat) (n1-min n1 ((s.size:Int)-28)) (A2.good id1)):=oh (by
     rw[<- HW.out.2.2.2,qI,if_neg (by omega)];cases hq:vT (dkQ D) s.gen A1 id1 4 with
     | mk A3 o=>rw[hq] at ho hA2;simp only at ho hA2;subst ho hA2;rfl)
    rw[<- hA2] at H2;have HPB:=oh hpb;obtain⟨wt,hwt⟩:∃wt:Nat,min n1 (nn:Int)=(wt:Int):=⟨(min n1 (nn:Int)).toNat,by omega⟩;have hwt1:1<=wt:=by omega
    have hwt2:(wt:Int)<=n1:=by omega
    have hwt3:wt<=996:=by omega
    have HWT:Hid (min n1 ((s.size:Int)-28)=(wt:Int)):=oh (by rw[HNI.out];exact hwt);have hm3:zF w2 (w2.alloc (.cells #[.int .i64 xk,.int .i64 xi,.int .u64 (xg:Int),.slice pa xb.length pc] 192)):=(zA.refl _ w2).alloc _;have HM3:=oh hm3;have k3:=(H2.out.at hm3).blk.cell (o:=3) (v:=.int .i64 (s.size:Int)) rfl;rw[hsn] at k3;have HB3:=oh (zH.new w2 #[.int .i64 xk,.int .i64 xi,.int .u64 (xg:Int),.slice pa xb.length pc] 192);have p3:=HB3.out.cell (o:=3) (v:=.slice pa xb.length pc) rfl;clear ho hA2 hpb hm3;go_wp2_with fail;have HE3:=oh ((H2.out.at HM3.out).env HL.out);refine (zFb HE3.out (.slice pa xb.length pc) xb (HPB.out.ext HM3.out) 0 4 (by omega)).mono ?_;rintro e5 w5 ⟨ev,rfl,hE5,hm5⟩;have HM5:Hid (zF w2 w5):=oh (HM3.out.trans hm5);have hB5:=HB3.out.ext hm5;have p0:=hB5.cell (o:=0) (v:=.int .i64 xk) rfl;have p3:=hB5.cell (o:=3) (v:=.slice pa xb.length pc) rfl;have htl:=zKx xb;have H5:=oh (H2.out.at HM5.out);have HG5:=oh (HG2.out.trans (zAA.ext HM5.out));obtain⟨tk,htk⟩:∃t,t=vI xb 0 4:=⟨_,rfl⟩;rw[<- htk] at hE5 htl HO ⊢;obtain⟨nx,o⟩:=tk;simp only at hE5 htl HO ⊢;have HTK:=oh htk;have BAD:Hid (yP s.size ⟨xk,xi,xg,xb⟩ n1=true->qI (dkQ D) s.gen s.size fuel e.chain e.size A=(A2.find id1 4,false)):=oh (λhb=>by rw[HO.out,if_pos hb]);have BADF:Hid (yP s.size ⟨xk,xi,xg,xb⟩ n1=true -> Calls Tryz.prog 174 #[.pointer (some ⟨kb,0,none⟩),.int .i64 id1,.int .i64 4] w5 λe w'=>e=.returned (.tuple #[])/\∃fv',LkS w0 w' kb mb d s g (A2.find id1 4) fv' iv1 lv1/\zAA kb mb fv2 iv1 lv1 fv' iv1 lv1 w5 w'):=oh (λhb=>zCE H5.out id1 4 (by have h7:=HF.out;rw[BAD.out hb] at h7;exact h7));clear htk hm5 hB5 k3;cases o with
    | some er =>
     obtain⟨el,ek⟩:=er;obtain⟨f5,rfl,_⟩:=hE5;have HPX:Hid (yP s.size ⟨xk,xi,xg,xb⟩ n1=true):=oh (by unfold yP;rw[<- HTK.out];simp);unfold zL;go_wp2_with fail;refine (BADF.out HPX.out).mono ?_;rintro e6 w6 ⟨rfl,fv6,h6,g6⟩;have H6:=oh (And.intro h6 (HG5.out.trans g6));clear h6 g6;go_wp2_with fail;go_ret;rw[BAD.out HPX.out];exact⟨rfl,fv6,iv1,lv1,H6.out.1,H6.out.2⟩
    | none =>
     cases hE5
     by_cases hk4:xk=4
     .subst hk4;by_cases hlen:(xb.length:Int)=4+(wt:Int)
      .have b1:((xb.length:Int) != 4+(wt:Int))=false:=by simp[hlen]
       by_cases hzz:(nx=0) ↔ (n1=(wt:Int))
       .have HPX:Hid (yP s.size ⟨4,xi,xg,xb⟩ n1=false):=oh (by
         unfold yP;rw[<- HTK.out,HWT.out];by_cases h1:nx=0 <;> by_cases h2:n1=(wt:Int) <;> simp[h1,h2,hlen] at hzz ⊢)
        have HO2:Hid (qI (dkQ D) s.gen s.size m (nx:Int) (n1-(wt:Int)) (A2.good id1)=qI (dkQ D) s.gen s.size fuel e.chain e.size A):=oh (by
         rw[HO.out,HPX.out,if_neg (by simp),HWT.out])
        have HGD:=oh (zIL H5.out id1 (by
         have h7:=HF.out;rw[<- HO2.out] at h7;exact (zDC _ _ _ _ _ _ _).few h7))
        have HNXO:Hid (zFz (nx:Int)):=oh ((Lit.wf_int_iff .i64 _).2 (by simp[IntKind.min,IntKind.max,IntKind.signed,IntKind.bits];omega));by_cases h1:nx=0
        .subst h1;have h2:n1=(wt:Int):=hzz.1 rfl;subst h2;clear hzz hlen;go_wp2_with fail;refine (HGD.out).mono ?_;rintro e6 w6 ⟨rfl,fv6,iv6,lv6,h6,g6⟩;have H6:=oh (And.intro h6 (HG5.out.trans g6));clear h6 g6;go_wp2_with fail;go_roundg m
         case measure=>omega
         case rel=>exact⟨((0:Nat):Int),(wt:Int)-(wt:Int),A2.good id1,fv6,iv6,lv6,by first|rfl|exact zCj (by omega),by first|rfl|exact zCj (by omega),by omega,by omega,oh ⟨H6.out.1,H6.out.2,HNXO.out,HO2.out⟩⟩
        .have h2:n1≠(wt:Int):=λe=>h1 (hzz.2 e)
         have b2:(n1 == (wt:Int))=false:=beq_eq_false_iff_ne.2 h2;have b3:((nx:Int) == 0)=false:=beq_eq_false_iff_ne.2 (by omega);clear hzz hlen h1 h2;go_wp2_with fail;refine (HGD.out).mono ?_;rintro e6 w6 ⟨rfl,fv6,iv6,lv6,h6,g6⟩;have H6:=oh (And.intro h6 (HG5.out.trans g6));clear h6 g6;go_wp2_with fail;go_roundg m
         case measure=>omega
         case rel=>exact⟨(nx:Int),n1-(wt:Int),A2.good id1,fv6,iv6,lv6,by first|rfl|exact zCj (by omega),by first|rfl|exact zCj (by omega),by omega,by omega,oh ⟨H6.out.1,H6.out.2,HNXO.out,HO2.out⟩⟩
       .have HPX:Hid (yP s.size ⟨4,xi,xg,xb⟩ n1=true):=oh (by
         unfold yP;rw[<- HTK.out,HWT.out];by_cases h1:nx=0 <;> by_cases h2:n1=(wt:Int) <;> simp[h1,h2] at hzz ⊢)
        by_cases h1:nx=0
        .subst h1;have h2:n1≠(wt:Int):=λe=>hzz ⟨λ_=>e,λ_=>rfl⟩
         have b2:(n1 == (wt:Int))=false:=beq_eq_false_iff_ne.2 h2;clear hzz hlen h2;go_wp2_with fail;refine (BADF.out HPX.out).mono ?_;rintro e6 w6 ⟨rfl,fv6,h6,g6⟩;have H6:=oh (And.intro h6 (HG5.out.trans g6));clear h6 g6;go_wp2_with fail;go_ret;rw[BAD.out HPX.out];exact⟨rfl,fv6,iv1,lv1,H6.out.1,H6.out.2⟩
        .have h2:n1=(wt:Int):=Classical.byContradiction (λe=>hzz ⟨λh=>absurd h h1,λh=>absurd h e⟩);have b2:(n1 == (wt:Int))=true:=beq_iff_eq.2 h2;have b3:((nx:Int) == 0)=false:=beq_eq_false_iff_ne.2 (by omega);clear hzz hlen h2;go_wp2_with fail;refine (BADF.out HPX.out).mono ?_;rintro e6 w6 ⟨rfl,fv6,h6,g6⟩;have H6:=oh (And.intro h6 (HG5.out.trans g6));clear h6 g6;go_wp2_with fail;go_ret;rw[BAD.out HPX.out];exact⟨rfl,fv6,iv1,lv1,H6.out.1,H6.out.2⟩
      .have b1:((xb.length:Int) != 4+(wt:Int))=true:=bne_iff_ne.2 hlen;have b1':((xb.length:Int) == 4+(wt:Int))=false:=beq_eq_false_iff_ne.2 hlen;have HPX:Hid (yP s.size ⟨4,xi,xg,xb⟩ n1=true):=oh (by
        unfold yP;rw[<- HTK.out,HWT.out];simp[hlen])
       clear hlen;go_wp2_with fail;refine (BADF.out HPX.out).mono ?_;rintro e6 w6 ⟨rfl,fv6,h6,g6⟩;have H6:=oh (And.intro h6 (HG5.out.trans g6));clear h6 g6;go_wp2_with fail;go_ret;rw[BAD.out HPX.out];exact⟨rfl,fv6,iv1,lv1,H6.out.1,H6.out.2⟩
     .have b1:(xk != 4)=true:=bne_iff_ne.2 hk4;have b1':(xk == 4)=false:=beq_eq_false_iff_ne.2 hk4;have HPX:Hid (yP s.size ⟨xk,xi,xg,xb⟩ n1=true):=oh (by
       unfold yP;rw[<- HTK.out];simp[hk4])
      clear hk4;go_wp2_with fail;refine (BADF.out HPX.out).mono ?_;rintro e6 w6 ⟨rfl,fv6,h6,g6⟩;have H6:=oh (And.intro h6 (HG5.out.trans g6));clear h6 g6;go_wp2_with fail;go_ret;rw[BAD.out HPX.out];exact⟨rfl,fv6,iv1,lv1,H6.out.1,H6.out.2⟩
  .have HO:Hid (qI (dkQ D) s.gen s.size fuel e.chain e.size A=(A1,true)):=oh (by
    rw[<- HW.out.2.2.2];cases gk with
    | zero=>rfl
    | succ k=>rw[qI,if_pos (by omega)])
   go_wp2_with fail;go_ret;rw[HO.out];exact⟨rfl,fv1,iv1,lv1,HW.out.1,HW.out.2.1⟩
end
end Go.Proofs.YteabpacpngaoaaaGreatDoor
