import Derived.Test.YteabpacpngaoaaaGreatDoorS09
namespace Go.Proofs.YteabpacpngaoaaaGreatDoor
open Lib renaming hid->oh
open Go.RowKit Go.Maps
attribute [local go_sem ↓] Go.wp_at_zero Go.wp_at_succ
section
variable {ad:Nat->Addr}{w0 w w' wr w2:World}{kb mb d:Nat}{s:SupA}{g:Int}{A A1 A2:zA}{fv iv lv fv1 iv1 lv1 fv2 iv2 lv2:Value}{P:Nat->Prop}{D:DiskA}
theorem zQ.keyd(h:zQ w0 w kb mb d s g A fv iv lv)(hf:A.key.few):zQ w0 (w.setCell ⟨kb,11,none⟩ (.int .i64 ((A.keys:Int)+1))) kb mb d s g A.key fv iv lv/\zJ kb mb fv iv lv fv iv lv w (w.setCell ⟨kb,11,none⟩ (.int .i64 ((A.keys:Int)+1))):=by
 have m:Mods (λk=>k=kb) w (w.setCell ⟨kb,11,none⟩ (.int .i64 ((A.keys:Int)+1))):=Mods.setCell (F:=λk=>k=kb) (Mods.refl _ w) (p:=⟨kb,11,none⟩) (.inr rfl) _;refine⟨⟨h.ext.trans' m (λi hi e=>by have:=h.new.1;omega),h.new,?_,h.seen.mods m (λe=>h.off e.symm),h.rf.mods m (λg hg e=>Own.notB h.rf h.blk (by decide) g hg e),h.ri.mods m (λg hg e=>Own.notB h.ri h.blk (by decide) g hg e),h.rl.mods m (λg hg e=>Own.notB h.rl h.blk (by decide) g hg e),hf⟩,m.mono (λk e=>.inl e),λ_ h=>.inl h⟩;have hb:=h.blk.set 11 (.int .i64 ((A.keys:Int)+1));simpa[lkC,zA.key] using hb
theorem zQ.losed{k:ByteArray}{X:Obj}{w4:World}{lv':Value}(h:zQ w0 w kb mb d s g A fv iv lv)(hf:(A.lose k).few)(hO:Own (λ_=>False) w4 w0.heap.size 9 1 encS lv' (A.lost++[k]))(hm:Mods (λk=>lv.ownBlock=some k) (w.alloc X) w4)(C3:lv'.ownBlock=lv.ownBlock\/lv'.ownBlock=some (w.alloc X).heap.size) :
  zQ w0 (w4.setCell ⟨kb,12,none⟩ lv') kb mb d s g (A.lose k) fv iv lv'/\zJ kb mb fv iv lv fv iv lv' w (w4.setCell ⟨kb,12,none⟩ lv'):=by
 have Bh:=(h.blk.alloc X).mods hm (λe=>Own.notB h.rl h.blk (by decide) _ e rfl);have m5:Mods (λk=>k=kb) w4 (w4.setCell ⟨kb,12,none⟩ lv'):=Mods.setCell (F:=λk=>k=kb) (Mods.refl _ w4) (p:=⟨kb,12,none⟩) (.inr rfl) _;have m4:Mods (λk=>lv.ownBlock=some k\/k=kb) w (w4.setCell ⟨kb,12,none⟩ lv'):=(((Mods.refl _ w).alloc _).trans (hm.mono (λk e=>.inl e))).trans (m5.mono (λk e=>.inr e));refine⟨⟨h.ext.trans' m4 (λi hi hq=>?_),h.new,?_,h.seen.mods m4 (λhq=>?_),h.rf.mods m4 (λg hg hq=>?_),h.ri.mods m4 (λg hg hq=>?_),hO.mods m5 (λg hg e=>Own.notB hO Bh (by decide) g hg e),hf⟩,m4.mono (λk hk=>hk.elim (λe=>.inr (.inr (.inr (.inr e)))) .inl),?_⟩
 .rcases hq with e|e
  .have:=(h.rl.lt i e).1;omega
  .have:=h.new.1;omega
 .have hb:=Bh.set 12 lv';simpa[lkC,zA.lose] using hb
 .rcases hq with e|e
  .exact Own.notM h.rl h.seen _ e rfl
  .exact h.off e.symm
 .rcases hq with e|e
  .exact Own.notO h.rf h.rl (by decide) g hg e
  .exact Own.notB h.rf h.blk (by decide) g hg e
 .rcases hq with e|e
  .exact Own.notO h.ri h.rl (by decide) g hg e
  .exact Own.notB h.ri h.blk (by decide) g hg e
 .rintro i (e|e|e|e|e)
  .exact .inl (.inl e)
  .exact .inl (.inr (.inl e))
  .exact .inl (.inr (.inr (.inl e)))
  .exact .inl (.inr (.inr (.inr (.inl e))))
  .rcases C3 with h|h
   .exact .inl (.inr (.inr (.inr (.inr (h ▸ e)))))
   .rw[h] at e;injection e with e;simp at e;right;omega
structure vY(w0 w wr:World)(kb mb d:Nat)(s:SupA)(g:Int)(fv iv lv:Value)(n:NodeA)(R:Nat)(ea ka ia:Option Addr)(ec kc ic kn:Nat)(A1:zA)(fv1 iv1 lv1:Value):Prop where
 st:zQ w0 wr kb mb d s g A1 fv1 iv1 lv1
 go:zJ kb mb fv iv lv fv1 iv1 lv1 w wr
 nd:∃b:Bool,Blk wr R #[.bool b,.slice ea n.entries.length ec,.slice ka kn kc,.slice ia n.kids.length ic] 174
 nb:¬ qH kb mb fv1 iv1 lv1 R
 es:Sl (qH kb mb fv1 iv1 lv1) wr 4 encE (.slice ea n.entries.length ec) n.entries
 is:Sl (qH kb mb fv1 iv1 lv1) wr 1 encI (.slice ia n.kids.length ic) n.kids
theorem vY.nxt{n:NodeA}{R:Nat}{ea ka ia:Option Addr}{ec kc ic kn:Nat}(h:vY w0 w wr kb mb d s g fv iv lv n R ea ka ia ec kc ic kn A1 fv1 iv1 lv1)(h2:zQ w0 w2 kb mb d s g A2 fv2 iv2 lv2)(g2:zJ kb mb fv1 iv1 lv1 fv2 iv2 lv2 wr w2):vY w0 w w2 kb mb d s g fv iv lv n R ea ka ia ec kc ic kn A2 fv2 iv2 lv2 :=
 by
 obtain⟨b,hb⟩:=h.nd;exact⟨h2,h.go.trans g2,⟨b,(g2.blk hb h.nb).1⟩,(g2.blk hb h.nb).2,g2.sl h.es,g2.sl h.is⟩
theorem vY.ext{n:NodeA}{R:Nat}{ea ka ia:Option Addr}{ec kc ic kn:Nat}(h:vY w0 w wr kb mb d s g fv iv lv n R ea ka ia ec kc ic kn A1 fv1 iv1 lv1)(m:Ext wr w2):vY w0 w w2 kb mb d s g fv iv lv n R ea ka ia ec kc ic kn A1 fv1 iv1 lv1:=h.nxt (h.st.at m) (zJ.ext m)
def jQ(w0:World)(kb mb d:Nat)(s:SupA)(g:Int)(D:DiskA)(f:Nat):Prop :=
 ∀(w:World) (A:zA) (fv iv lv:Value) (id dep:Int),zQ w0 w kb mb d s g A fv iv lv->qD id->1<=dep/\dep+f=17->(zH (zP D) s.gen s.size f id A).few ->
  Calls Tryz.prog 111 #[.pointer (some ⟨kb,0,none⟩),.int .i64 id,.int .i64 dep] w λe w'=>e=.returned (.tuple #[])/\zBM w0 kb mb d s g fv iv lv w (zH (zP D) s.gen s.size f id A) w'
theorem zAJ{Q:Int->Option PageA}{gen z f:Nat}{id:Int}{B:zA}(h:zG Q gen A id 3=(B,none)):zH Q gen z f id A=B:=by
 cases f <;> rw[zH,h]
theorem zAK{Q:Int->Option PageA}{gen z f:Nat}{id:Int}{B:zA}{p:PageA}(h:zG Q gen A id 3=(B,some p))(hb:f=0\/∃r,decodeA p=.inr r):zH Q gen z f id A=B.find id 3:=by
 cases f with
 | zero=>rw[zH,h]
 | succ f =>
  rcases hb with hb|⟨r,hb⟩
  .cases hb
  .rw[zH,h];simp only[hb]
theorem zA2{Q:Int->Option PageA}{gen z f:Nat}{id:Int}{B:zA}{p:PageA}{n:NodeA}(h:zG Q gen A id 3=(B,some p))(hb:decodeA p=.inl n):zH Q gen z (f+1) id A=n.kids.foldl (λC k=>zH Q gen z f k C) (n.entries.foldl (zN Q gen z) (B.good id)):=by
 rw[zH,h];simp only[hb]
theorem qU{Q:Int->Option PageA}{gen:Nat}{id what:Int}{o:Option PageA}(h:(zG Q gen A id what).2=o):zG Q gen A id what=((zG Q gen A id what).1,o):=by rw[<- h]
theorem zAL{Q:Int->Option PageA}{gen z f:Nat}{id:Int}(hf:(zH Q gen z f id A).few):(zG Q gen A id 3).1.few:=by
 refine zA.le.few ?_ hf;cases f with
 | zero =>
  rw[zH];split
  .rename_i B he;rw[he];exact B.le_refl
  .rename_i B x he;rw[he];exact zA.le_find _ _ _
 | succ f =>
  rw[zH];split
  .rename_i B he;rw[he];exact B.le_refl
  .rename_i B x he;rw[he];split
   .exact zA.le_find _ _ _
   .exact ((zA.le_good _ _).trans (zU (qE Q gen z) _ _)).trans (zU (λB k=>yI Q gen z f k B) _ _)
theorem zAa{n:NodeA}(h:rightN n=true):∀e∈n.entries,qD e.chain/\e.size<=4096:=by
 intro e he;unfold rightN at h;split at h
 .simp only[uM,List.all_eq_true] at h;have hr:=h.1.1.1.1 e he;unfold rightE at hr;simp only[uM] at hr;have h2:=hr.2;split at h2
  .rename_i h0;simp only[uM,wE] at h2;exact⟨(Lit.wf_int_iff .i64 _).2 (by simp[IntKind.min,IntKind.max,IntKind.signed,IntKind.bits];omega),by omega⟩
  .simp only[uM,wE] at h2;have hk:=h2.1.1.1;have Bi:2<=e.chain/\e.chain<256:=by simpa[kidB] using hk
   exact⟨(Lit.wf_int_iff .i64 _).2 (by simp[IntKind.min,IntKind.max,IntKind.signed,IntKind.bits];omega),h2.2⟩
 .simp only[uM,wO] at h;have:=h.1.1.1.1.1.1.1;rw[this] at he;cases he
theorem zAb{n:NodeA}(h:rightN n=true):∀k∈n.kids,qD k:=by
 intro k hk;cases hl:n.leaf with
 | false =>
  have:=(rightN_inner h hl).2.2 k hk;exact (Lit.wf_int_iff .i64 _).2 (by simp[IntKind.min,IntKind.max,IntKind.signed,IntKind.bits];omega)
 | true =>
  unfold rightN at h;rw[if_pos hl] at h;simp only[uM,wO] at h;rw[h.1.1.2] at hk;cases hk
theorem zAc(Q:Int->Option PageA)(gen z:Nat)(A:zA)(e:EntryA):A.key.le (zN Q gen z A e):=by
 unfold zN;split
 .exact zA.le_refl _
 .have h:=yD Q gen z e.size.toNat e.chain e.size A.key;split
  .exact h
  .exact h.trans (zA.le_lose _ _)
set_option maxRecDepth 100000 in
set_option maxHeartbeats 4000000 in
theorem qV(hL:Env NoB ad w0)(hD:DkS w0 P d D)(hz:256<=s.size/\s.size<=1024)(f:Nat)(Aj:∀f',f=f'+1->jQ w0 kb mb d s g D f'):jQ w0 kb mb d s g D f:=by
 intro w A fv iv lv id dep h hid Ak hf;have H:=oh h;have HL:=oh hL;have HD:=oh hD;have HF:=oh hf;have C4:=oh Aj;have HZ:=oh hz;have Av:=oh Ak;have C5:=oh hid;clear h hL hD hf Aj hz Ak hid
 go_enter Tryz.func111, Tryz.ntmps111
 go_wp2_with fail;refine (vK HL.out HD.out H.out id C5.out 3 (zAL HF.out)).mono ?_;intro x w2 hx;obtain⟨fv2,h2,g2,hx⟩:=hx.form;have Az:=oh g2;have H2:=oh h2;clear h2 g2;rcases hx with ⟨ho,rfl⟩|⟨p,pa,pc,ho,rfl,B0,B3,C6,Cu⟩
 .have HO:=oh (zAJ (z:=s.size) (f:=f) (qU ho));have HX:Hid (Ext w2 (w2.alloc (.cells #[.int .i64 0,.int .i64 0,.int .u64 0,.slice none 0 0] 192))):=oh ((Mods.refl _ w2).alloc _);clear ho;go_wp2_with fail;first|go_end0|(refine bodyPost_ret (results_none rfl _ _ _) rfl ?_)
  rw[HO.out];exact⟨rfl,fv2,iv,lv,H2.out.at HX.out,Az.out.trans (zJ.ext HX.out)⟩
 .obtain⟨A2,Bj⟩:∃A2,A2=(zG (zP D) s.gen A id 3).1:=⟨_,rfl⟩;have B4:=qU ho;obtain⟨xk,xi,xg,xb⟩:=p;simp only at B0 B3 C6;rw[<- Bj] at B4 H2;have Bk:=oh B4;have C7:=oh B0;have Bl:Ext w2 (w2.alloc (.cells #[.int .i64 xk,.int .i64 xi,.int .u64 (xg:Int),.slice pa xb.length pc] 192)):=(Mods.refl _ w2).alloc _;have Aw:=oh Bl;have B5:=oh (Blk.new w2 #[.int .i64 xk,.int .i64 xi,.int .u64 (xg:Int),.slice pa xb.length pc] 192);have p0:=B5.out.cell (o:=0) (v:=.int .i64 xk) rfl;have p3:=B5.out.cell (o:=3) (v:=.slice pa xb.length pc) rfl;obtain⟨lf,Ad⟩:∃lf,(xk == (3:Int))=lf:=⟨_,rfl⟩;have Al:decide (xk=3)=lf:=by rw[<- Ad];rfl
  have Bm:=oh Al;have C8:=oh ((H2.out.at Aw.out).env HL.out);have C9:=oh (nodeGet_any C8.out lf (.slice pa xb.length pc) xb (C7.out.ext Aw.out) B3);have FIND:Hid (∀W,Ext w2 W->(f=0\/∃r,decodeA ⟨xk,xi,xg,xb⟩=.inr r) -> Calls Tryz.prog 174 #[.pointer (some ⟨kb,0,none⟩),.int .i64 id,.int .i64 3] W λe w'=>e=.returned (.tuple #[])/\zBM w0 kb mb d s g fv iv lv w (zH (zP D) s.gen s.size f id A) w'):=oh (λW m hb=>by
   have hv:=zAK (z:=s.size) Bk.out hb;have Am:=HF.out;rw[hv] at Am ⊢;refine (zS (H2.out.at m) id 3 Am).mono ?_;rintro e w' ⟨rfl,fv',k1,k2⟩;exact⟨rfl,fv',iv,lv,k1,(Az.out.trans (zJ.ext m)).trans k2⟩)
  clear ho Bj B4 B0 Bl Al B3;go_wp2_with fail;refine C9.out.mono ?_;rintro e4 w4 ⟨m4,⟨n,ve,vk,vi,An,rfl,B6,Bn,B7⟩|⟨An,fe,rfl,hE⟩⟩
  .obtain⟨ea,ec,rfl,a1,a2, -⟩:=_root_.id B6;obtain⟨ka,kc,rfl, -⟩:=_root_.id Bn;obtain⟨ia,ic,rfl,c1,c2, -⟩:=_root_.id B7;unfold maxLen at a2 c2;have Ca:=oh B6;have Cb:=oh B7;have Cc:=oh An;obtain⟨kn,Bo⟩:∃kn,kn=n.keys.length:=⟨_,rfl⟩;rw[<- Bo];have m5:Ext w4 (w4.alloc (.cells #[.bool lf,.slice ea n.entries.length ec,.slice ka kn kc,.slice ia n.kids.length ic] 174)):=(Mods.refl _ w4).alloc _;have Ae:=oh (Aw.out.trans m4);have A7:=oh m5;have Bp:=(B5.out.ext m4).ext m5;have p0:=Bp.cell (o:=0) (v:=.int .i64 xk) rfl;have Cd:=oh (Blk.new w4 #[.bool lf,.slice ea n.entries.length ec,.slice ka kn kc,.slice ia n.kids.length ic] 174);clear B6 Bn B7 An m4 m5 Bp Bo p3;by_cases hk:xk=3\/xk=2
   .have Af:Hid (decodeA ⟨xk,xi,xg,xb⟩=.inl n):=oh (by
     unfold decodeA;simp only[if_pos hk,Bm.out,Cc.out])
    cases f with
    | zero =>
     have B8:(16:Int)<dep:=by have:=Av.out;omega
     have Ao:=oh (FIND.out _ (Ae.out.trans A7.out) (.inl rfl));rcases hk with rfl|rfl
     all_goals
      have A3:=Ad.symm;simp only[beq_self_eq_true,Int.reduceBEq] at A3;subst A3;go_wp2_with fail;refine Ao.out.mono ?_;rintro e6 w6 ⟨rfl,A5⟩;have Ap:=oh A5;clear A5;go_wp2_with fail;first|go_end0|(refine bodyPost_ret (results_none rfl _ _ _) rfl ?_)
      exact⟨rfl,Ap.out⟩
    | succ f =>
     have B8:¬ (16:Int)<dep:=by have:=Av.out;omega
     have HV:=oh (zA2 (z:=s.size) (f:=f) Bk.out Af.out);have Ce:=oh (vI (H2.out.at (Ae.out.trans A7.out)) id (by
      have h7:=HF.out;rw[HV.out] at h7;exact ((zU (qE (zP D) s.gen s.size) _ _).trans (zU (λB k=>yI (zP D) s.gen s.size f k B) _ _)).few h7))
     rcases hk with rfl|rfl
     all_goals
      have A3:=Ad.symm;simp only[beq_self_eq_true,Int.reduceBEq] at A3;subst A3;go_wp2_with fail;refine Ce.out.mono ?_;rintro e6 w6 ⟨rfl,fv6,iv6,lv6,h6,g6⟩;obtain⟨R,hR⟩:∃R,R=w4.heap.size:=⟨_,rfl⟩;have Bq:Hid (vY w0 w w6 kb mb d s g fv iv lv n R ea ka ia ec kc ic kn (A2.good id) fv6 iv6 lv6):=oh (by
       have Cf:vY w0 w _ kb mb d s g fv iv lv n R ea ka ia ec kc ic kn A2 fv2 iv lv :=
        ⟨H2.out.at (Ae.out.trans A7.out),Az.out.trans (zJ.ext (Ae.out.trans A7.out)),⟨_,by rw[hR];exact Cd.out⟩,λhb=>by have:=((H2.out.at Ae.out).lt _ hb).2;omega,Ca.out.ext A7.out,Cb.out.ext A7.out⟩
       exact Cf.nxt h6 g6)
      rw[<- hR];obtain⟨lfb,Br⟩:=Bq.out.nd;have d1:=Br.cell (o:=1) (v:=.slice ea n.entries.length ec) rfl;have Bs:Hid (rightN n=true):=oh (vW Af.out).1;have Bt:Hid ((n.entries.foldl (zN (zP D) s.gen s.size) (A2.good id)).few):=oh (by
       have h7:=HF.out;rw[HV.out] at h7;exact (zU (λB k=>yI (zP D) s.gen s.size f k B) _ _).few h7)
      obtain⟨EA,B9⟩:∃EA,EA=n.entries.foldl (zN (zP D) s.gen s.size) (A2.good id):=⟨_,rfl⟩;have Cg:=oh B9;rw[<- B9] at Bt HV;clear h6 g6 p0 hR B9 Ad Br;go_wp2_with fail;clear d1;go_loopg [56] n.entries.length (λq v56 wr=>∃(k:Nat) (B:zA) (fv1 iv1 lv1:Value),k+q=n.entries.length/\v56=.int .i64 (k:Int)/\Hid (vY w0 w wr kb mb d s g fv iv lv n R ea ka ia ec kc ic kn B fv1 iv1 lv1/\(n.entries.drop k).foldl (zN (zP D) s.gen s.size) B=EA))
      case atStart=>exact⟨0,A2.good id,fv6,iv6,lv6,by omega,rfl,oh ⟨Bq.out,Cg.out.symm⟩⟩
      case round =>
       obtain⟨k,B,fv7,iv7,lv7,Cv,rfl,HQ⟩:=hrel;by_cases Ba:k<n.entries.length
       .obtain⟨b5,off,Ch,hc⟩:=HQ.out.1.es.elem Ba (Mods.refl _ _);obtain⟨x,hx⟩:∃x,x=n.entries[k]:=⟨_,rfl⟩;rw[<- hx] at hc;have Bu:Hid (qD x.chain/\x.size<=4096):=oh (zAa Bs.out x (by rw[hx];exact wN Ba));have c0:=hc 0 _ rfl;simp only[wJ] at c0;have c1:=hc 1 _ rfl;have c2:=hc 2 _ rfl;have c3:=hc 3 _ rfl;subst Ch;have Ci:Hid (n.entries.drop k=x :: n.entries.drop (k+1)):=oh (by rw[hx];exact List.drop_eq_getElem_cons Ba);have Ax:Hid ((n.entries.drop (k+1)).foldl (zN (zP D) s.gen s.size) (zN (zP D) s.gen s.size B x)=EA):=oh (by have:=HQ.out.2;rw[Ci.out,wP] at this;exact this);have Bb:Hid ((zN (zP D) s.gen s.size B x).few):=oh (by have:=Bt.out;rw[<- Ax.out] at this;exact (zU (qE (zP D) s.gen s.size) _ _).few this);have Bv:=(zAc (zP D) s.gen s.size B x).few Bb.out;have Cj:B.keys<1000000:=by have:=Bv.2.2.2.2;simp only[zA.key] at this;omega
        have i1:(0:Int)<=(k:Int):=by omega
        have i2:(k:Int)<(n.entries.length:Int):=by omega
        have m8:Ext wr (wr.alloc (.cells #[.string x.key,.string x.value,.int .i64 x.chain,.int .i64 x.size] 228)):=(Mods.refl _ wr).alloc _;have h8:=HQ.out.1.ext m8;have Bw:Blk (wr.alloc (.cells #[.string x.key,.string x.value,.int .i64 x.chain,.int .i64 x.size] 228)) wr.heap.size #[.string x.key,.string x.value,.int .i64 x.chain,.int .i64 x.size] 228:=Blk.new wr _ _;have k11:=h8.st.blk.cell (o:=11) (v:=.int .i64 (B.keys:Int)) rfl;have kfr:=h8.st.blk.frozen;obtain⟨h9,g9⟩:=h8.st.keyd Bv;have Bc:=oh (h8.nxt h9 g9);have Bd:¬ qH kb mb fv7 iv7 lv7 wr.heap.size:=λhb=>by have:=(HQ.out.1.st.lt _ hb).2;omega
        obtain⟨Ag,Bx⟩:=g9.blk Bw Bd;have By:=oh (And.intro Ag Bx);have y0:=Ag.cell (o:=0) (v:=.string x.key) rfl;have y1:=Ag.cell (o:=1) (v:=.string x.value) rfl;have y2:=Ag.cell (o:=2) (v:=.int .i64 x.chain) rfl;have y3:=Ag.cell (o:=3) (v:=.int .i64 x.size) rfl;have Ck:wr.heap.size≠kb:=λe=>Bd (.inl e)
        have Cl:kb≠wr.heap.size:=λe=>Ck e.symm
        clear hc hx h8 Bw h9 g9 Ag Bx Bd m8;by_cases Ah:x.chain=0
        .have Ai:Hid (zN (zP D) s.gen s.size B x=B.key):=oh (by unfold zN;rw[if_pos Ah]);have Cm:(x.chain != 0)=false:=by rw[Ah];rfl
         clear Ah;go_wp2_with fail;go_roundg (gk-1)
         case measure=>omega
         case rel=>exact⟨k+1,B.key,fv7,iv7,lv7,by omega,by go_num,oh ⟨Bc.out,by rw[<- Ai.out];exact Ax.out⟩⟩
        .have Cm:(x.chain != 0)=true:=bne_iff_ne.2 Ah;obtain⟨cr,Ay⟩:∃c,c=zD (zP D) s.gen s.size x.size.toNat x.chain x.size B.key:=⟨_,rfl⟩;obtain⟨B1,ok⟩:=cr;have Ai:Hid (zN (zP D) s.gen s.size B x=if ok=true then B1 else B1.lose x.key):=oh (by unfold zN;rw[if_neg Ah,<- Ay]);have Bz:Hid (B1.few):=oh (by
          have h7:=Bb.out;rw[Ai.out] at h7;cases ok
          .exact (zA.le_lose _ _).few h7
          .exact h7)
         have Be:=oh (zAI HL.out HD.out HZ.out Bc.out.st x Bu.out.1 Bu.out.2 (by rw[<- Ay];exact Bz.out));rw[<- Ay] at Be;simp only at Be;clear Ah Ay;go_wp2_with fail;refine Be.out.mono ?_;rintro e10 w10 ⟨rfl,fv10,iv10,lv10,C0,g10⟩;have A0:=oh (Bc.out.nxt C0 g10);have Bf:=oh (g10.blk By.out.1 By.out.2);clear C0 g10 y0 y1 y2 y3 k11 kfr c0 c1 c2 c3;cases ok
         .obtain⟨la,lc,rfl, -, -⟩:=_root_.id A0.out.st.rl.form;have C1:Hid (Own (λ_=>False) (w10.drew.alloc (.cells #[.string x.key] 9)) w0.heap.size 9 1 encS (.slice la B1.lost.length lc) B1.lost):=oh ((A0.out.st.rl.ext (Mods.refl _ _).drew).ext ((Mods.refl _ _).alloc (.cells #[.string x.key] 9)));have Aq:Hid (Blk (w10.drew.alloc (.cells #[.string x.key] 9)) kb (lkC d mb s g B1 fv10 iv10 (.slice la B1.lost.length lc)) 135):=oh ((A0.out.st.blk.drew).alloc _);have Cw:w0.heap.size<=w10.heap.size:=A0.out.st.ext.size;have Cn:Hid (B1.lost.length<=100000):=oh Bz.out.2.2.2.1;have k12:=A0.out.st.blk.cell (o:=12) (v:=.slice la B1.lost.length lc) rfl;have k12b:=λo=>cellE ((Mods.refl _ _).alloc o) k12
          have kfr:=A0.out.st.blk.frozen 12;have y0:=Bf.out.1.cell (o:=0) (v:=.string x.key) rfl;go_wp2_with fail;go_region_law
           (first
            | (refine step_app2 Tryz.elS encS_ok (by rfl) _ _ (by rfl) w0.heap.size (.slice la B1.lost.length lc) _ B1.lost [x.key] (by rfl) (by rfl) C1.out (Sl.one (F:=λ_=>False) (heap_at (by simp)) (λf=>f)) (by have:=Cn.out;simp only[uB,uD];omega) (by simp;omega) (λf=>f) ?_;simp only[uB,uD,wF];intro a11 c11 w11 Ar A8 A6;have A9:=Aq.out.mods A8 (λe=>Own.notB C1.out Aq.out (by decide) _ e rfl);have z12:=A9.cell (o:=12) (v:=.slice la B1.lost.length lc) rfl;have zf:=A9.frozen 12;clear A9)
            | fail)
          all_goals
           obtain⟨As,g12⟩:=(A0.out.st.at (Mods.refl _ w10).drew).losed (k:=x.key) (by have h7:=Bb.out;rw[Ai.out,if_neg (by simp)] at h7;exact h7) Ar A8 A6;have Aa:=oh ((A0.out.ext (Mods.refl _ w10).drew).nxt As g12);clear As g12 Ar A8 A6 z12 zf k12 k12b kfr y0;go_wp2_with fail;go_roundg (gk-1)
           case measure=>omega
           case rel=>exact⟨k+1,B1.lose x.key,fv10,iv10,_,by omega,by go_num,oh ⟨Aa.out,by have h7:=Ax.out;rw[Ai.out,if_neg (by simp)] at h7;exact h7⟩⟩
         .go_wp2_with fail;go_roundg (gk-1)
          case measure=>omega
          case rel=>exact⟨k+1,B1,fv10,iv10,lv10,by omega,by go_num,oh ⟨A0.out,by have h7:=Ax.out;rw[Ai.out,if_pos (by trivial)] at h7;exact h7⟩⟩
       .have Co:Hid (B=EA):=oh (by have:=HQ.out.2;rw[List.drop_eq_nil_of_le (by omega)] at this;exact this);obtain⟨lfc,At⟩:=HQ.out.1.nd;have d3:=At.cell (o:=3) (v:=.slice ia n.kids.length ic) rfl;have Cp:=oh HQ.out.1;clear HQ At;go_wp2_with fail;clear d3;go_loopg [95] n.kids.length (λq v95 wr=>∃(k:Nat) (B:zA) (fv1 iv1 lv1:Value),k+q=n.kids.length/\v95=.int .i64 (k:Int)/\Hid (vY w0 w wr kb mb d s g fv iv lv n R ea ka ia ec kc ic kn B fv1 iv1 lv1/\(n.kids.drop k).foldl (λC i=>zH (zP D) s.gen s.size f i C) B=zH (zP D) s.gen s.size (f+1) id A))
        case atStart=>exact⟨0,B,fv7,iv7,lv7,by omega,rfl,oh ⟨Cp.out,by rw[HV.out,Co.out];rfl⟩⟩
        case round =>
         obtain⟨k2,B2,fv8,iv8,lv8,Cq,rfl,Ab⟩:=hrel;by_cases Ac:k2<n.kids.length
         .obtain⟨b6,off6,Cr,C2⟩:=Ab.out.1.is.elem Ac (Mods.refl _ _);obtain⟨kid,A4⟩:∃i,i=n.kids[k2]:=⟨_,rfl⟩;have d0:=C2 0 (.int .i64 kid) (by rw[A4];rfl);simp only[Nat.mul_one,wJ] at d0;subst Cr;have Bg:Hid (n.kids.drop k2=kid :: n.kids.drop (k2+1)):=oh (by rw[A4];exact List.drop_eq_getElem_cons Ac);have Au:Hid ((n.kids.drop (k2+1)).foldl (λC i=>zH (zP D) s.gen s.size f i C) (zH (zP D) s.gen s.size f kid B2)=zH (zP D) s.gen s.size (f+1) id A):=oh (by have:=Ab.out.2;rw[Bg.out,wP] at this;exact this);have Cs:=oh (C4.out f rfl _ B2 fv8 iv8 lv8 kid (dep+1) Ab.out.1.st (zAb Bs.out kid (by rw[A4];exact wN Ac)) (by have:=Av.out;omega) (by have:=HF.out;rw[<- Au.out] at this;exact (zU (λB k=>yI (zP D) s.gen s.size f k B) _ _).few this));have i1:(0:Int)<=(k2:Int):=by omega
          have i2:(k2:Int)<(n.kids.length:Int):=by omega
          have Cx : -100<=dep/\dep<=17:=by have:=Av.out;omega
          clear C2 A4;go_wp2_with fail;refine Cs.out.mono ?_;rintro e12 w12 ⟨rfl,fv12,iv12,lv12,As,g12⟩;have Aa:=oh (Ab.out.1.nxt As g12);clear As g12 d0;go_wp2_with fail;go_roundg (gk-1)
          case measure=>omega
          case rel=>exact⟨k2+1,_,fv12,iv12,lv12,by omega,by go_num,oh ⟨Aa.out,Au.out⟩⟩
         .go_wp2_with fail;first|go_end0|(refine bodyPost_ret (results_none rfl _ _ _) rfl ?_)
          have h7:=Ab.out.2;rw[List.drop_eq_nil_of_le (by omega)] at h7;rw[<- h7];exact⟨rfl,fv8,iv8,lv8,Ab.out.1.st,Ab.out.1.go⟩
   .have Af:Hid (∃r,decodeA ⟨xk,xi,xg,xb⟩=.inr r):=oh ⟨_,by unfold decodeA;simp only[if_neg hk];rfl⟩;have Ct:xk≠3:=λe=>hk (.inl e)
    have Bi:xk≠2:=λe=>hk (.inr e)
    have q3:(xk == (3:Int))=false:=uH.2 Ct;have q2:(xk == (2:Int))=false:=uH.2 Bi;have Ao:=oh (FIND.out _ (Ae.out.trans A7.out) (.inr Af.out));rw[q3] at Ad;subst Ad;clear hk;go_wp2_with fail;refine Ao.out.mono ?_;rintro e6 w6 ⟨rfl,A5⟩;have Ap:=oh A5;clear A5;go_wp2_with fail;first|go_end0|(refine bodyPost_ret (results_none rfl _ _ _) rfl ?_)
    exact⟨rfl,Ap.out⟩
  .have Af:Hid (∃r,decodeA ⟨xk,xi,xg,xb⟩=.inr r):=oh (by
    unfold decodeA;by_cases hk:xk=3\/xk=2
    .simp only[if_pos hk,Bm.out,An];exact⟨_,rfl⟩
    .simp only[if_neg hk];exact⟨_,rfl⟩)
   have Ao:=oh (FIND.out _ ((Aw.out.trans m4).trans ((Mods.refl _ w4).alloc (.cells #[.bool false,.slice none 0 0,.slice none 0 0,.slice none 0 0] 174))) (.inr Af.out));clear An hE m4 p0 p3;unfold faultV;go_wp2_with fail;refine Ao.out.mono ?_;rintro e6 w6 ⟨rfl,A5⟩;have Ap:=oh A5;clear A5;go_wp2_with fail;first|go_end0|(refine bodyPost_ret (results_none rfl _ _ _) rfl ?_)
   exact⟨rfl,Ap.out⟩
end
end Go.Proofs.YteabpacpngaoaaaGreatDoor
