import Derived.Test.YtalpfcaakpgkmaaGreatDoorR46
import Derived.Deep.RegionLawGrows
import Derived.Laws.StructEq
namespace Go.Proofs.YtalpfcaakpgkmaaGreatDoor
open Lib renaming hid->oh
set_option maxHeartbeats 4000000
set_option maxRecDepth 100000
section
open Go.RowKit Go.Maps
attribute [local go_sem ↓] Go.wp_at_zero Go.wp_at_succ
section
variable {ad:Nat->Addr}{w0 w w' wr w2:World}{kb mb d:Nat}{s:yG}{g:Int}{A A1 A2:yP}{fv iv lv fv1 iv1 lv1 fv2 iv2 lv2:Value}{P:NP}{D:zJ}
theorem LkS.keyd(h:LkS w0 w kb mb d s g A fv iv lv)(hf:A.key.few):LkS w0 (w.setCell ⟨kb,11,none⟩ (.int .i64 ((A.keys:Int)+1))) kb mb d s g A.key fv iv lv/\zAJ kb mb fv iv lv fv iv lv w (w.setCell ⟨kb,11,none⟩ (.int .i64 ((A.keys:Int)+1))):=by
 have m:zA (λk=>k=kb) w (w.setCell ⟨kb,11,none⟩ (.int .i64 ((A.keys:Int)+1))):=zA.setCell (F:=λk=>k=kb) (zss w) (p:=⟨kb,11,none⟩) (.inr rfl) _;refine⟨⟨h.ext.trans' m (λi hi e=>by have:=h.new.1;omega),h.new,?_,h.seen.mods m (λe=>h.off e.symm),h.rf.mods m (λg hg e=>yC.notB h.rf h.blk (by decide) g hg e),h.ri.mods m (λg hg e=>yC.notB h.ri h.blk (by decide) g hg e),h.rl.mods m (λg hg e=>yC.notB h.rl h.blk (by decide) g hg e),hf⟩,m.mono (λk e=>.inl e),λ_ h=>.inl h⟩;have hb:=h.blk.set 11 (.int .i64 ((A.keys:Int)+1));simpa[lkC,yP.key] using hb
theorem LkS.losed{k:ByteArray}{X:Obj}{w4:World}{lv':Value}(h:LkS w0 w kb mb d s g A fv iv lv)(hf:(A.lose k).few)(hO:yC (λ_=>False) w4 w0.heap.size 9 1 vW lv' (A.lost++[k]))(hm:zA (λk=>lv.ownBlock=some k) (w.alloc X) w4)(Cp:lv'.ownBlock=lv.ownBlock\/lv'.ownBlock=some (w.alloc X).heap.size) :
  LkS w0 (w4.setCell ⟨kb,12,none⟩ lv') kb mb d s g (A.lose k) fv iv lv'/\zAJ kb mb fv iv lv fv iv lv' w (w4.setCell ⟨kb,12,none⟩ lv'):=by
 have Bw:=(h.blk.alloc X).mods hm (λe=>yC.notB h.rl h.blk (by decide) _ e rfl);have m5:zA (λk=>k=kb) w4 (w4.setCell ⟨kb,12,none⟩ lv'):=zA.setCell (F:=λk=>k=kb) (zss w4) (p:=⟨kb,12,none⟩) (.inr rfl) _;have m4:zA (λk=>lv.ownBlock=some k\/k=kb) w (w4.setCell ⟨kb,12,none⟩ lv'):=(((zss w).alloc _).trans (hm.mono (λk e=>.inl e))).trans (m5.mono (λk e=>.inr e));refine⟨⟨h.ext.trans' m4 (λi hi hq=>?_),h.new,?_,h.seen.mods m4 (λhq=>?_),h.rf.mods m4 (λg hg hq=>?_),h.ri.mods m4 (λg hg hq=>?_),hO.mods m5 (λg hg e=>yC.notB hO Bw (by decide) g hg e),hf⟩,m4.mono (λk hk=>hk.elim (λe=>.inr (.inr (.inr (.inr e)))) .inl),?_⟩
 .rcases hq with e|e
  .have:=(h.rl.lt i e).1;omega
  .have:=h.new.1;omega
 .have hb:=Bw.set 12 lv';simpa[lkC,yP.lose] using hb
 .rcases hq with e|e
  .exact yC.notM h.rl h.seen _ e rfl
  .exact h.off e.symm
 .rcases hq with e|e
  .exact yC.notO h.rf h.rl (by decide) g hg e
  .exact yC.notB h.rf h.blk (by decide) g hg e
 .rcases hq with e|e
  .exact yC.notO h.ri h.rl (by decide) g hg e
  .exact yC.notB h.ri h.blk (by decide) g hg e
 .rintro i (e|e|e|e|e)
  .exact .inl (.inl e)
  .exact .inl (.inr (.inl e))
  .exact .inl (.inr (.inr (.inl e)))
  .exact .inl (.inr (.inr (.inr (.inl e))))
  .rcases Cp with h|h
   .exact .inl (.inr (.inr (.inr (.inr (h ▸ e)))))
   .rw[h] at e;injection e with e;simp at e;right;omega
structure zJM(w0 w wr:World)(kb mb d:Nat)(s:yG)(g:Int)(fv iv lv:Value)(n:zI)(R:Nat)(ea ka ia:Option Addr)(ec kc ic kn:Nat)(A1:yP)(fv1 iv1 lv1:Value):Prop where
 st:LkS w0 wr kb mb d s g A1 fv1 iv1 lv1
 go:zAJ kb mb fv iv lv fv1 iv1 lv1 w wr
 nd:∃b:Bool,zG wr R #[.bool b,.slice ea n.entries.length ec,.slice ka kn kc,.slice ia n.kids.length ic] 200
 nb:¬ LkB kb mb fv1 iv1 lv1 R
 es:Sl (LkB kb mb fv1 iv1 lv1) wr 4 zAQ (.slice ea n.entries.length ec) n.entries
 is:Sl (LkB kb mb fv1 iv1 lv1) wr 1 yI (.slice ia n.kids.length ic) n.kids
theorem zJM.nxt{n:zI}{R:Nat}{ea ka ia:Option Addr}{ec kc ic kn:Nat}(h:zJM w0 w wr kb mb d s g fv iv lv n R ea ka ia ec kc ic kn A1 fv1 iv1 lv1)(h2:LkS w0 w2 kb mb d s g A2 fv2 iv2 lv2)(g2:zAJ kb mb fv1 iv1 lv1 fv2 iv2 lv2 wr w2):zJM w0 w w2 kb mb d s g fv iv lv n R ea ka ia ec kc ic kn A2 fv2 iv2 lv2 :=
 by
 obtain⟨b,hb⟩:=h.nd;exact⟨h2,h.go.trans g2,⟨b,(g2.blk hb h.nb).1⟩,(g2.blk hb h.nb).2,g2.sl h.es,g2.sl h.is⟩
theorem zJM.ext{n:zI}{R:Nat}{ea ka ia:Option Addr}{ec kc ic kn:Nat}(h:zJM w0 w wr kb mb d s g fv iv lv n R ea ka ia ec kc ic kn A1 fv1 iv1 lv1)(m:zF wr w2):zJM w0 w w2 kb mb d s g fv iv lv n R ea ka ia ec kc ic kn A1 fv1 iv1 lv1:=h.nxt (h.st.at m) (zAJ.ext m)
def zK4(w0:World)(kb mb d:Nat)(s:yG)(g:Int)(D:zJ)(f:Nat):Prop :=
 ∀(w:World) (A:yP) (fv iv lv:Value) (id dep:Int),LkS w0 w kb mb d s g A fv iv lv->zGF id->1<=dep/\dep+f=17->(yZ (dkQ D) s.gen s.size f id A).few ->
  Calls Tryz.prog 93 #[.pointer (some ⟨kb,0,none⟩),.int .i64 id,.int .i64 dep] w λe w'=>e=.returned (.tuple #[])/\zQw w0 kb mb d s g fv iv lv w (yZ (dkQ D) s.gen s.size f id A) w'
theorem zMW{Q:Int->Option zY}{gen z f:Nat}{id:Int}{B:yP}(h:jE Q gen A id 3=(B,none)):yZ Q gen z f id A=B:=by
 cases f <;> rw[yZ,h]
theorem zMX{Q:Int->Option zY}{gen z f:Nat}{id:Int}{B:yP}{p:zY}(h:jE Q gen A id 3=(B,some p))(hb:f=0\/∃r,qJ p=.inr r):yZ Q gen z f id A=B.find id 3:=by
 cases f with
 | zero=>rw[yZ,h]
 | succ f =>
  rcases hb with hb|⟨r,hb⟩
  .cases hb
  .rw[yZ,h];simp only[hb]
theorem zPk{Q:Int->Option zY}{gen z f:Nat}{id:Int}{B:yP}{p:zY}{n:zI}(h:jE Q gen A id 3=(B,some p))(hb:qJ p=.inl n):yZ Q gen z (f+1) id A=n.kids.foldl (λC k=>yZ Q gen z f k C) (n.entries.foldl (zBD Q gen z) (B.good id)):=by
 rw[yZ,h];simp only[hb]
theorem zHS{Q:Int->Option zY}{gen:Nat}{id what:Int}{o:Option zY}(h:(jE Q gen A id what).2=o):jE Q gen A id what=((jE Q gen A id what).1,o):=by rw[<- h]
theorem zMY{Q:Int->Option zY}{gen z f:Nat}{id:Int}(hf:(yZ Q gen z f id A).few):(jE Q gen A id 3).1.few:=by
 refine yP.le.few ?_ hf;cases f with
 | zero =>
  rw[yZ];split
  .rename_i B he;rw[he];exact B.le_refl
  .rename_i B x he;rw[he];exact yP.le_find _ _ _
 | succ f =>
  rw[yZ];split
  .rename_i B he;rw[he];exact B.le_refl
  .rename_i B x he;rw[he];split
   .exact yP.le_find _ _ _
   .exact ((yP.le_good _ _).trans (zCV (zGL Q gen z) _ _)).trans (zCV (λB k=>zDw Q gen z f k B) _ _)
theorem zNp{n:zI}(h:zO n=true):∀e∈n.entries,zGF e.chain/\e.size<=4096:=by
 intro e he;unfold zO at h;split at h
 .simp only[uI,tA] at h;have hr:=h.1.1.1.1 e he;unfold qR at hr;simp only[uI] at hr;have h2:=hr.2;split at h2
  .rename_i h0;simp only[uI,uO] at h2;exact⟨(Lit.wf_int_iff .i64 _).2 (by simp[IntKind.min,IntKind.max,IntKind.signed,IntKind.bits];omega),by omega⟩
  .simp only[uI,uO] at h2;have hk:=h2.1.1.1;have Bx:2<=e.chain/\e.chain<256:=by simpa[zCn] using hk
   exact⟨(Lit.wf_int_iff .i64 _).2 (by simp[IntKind.min,IntKind.max,IntKind.signed,IntKind.bits];omega),h2.2⟩
 .simp only[uI,wR] at h;have:=h.1.1.1.1.1.1.1;rw[this] at he;cases he
theorem zNq{n:zI}(h:zO n=true):∀k∈n.kids,zGF k:=by
 intro k hk;cases hl:n.leaf with
 | false =>
  have:=(zB2 h hl).2.2 k hk;exact (Lit.wf_int_iff .i64 _).2 (by simp[IntKind.min,IntKind.max,IntKind.signed,IntKind.bits];omega)
 | true =>
  unfold zO at h;rw[if_pos hl] at h;simp only[uI,wR] at h;rw[h.1.1.2] at hk;cases hk
theorem zNr(Q:Int->Option zY)(gen z:Nat)(A:yP)(e:zM):A.key.le (zBD Q gen z A e):=by
 unfold zBD;split
 .exact yP.le_refl _
 .have h:=zDT Q gen z e.size.toNat e.chain e.size A.key;split
  .exact h
  .exact h.trans (yP.le_lose _ _)
theorem zHT(hL:yH NoB ad w0)(hD:DkS w0 P d D)(hz:256<=s.size/\s.size<=1024)(f:Nat)(Ak:∀f',f=f'+1->zK4 w0 kb mb d s g D f'):zK4 w0 kb mb d s g D f:=by
 intro w A fv iv lv id dep h hid Al hf;have H:=oh h;have HL:=oh hL;have HD:=oh hD;have HF:=oh hf;have Cq:=oh Ak;have HZ:=oh hz;have B3:=oh Al;have Cr:=oh hid;clear h hL hD hf Ak hz Al hid
 go_enter Tryz.func93, Tryz.ntmps93
 go_wp2_with fail;refine (zIs HL.out HD.out H.out id Cr.out 3 (zMY HF.out)).mono ?_;intro x w2 hx;obtain⟨fv2,h2,g2,hx⟩:=hx.form;have Ba:=oh g2;have H2:=oh h2;clear h2 g2;rcases hx with ⟨ho,rfl⟩|⟨p,pa,pc,ho,rfl,Bb,Bc,Cs,Dq⟩
 .have HO:=oh (zMW (z:=s.size) (f:=f) (zHS ho));have HX:Hid (zF w2 (w2.alloc gE)):=oh ((zss w2).alloc _);clear ho;go_wp2_with fail;first|go_end0|(refine bodyPost_ret (results_none rfl _ _ _) rfl ?_)
  rw[HO.out];exact⟨rfl,fv2,iv,lv,H2.out.at HX.out,Ba.out.trans (zAJ.ext HX.out)⟩
 .obtain⟨A2,B4⟩:∃A2,A2=(jE (dkQ D) s.gen A id 3).1:=⟨_,rfl⟩;have Bd:=zHS ho;obtain⟨xk,xi,xg,xb⟩:=p;simp only at Bb Bc Cs;rw[<- B4] at Bd H2;have By:=oh Bd;have Ct:=oh Bb;have Am:zF w2 (w2.alloc (.cells #[.int .i64 xk,.int .i64 xi,.int .u64 (xg:Int),.slice pa xb.length pc] 221)):=(zss w2).alloc _;have B5:=oh Am;have Be:=oh (zG.new w2 #[.int .i64 xk,.int .i64 xi,.int .u64 (xg:Int),.slice pa xb.length pc] 221);have p0:=Be.out.d 0 (.int .i64 xk) rfl;have p3:=Be.out.d 3 (.slice pa xb.length pc) rfl;obtain⟨lf,Ae⟩:∃lf,(xk == (3:Int))=lf:=⟨_,rfl⟩;have An:decide (xk=3)=lf:=by rw[<- Ae];rfl
  have Bz:=oh An;have Cu:=oh ((H2.out.at B5.out).env HL.out);have Cv:=oh (zHH Cu.out lf (.slice pa xb.length pc) xb (Ct.out.ext B5.out) Bc);have FIND:Hid (∀W,zF w2 W->(f=0\/∃r,qJ ⟨xk,xi,xg,xb⟩=.inr r) -> Calls Tryz.prog 153 #[.pointer (some ⟨kb,0,none⟩),.int .i64 id,.int .i64 3] W λe w'=>e=.returned (.tuple #[])/\zQw w0 kb mb d s g fv iv lv w (yZ (dkQ D) s.gen s.size f id A) w'):=oh (λW m hb=>by
   have hv:=zMX (z:=s.size) By.out hb;have Ao:=HF.out;rw[hv] at Ao ⊢;refine (zCR (H2.out.at m) id 3 Ao).mono ?_;rintro e w' ⟨rfl,fv',k1,k2⟩;exact⟨rfl,fv',iv,lv,k1,(Ba.out.trans (zAJ.ext m)).trans k2⟩)
  clear ho B4 Bd Bb Am An Bc;go_wp2_with fail;refine Cv.out.mono ?_;rintro e4 w4 ⟨m4,⟨n,ve,vk,vi,Ap,rfl,Bf,C0,Bg⟩|⟨Ap,fe,rfl,hE⟩⟩
  .obtain⟨ea,ec,rfl,a1,a2, -⟩:=_root_.id Bf;obtain⟨ka,kc,rfl, -⟩:=_root_.id C0;obtain⟨ia,ic,rfl,c1,c2, -⟩:=_root_.id Bg;unfold maxLen at a2 c2;have Cw:=oh Bf;have Cx:=oh Bg;have Cy:=oh Ap;obtain⟨kn,C1⟩:∃kn,kn=n.keys.length:=⟨_,rfl⟩;rw[<- C1];have m5:zF w4 (w4.alloc (.cells #[.bool lf,.slice ea n.entries.length ec,.slice ka kn kc,.slice ia n.kids.length ic] 200)):=(zss w4).alloc _;have Af:=oh (B5.out.trans m4);have A8:=oh m5;have C2:=(Be.out.ext m4).ext m5;have p0:=C2.d 0 (.int .i64 xk) rfl;have Cz:=oh (zG.new w4 #[.bool lf,.slice ea n.entries.length ec,.slice ka kn kc,.slice ia n.kids.length ic] 200);clear Bf C0 Bg Ap m4 m5 C2 C1 p3;by_cases hk:xk=3\/xk=2
   .have Ag:Hid (qJ ⟨xk,xi,xg,xb⟩=.inl n):=oh (by
     unfold qJ;simp only[if_pos hk,Bz.out,Cy.out])
    cases f with
    | zero =>
     have Bh:(16:Int)<dep:=by have:=B3.out;omega
     have Aq:=oh (FIND.out _ (Af.out.trans A8.out) (.inl rfl));rcases hk with rfl|rfl
     all_goals
      have A3:=Ae.symm;simp only[beq_self_eq_true,Int.reduceBEq] at A3;subst A3;go_wp2_with fail;refine Aq.out.mono ?_;rintro e6 w6 ⟨rfl,A6⟩;have Ar:=oh A6;clear A6;go_wp2_with fail;first|go_end0|(refine bodyPost_ret (results_none rfl _ _ _) rfl ?_)
      exact⟨rfl,Ar.out⟩
    | succ f =>
     have Bh:¬ (16:Int)<dep:=by have:=B3.out;omega
     have HV:=oh (zPk (z:=s.size) (f:=f) By.out Ag.out);have D0:=oh (zIh (H2.out.at (Af.out.trans A8.out)) id (by
      have h7:=HF.out;rw[HV.out] at h7;exact ((zCV (zGL (dkQ D) s.gen s.size) _ _).trans (zCV (λB k=>zDw (dkQ D) s.gen s.size f k B) _ _)).few h7))
     rcases hk with rfl|rfl
     all_goals
      have A3:=Ae.symm;simp only[beq_self_eq_true,Int.reduceBEq] at A3;subst A3;go_wp2_with fail;refine D0.out.mono ?_;rintro e6 w6 ⟨rfl,fv6,iv6,lv6,h6,g6⟩;obtain⟨R,hR⟩:∃R,R=w4.heap.size:=⟨_,rfl⟩;have C3:Hid (zJM w0 w w6 kb mb d s g fv iv lv n R ea ka ia ec kc ic kn (A2.good id) fv6 iv6 lv6):=oh (by
       have D1:zJM w0 w _ kb mb d s g fv iv lv n R ea ka ia ec kc ic kn A2 fv2 iv lv :=
        ⟨H2.out.at (Af.out.trans A8.out),Ba.out.trans (zAJ.ext (Af.out.trans A8.out)),⟨_,by rw[hR];exact Cz.out⟩,λhb=>by have:=((H2.out.at Af.out).lt _ hb).2;omega,Cw.out.ext A8.out,Cx.out.ext A8.out⟩
       exact D1.nxt h6 g6)
      rw[<- hR];obtain⟨lfb,C4⟩:=C3.out.nd;have d1:=C4.d 1 (.slice ea n.entries.length ec) rfl;have C5:Hid (zO n=true):=oh (zFR Ag.out).1;have C6:Hid ((n.entries.foldl (zBD (dkQ D) s.gen s.size) (A2.good id)).few):=oh (by
       have h7:=HF.out;rw[HV.out] at h7;exact (zCV (λB k=>zDw (dkQ D) s.gen s.size f k B) _ _).few h7)
      obtain⟨EA,Bi⟩:∃EA,EA=n.entries.foldl (zBD (dkQ D) s.gen s.size) (A2.good id):=⟨_,rfl⟩;have D2:=oh Bi;rw[<- Bi] at C6 HV;clear h6 g6 p0 hR Bi Ae C4;go_wp2_with fail;clear d1;go_loopg [56] n.entries.length (λq v56 wr=>∃(k:Nat) (B:yP) (fv1 iv1 lv1:Value),k+q=n.entries.length/\v56=.int .i64 (k:Int)/\Hid (zJM w0 w wr kb mb d s g fv iv lv n R ea ka ia ec kc ic kn B fv1 iv1 lv1/\(n.entries.drop k).foldl (zBD (dkQ D) s.gen s.size) B=EA))
      case atStart=>exact⟨0,A2.good id,fv6,iv6,lv6,by omega,rfl,oh ⟨C3.out,D2.out.symm⟩⟩
      case round =>
       obtain⟨k,B,fv7,iv7,lv7,Dr,rfl,HQ⟩:=hrel;by_cases B6:k<n.entries.length
       .obtain⟨b5,off,D3,hc⟩:=HQ.out.1.es.elem B6 zr;obtain⟨x,hx⟩:∃x,x=n.entries[k]:=⟨_,rfl⟩;rw[<- hx] at hc;have C7:Hid (zGF x.chain/\x.size<=4096):=oh (zNp C5.out x (by rw[hx];exact tB B6));have c0:=hc 0 _ rfl;simp only[uT] at c0;have c1:=hc 1 _ rfl;have c2:=hc 2 _ rfl;have c3:=hc 3 _ rfl;subst D3;have D4:Hid (n.entries.drop k=x :: n.entries.drop (k+1)):=oh (by rw[hx];exact wD B6);have B7:Hid ((n.entries.drop (k+1)).foldl (zBD (dkQ D) s.gen s.size) (zBD (dkQ D) s.gen s.size B x)=EA):=oh (by have:=HQ.out.2;rw[D4.out,tM] at this;exact this);have Bj:Hid ((zBD (dkQ D) s.gen s.size B x).few):=oh (by have:=C6.out;rw[<- B7.out] at this;exact (zCV (zGL (dkQ D) s.gen s.size) _ _).few this);have C8:=(zNr (dkQ D) s.gen s.size B x).few Bj.out;have D5:B.keys<1000000:=by have:=C8.2.2.2.2;simp only[yP.key] at this;omega
        have i1:(0:Int)<=(k:Int):=by omega
        have i2:(k:Int)<(n.entries.length:Int):=by omega
        have m8:zF wr (wr.alloc (.cells #[.string x.key,.string x.value,.int .i64 x.chain,.int .i64 x.size] 208)):=(zss wr).alloc _;have h8:=HQ.out.1.ext m8;have C9:zG (wr.alloc (.cells #[.string x.key,.string x.value,.int .i64 x.chain,.int .i64 x.size] 208)) wr.heap.size #[.string x.key,.string x.value,.int .i64 x.chain,.int .i64 x.size] 208:=zG.new wr _ _;have k11:=h8.st.blk.d 11 (.int .i64 (B.keys:Int)) rfl;have kfr:=h8.st.blk.frozen;obtain⟨h9,g9⟩:=h8.st.keyd C8;have Bk:=oh (h8.nxt h9 g9);have Bl:¬ LkB kb mb fv7 iv7 lv7 wr.heap.size:=λhb=>by have:=(HQ.out.1.st.lt _ hb).2;omega
        obtain⟨Ah,Ca⟩:=g9.blk C9 Bl;have Cb:=oh (And.intro Ah Ca);have y0:=Ah.d 0 (.string x.key) rfl;have y1:=Ah.d 1 (.string x.value) rfl;have y2:=Ah.d 2 (.int .i64 x.chain) rfl;have y3:=Ah.d 3 (.int .i64 x.size) rfl;have D6:wr.heap.size≠kb:=λe=>Bl (.inl e)
        have D7:kb≠wr.heap.size:=λe=>D6 e.symm
        clear hc hx h8 C9 h9 g9 Ah Ca Bl m8;by_cases Ai:x.chain=0
        .have Aj:Hid (zBD (dkQ D) s.gen s.size B x=B.key):=oh (by unfold zBD;rw[if_pos Ai]);have D8:(x.chain != 0)=false:=by rw[Ai];rfl
         clear Ai;go_wp2_with fail;go_roundg (gk-1)
         case measure=>omega
         case rel=>exact⟨k+1,B.key,fv7,iv7,lv7,by omega,by go_num,oh ⟨Bk.out,by rw[<- Aj.out];exact B7.out⟩⟩
        .have D8:(x.chain != 0)=true:=bne_iff_ne.2 Ai;obtain⟨cr,B8⟩:∃c,c=yU (dkQ D) s.gen s.size x.size.toNat x.chain x.size B.key:=⟨_,rfl⟩;obtain⟨B1,ok⟩:=cr;have Aj:Hid (zBD (dkQ D) s.gen s.size B x=if ok=true then B1 else B1.lose x.key):=oh (by unfold zBD;rw[if_neg Ai,<- B8]);have Cc:Hid (B1.few):=oh (by
          have h7:=Bj.out;rw[Aj.out] at h7;cases ok
          .exact (yP.le_lose _ _).few h7
          .exact h7)
         have Bm:=oh (zMV HL.out HD.out HZ.out Bk.out.st x C7.out.1 C7.out.2 (by rw[<- B8];exact Cc.out));rw[<- B8] at Bm;simp only at Bm;clear Ai B8;go_wp2_with fail;refine Bm.out.mono ?_;rintro e10 w10 ⟨rfl,fv10,iv10,lv10,Cd,g10⟩;have A0:=oh (Bk.out.nxt Cd g10);have Bn:=oh (g10.blk Cb.out.1 Cb.out.2);clear Cd g10 y0 y1 y2 y3 k11 kfr c0 c1 c2 c3;cases ok
         .obtain⟨la,lc,rfl, -, -⟩:=_root_.id A0.out.st.rl.form;have Ce:Hid (yC (λ_=>False) (w10.drew.alloc (.cells #[.string x.key] 9)) w0.heap.size 9 1 vW (.slice la B1.lost.length lc) B1.lost):=oh ((A0.out.st.rl.ext zr.drew).ext (zr.alloc (.cells #[.string x.key] 9)));have As:Hid (zG (w10.drew.alloc (.cells #[.string x.key] 9)) kb (lkC d mb s g B1 fv10 iv10 (.slice la B1.lost.length lc)) 101):=oh ((A0.out.st.blk.drew).alloc _);have Ds:w0.heap.size<=w10.heap.size:=A0.out.st.ext.size;have D9:Hid (B1.lost.length<=100000):=oh Cc.out.2.2.2.1;have k12:=A0.out.st.blk.d 12 (.slice la B1.lost.length lc) rfl;have k12b:=λo=>zE (zr.alloc o) k12
          have kfr:=A0.out.st.blk.frozen 12;have y0:=Bn.out.1.d 0 (.string x.key) rfl;go_wp2_with fail;go_region_law
           (first
            | (refine zFC Tryz.elS zBm (by rfl) _ _ (by rfl) w0.heap.size (.slice la B1.lost.length lc) _ B1.lost [x.key] (by rfl) (by rfl) Ce.out (Sl.one (F:=λ_=>False) (zS (by simp)) (λf=>f)) (by have:=D9.out;simp only[uG,uL];omega) (by simp;omega) (λf=>f) ?_;simp only[uG,uL,wG];intro a11 c11 w11 At A9 A7;have Aa:=As.out.mods A9 (λe=>yC.notB Ce.out As.out (by decide) _ e rfl);have z12:=Aa.d 12 (.slice la B1.lost.length lc) rfl;have zf:=Aa.frozen 12;clear Aa)
            | fail)
          all_goals
           obtain⟨Au,g12⟩:=(A0.out.st.at (zss w10).drew).losed (k:=x.key) (by have h7:=Bj.out;rw[Aj.out,if_neg (by simp)] at h7;exact h7) At A9 A7;have Ab:=oh ((A0.out.ext (zss w10).drew).nxt Au g12);clear Au g12 At A9 A7 z12 zf k12 k12b kfr y0;go_wp2_with fail;go_roundg (gk-1)
           case measure=>omega
           case rel=>exact⟨k+1,B1.lose x.key,fv10,iv10,_,by omega,by go_num,oh ⟨Ab.out,by have h7:=B7.out;rw[Aj.out,if_neg (by simp)] at h7;exact h7⟩⟩
         .go_wp2_with fail;go_roundg (gk-1)
          case measure=>omega
          case rel=>exact⟨k+1,B1,fv10,iv10,lv10,by omega,by go_num,oh ⟨A0.out,by have h7:=B7.out;rw[Aj.out,if_pos (by trivial)] at h7;exact h7⟩⟩
       .have Da:Hid (B=EA):=oh (by have:=HQ.out.2;rw[tG (by omega)] at this;exact this);obtain⟨lfc,Av⟩:=HQ.out.1.nd;have d3:=Av.d 3 (.slice ia n.kids.length ic) rfl;have Db:=oh HQ.out.1;clear HQ Av;go_wp2_with fail;clear d3;go_loopg [95] n.kids.length (λq v95 wr=>∃(k:Nat) (B:yP) (fv1 iv1 lv1:Value),k+q=n.kids.length/\v95=.int .i64 (k:Int)/\Hid (zJM w0 w wr kb mb d s g fv iv lv n R ea ka ia ec kc ic kn B fv1 iv1 lv1/\(n.kids.drop k).foldl (λC i=>yZ (dkQ D) s.gen s.size f i C) B=yZ (dkQ D) s.gen s.size (f+1) id A))
        case atStart=>exact⟨0,B,fv7,iv7,lv7,by omega,rfl,oh ⟨Db.out,by rw[HV.out,Da.out];rfl⟩⟩
        case round =>
         obtain⟨k2,B2,fv8,iv8,lv8,Dc,rfl,Ac⟩:=hrel;by_cases Ad:k2<n.kids.length
         .obtain⟨b6,off6,Dd,Cf⟩:=Ac.out.1.is.elem Ad zr;obtain⟨kid,A5⟩:∃i,i=n.kids[k2]:=⟨_,rfl⟩;have d0:=Cf 0 (.int .i64 kid) (by rw[A5];rfl);simp only[wC,uT] at d0;subst Dd;have Bo:Hid (n.kids.drop k2=kid :: n.kids.drop (k2+1)):=oh (by rw[A5];exact wD Ad);have Aw:Hid ((n.kids.drop (k2+1)).foldl (λC i=>yZ (dkQ D) s.gen s.size f i C) (yZ (dkQ D) s.gen s.size f kid B2)=yZ (dkQ D) s.gen s.size (f+1) id A):=oh (by have:=Ac.out.2;rw[Bo.out,tM] at this;exact this);have De:=oh (Cq.out f rfl _ B2 fv8 iv8 lv8 kid (dep+1) Ac.out.1.st (zNq C5.out kid (by rw[A5];exact tB Ad)) (by have:=B3.out;omega) (by have:=HF.out;rw[<- Aw.out] at this;exact (zCV (λB k=>zDw (dkQ D) s.gen s.size f k B) _ _).few this));have i1:(0:Int)<=(k2:Int):=by omega
          have i2:(k2:Int)<(n.kids.length:Int):=by omega
          have Dt : -100<=dep/\dep<=17:=by have:=B3.out;omega
          clear Cf A5;go_wp2_with fail;refine De.out.mono ?_;rintro e12 w12 ⟨rfl,fv12,iv12,lv12,Au,g12⟩;have Ab:=oh (Ac.out.1.nxt Au g12);clear Au g12 d0;go_wp2_with fail;go_roundg (gk-1)
          case measure=>omega
          case rel=>exact⟨k2+1,_,fv12,iv12,lv12,by omega,by go_num,oh ⟨Ab.out,Aw.out⟩⟩
         .go_wp2_with fail;first|go_end0|(refine bodyPost_ret (results_none rfl _ _ _) rfl ?_)
          have h7:=Ac.out.2;rw[tG (by omega)] at h7;rw[<- h7];exact⟨rfl,fv8,iv8,lv8,Ac.out.1.st,Ac.out.1.go⟩
   .have Ag:Hid (∃r,qJ ⟨xk,xi,xg,xb⟩=.inr r):=oh ⟨_,by unfold qJ;simp only[if_neg hk];rfl⟩;have Df:xk≠3:=λe=>hk (.inl e)
    have Bx:xk≠2:=λe=>hk (.inr e)
    have q3:(xk == (3:Int))=false:=uR.2 Df;have q2:(xk == (2:Int))=false:=uR.2 Bx;have Aq:=oh (FIND.out _ (Af.out.trans A8.out) (.inr Ag.out));rw[q3] at Ae;subst Ae;clear hk;go_wp2_with fail;refine Aq.out.mono ?_;rintro e6 w6 ⟨rfl,A6⟩;have Ar:=oh A6;clear A6;go_wp2_with fail;first|go_end0|(refine bodyPost_ret (results_none rfl _ _ _) rfl ?_)
    exact⟨rfl,Ar.out⟩
  .have Ag:Hid (∃r,qJ ⟨xk,xi,xg,xb⟩=.inr r):=oh (by
    unfold qJ;by_cases hk:xk=3\/xk=2
    .simp only[if_pos hk,Bz.out,Ap];exact⟨_,rfl⟩
    .simp only[if_neg hk];exact⟨_,rfl⟩)
   have Aq:=oh (FIND.out _ ((B5.out.trans m4).trans ((zss w4).alloc gB)) (.inr Ag.out));clear Ap hE m4 p0 p3;unfold zP;go_wp2_with fail;refine Aq.out.mono ?_;rintro e6 w6 ⟨rfl,A6⟩;have Ar:=oh A6;clear A6;go_wp2_with fail;first|go_end0|(refine bodyPost_ret (results_none rfl _ _ _) rfl ?_)
   exact⟨rfl,Ar.out⟩
end
def zCl(D:zJ)(s:yG):yP:=if s.root=0 then yP.hd (zC0 D s.gen) else yZ (dkQ D) s.gen s.size 16 (s.root:Int) (yP.hd (zC0 D s.gen))
theorem zG.set7{w:World}{R:Nat}{t:TypeId}{a0 a1 a2 a3 a4 a5 a6:Value}(h:zG w R #[a0,a1,a2,a3,a4,a5,a6] t)(v0 v1 v2 v3 v4 v5 v6:Value) :
  zG (((((((w.setCell ⟨R,0,none⟩ v0).setCell ⟨R,1,none⟩ v1).setCell ⟨R,2,none⟩ v2).setCell ⟨R,3,none⟩ v3).setCell ⟨R,4,none⟩ v4).setCell ⟨R,5,none⟩ v5).setCell ⟨R,6,none⟩ v6) R #[v0,v1,v2,v3,v4,v5,v6] t:=by
 simpa using ((((((h.set 0 v0).set 1 v1).set 2 v2).set 3 v3).set 4 v4).set 5 v5).set 6 v6
theorem zA.set7{F:NP}{w w':World}(m:zA F w w'){R:Nat}(hR:w.heap.size<=R\/F R)(v0 v1 v2 v3 v4 v5 v6:Value) :
  zA F w (((((((w'.setCell ⟨R,0,none⟩ v0).setCell ⟨R,1,none⟩ v1).setCell ⟨R,2,none⟩ v2).setCell ⟨R,3,none⟩ v3).setCell ⟨R,4,none⟩ v4).setCell ⟨R,5,none⟩ v5).setCell ⟨R,6,none⟩ v6) :=
 ((((((m.setCell (p:=⟨R,0,none⟩) hR v0).setCell (p:=⟨R,1,none⟩) hR v1).setCell (p:=⟨R,2,none⟩) hR v2).setCell (p:=⟨R,3,none⟩) hR v3).setCell (p:=⟨R,4,none⟩) hR v4).setCell (p:=⟨R,5,none⟩) hR v5).setCell (p:=⟨R,6,none⟩) hR v6
section
variable {ad:Nat->Addr}{w0 w w':World}{kb mb d:Nat}{s:yG}{m:qW}{g:Int}{A:yP}{fv iv lv:Value}{P:NP}{D:zJ}
theorem zIx(hL:yH NoB ad w0)(hD:DkS w0 P d D)(hz:256<=s.size/\s.size<=1024):∀f,zK4 w0 kb mb d s g D f
 | 0=>zHT hL hD hz 0 (λ_ h=>by cases h)
 | f+1=>zHT hL hD hz (f+1) (λ_ h=>by cases h;exact zIx hL hD hz f)
theorem LkS.made(w:World)(d:Nat):LkS w ((w.alloc (.map #[] 0)).alloc (.cells #[.pointer (some ⟨d,0,none⟩),.int .u64 0,.int .i64 0,.int .i64 0,.int .i64 0,.int .i64 0,.map (some w.heap.size),.int .u64 0,.slice none 0 0,.int .i64 0,.slice none 0 0,.int .i64 0,.slice none 0 0,.bool false] 101)) (w.heap.size+1) w.heap.size d sup0 0 (yP.hd []) (.slice none 0 0) (.slice none 0 0) (.slice none 0 0) :=
 ⟨((zss w).alloc _).alloc _,⟨by omega,by omega⟩,zS (by simp),(zCg.made w).mods ((zA.refl (λ_=>False) _).alloc _) (λf=>f),yC.nil _ _ _ _ _ _,yC.nil _ _ _ _ _ _,yC.nil _ _ _ _ _ _,yP.hd_few (by simp)⟩
theorem zPl(hL:yH NoB ad w)(hD:DkS w P d D)(ho:D.off=false)(hH:zBM D s m)(hC:zE4 ad D s)(hf:(zCl D s).few) :
  Calls Tryz.prog 42 #[.pointer (some ⟨d,0,none⟩)] w λe w'=>∃kb mb fv iv lv,e=.returned (.tuple #[.pointer (some ⟨kb,0,none⟩),.nilIface])/\LkS w w' kb mb d s (s.gen:Int) (zCl D s) fv iv lv:=by
 have HO:=oh hD.off;rw[ho] at HO;have HL:=oh hL;have HD:=oh hD;have HH:=oh hH;have Dg:=oh hC;have HF:=oh hf;have Du:=@run_makeMap Tryz.prog;have Dh:=oh (LkS.made w d);obtain⟨z8,zQV,z3,z4⟩:=hH.lim;have hz:=hH.siz;have HZ:Hid (256<=s.size/\s.size<=1024):=oh (by omega);have Di:s.root<=2147483647:=by
  obtain⟨a1,a2,a3,a4,a5,a6,a7⟩:=(zAp s).1 hH.ok;omega
 have Dj:Hid (zGF (s.root:Int)):=oh ((Lit.wf_int_iff .i64 _).2 (by simp[IntKind.min,IntKind.max,IntKind.signed,IntKind.bits];omega));clear hL hD ho hH hC hf hz Di
 go_enter Tryz.func42, Tryz.ntmps42
 go_wp2_with fail;refine HO.out.mono ?_;rintro e w1 ⟨rfl,rfl⟩;go_wp2_with fail;refine (zPZ HL.out HD.out HH.out Dg.out Dh.out).mono ?_;rintro e w2 ⟨rfl,fv,iv,lv,h2, -⟩;have H2:=oh h2;have k4:=h2.blk.d 4 (.int .i64 (s.root:Int)) rfl;clear h2;by_cases hr:s.root=0
 .have Dk:((s.root:Int) != 0)=false:=by rw[hr];rfl
  have HA:Hid (zCl D s=yP.hd (zC0 D s.gen)):=oh (by unfold zCl;rw[if_pos hr]);clear hr;go_wp2_with fail;go_ret2
  rw[HA.out];exact⟨_,_,fv,iv,lv,rfl,H2.out⟩
 .have Dk:((s.root:Int) != 0)=true:=bne_iff_ne.2 (by omega);have HA:Hid (zCl D s=yZ (dkQ D) s.gen s.size 16 (s.root:Int) (yP.hd (zC0 D s.gen))):=oh (by unfold zCl;rw[if_neg hr]);have HN:=oh (zIx HL.out HD.out HZ.out 16 _ _ _ _ _ (s.root:Int) 1 H2.out Dj.out (by omega) (by rw[<- HA.out];exact HF.out));clear hr;go_wp2_with fail;refine HN.out.mono ?_;rintro e w3 ⟨rfl,fv3,iv3,lv3,h3, -⟩;have H3:=oh h3;clear h3;go_wp2_with fail;go_ret2
  rw[HA.out];exact⟨_,_,fv3,iv3,lv3,rfl,H3.out⟩
def zS7(w:World)(g:Int)(A:yP)(e:Ending)(w':World):Prop :=
 ∃fa fc ia ic la lc,e=.returned (.tuple #[.agg #[.int .u64 g,.slice fa A.finds.length fc,.int .i64 (A.ids.length:Int),.slice ia A.ids.length ic,.int .i64 (A.keys:Int),.slice la A.lost.length lc,.bool A.blind],.nilIface]) /\
  yC (λ_=>False) w' w.heap.size 121 2 zQu (.slice fa A.finds.length fc) A.finds/\yC (λ_=>False) w' w.heap.size 3 1 yI (.slice ia A.ids.length ic) A.ids/\yC (λ_=>False) w' w.heap.size 9 1 vW (.slice la A.lost.length lc) A.lost/\zF w w'
theorem Tryz.repSz:(Tryz.prog.info? 37).map (·.size)=some 7:=by kernel_rfl
theorem zIy(hL:yH NoB ad w)(hD:DkS w P d D)(ho:D.off=false)(hH:zBM D s m)(hC:zE4 ad D s)(hf:(zCl D s).few) :
  Calls Tryz.prog 9 #[.pointer (some ⟨d,0,none⟩)] w (zS7 w (s.gen:Int) (zCl D s)):=by
 obtain⟨w1,Ax⟩:∃W,W=w.alloc (.cells #[.int .u64 0,.slice none 0 0,.int .i64 0,.slice none 0 0,.int .i64 0,.slice none 0 0,.bool false] 37):=⟨_,rfl⟩;have m1:zF w w1:=by rw[Ax];exact (zss w).alloc _
 have Bp:zG w1 w.heap.size #[.int .u64 0,.slice none 0 0,.int .i64 0,.slice none 0 0,.int .i64 0,.slice none 0 0,.bool false] 37:=by rw[Ax];exact zG.new w _ _
 have Ay:=oh (zPl (hL.mods m1.ext) (hD.at m1) ho hH hC hf);obtain⟨R,hR⟩:∃R,R=w.heap.size:=⟨_,rfl⟩;rw[<- hR] at Bp;have Cg:=oh m1;have Az:=oh Bp;have HR:=oh hR;have Dv:=oh Ax;clear hL hD ho hH hC hf m1 Bp
 go_enter Tryz.func9, Tryz.ntmps9
 go_wp2_with fail;rw[<- Ax,<- hR];refine Ay.out.mono ?_;rintro e w2 ⟨kb,mb,fv,iv,lv,rfl,h2⟩;obtain⟨fa,fc,rfl, -⟩:=h2.rf.form;obtain⟨ia,ic,rfl, -⟩:=h2.ri.form;obtain⟨la,lc,rfl, -⟩:=h2.rl.form;obtain⟨A,hA⟩:∃A,A=zCl D s:=⟨_,rfl⟩;have HA:=oh hA;rw[<- hA] at h2 ⊢;have H2:=oh h2;have A4:=Az.out.ext h2.ext;have Dl:=oh A4;have k7:=h2.blk.d 7 (.int .u64 (s.gen:Int)) rfl;have k8:=h2.blk.d 8 (.slice fa A.finds.length fc) rfl;have k9:=h2.blk.d 9 (.int .i64 (A.ids.length:Int)) rfl;have k10:=h2.blk.d 10 (.slice ia A.ids.length ic) rfl;have k11:=h2.blk.d 11 (.int .i64 (A.keys:Int)) rfl;have k12:=h2.blk.d 12 (.slice la A.lost.length lc) rfl;have k13:=h2.blk.d 13 (.bool A.blind) rfl;have r0:=A4.d 0 (.int .u64 0) rfl;have r1:=A4.d 1 (.slice none 0 0) rfl;have r2:=A4.d 2 (.int .i64 0) rfl;have r3:=A4.d 3 (.slice none 0 0) rfl;have r4:=A4.d 4 (.int .i64 0) rfl;have r5:=A4.d 5 (.slice none 0 0) rfl;have r6:=A4.d 6 (.bool false) rfl;have rf:=A4.frozen;clear h2 A4 hA hR Ax;go_wp2_with fail;have m3:=zA.set7 (F:=λk=>k=R) (zss w2) (R:=R) (.inr rfl) (.int .u64 (s.gen:Int)) (.slice fa A.finds.length fc) (.int .i64 (A.ids.length:Int)) (.slice ia A.ids.length ic) (.int .i64 (A.keys:Int)) (.slice la A.lost.length lc) (.bool A.blind);refine bodyPost_ret (zC rfl _ _ R 37 #[.int .u64 (s.gen:Int),.slice fa A.finds.length fc,.int .i64 (A.ids.length:Int),.slice ia A.ids.length ic,.int .i64 (A.keys:Int),.slice la A.lost.length lc,.bool A.blind] _ rfl (Dl.out.set7 _ _ _ _ _ _ _) Tryz.underlying37 rfl Tryz.repSz) rfl ?_;have hz:w.heap.size<=w1.heap.size:=Cg.out.size;have Dw:=HR.out;have B6:∀{v:Value} {g:Nat},w1.heap.size<=g->g≠R:=λhg e=>by have:=Az.out.lt;omega
 rw[<- HA.out];refine⟨fa,fc,ia,ic,la,lc,rfl,(H2.out.rf.mods m3 (λg hg e=>?_)).rebase hz,(H2.out.ri.mods m3 (λg hg e=>?_)).rebase hz,(H2.out.rl.mods m3 (λg hg e=>?_)).rebase hz,(Cg.out.trans H2.out.ext).trans' m3 (λi hi e=>by have e:i=R:=e;omega)⟩
 .have:=(H2.out.rf.lt g hg).1;have:=Az.out.lt;omega
 .have:=(H2.out.ri.lt g hg).1;have:=Az.out.lt;omega
 .have:=(H2.out.rl.lt g hg).1;have:=Az.out.lt;omega
end
end
section
open Go.RowKit
def jS(D:zJ)(i bit mask:Nat):zJ:={ D with lasting:=D.lasting.set i (zAf (D.lasting.getD i []) bit mask) }
section
variable {D:zJ}{s:yG}{m:qW}{dd:Nat}{ps:List zL}{pgs:List Nat}{i bit mask:Nat}
theorem zDx(D:zJ){i j:Nat}(h:j≠i)(bit mask:Nat):(jS D i bit mask).lasting.getD j []=D.lasting.getD j []:=by
 unfold jS;simp only[tL];rw[uS (λe=>h e.symm)]
theorem zRJ(D:zJ){i:Nat}(h:i<D.lasting.length)(bit mask:Nat):(jS D i bit mask).lasting.getD i []=zAf (D.lasting.getD i []) bit mask:=by
 unfold jS;simp only[tL];rw[wH h,rJ]
theorem jL(D:zJ){i j:Nat}(h:j≠i)(bit mask:Nat):yA (jS D i bit mask) j=yA D j:=by
 unfold yA;rw[zDx D h]
theorem zMZ{l:List UInt8}{id:Int}{p:zY}(h:zV l id=.inl p):l=jX p l.length/\qE p (l.length:Int)=none:=by
 unfold zV at h;split at h
 .cases h
 .rename_i ho;split at h
  .cases h
  .injection h with h;subst h;have ho:zBq l=true:=by simpa using ho
   unfold zBq at ho;obtain⟨h1,h2⟩:=Bool.and_eq_true_iff.1 ho;exact⟨(rR h2).symm,rR h1⟩
theorem zIz(hi:i<D.lasting.length)(hs:yA D i=false)(hb:bit<8 * (D.lasting.getD i []).length)(hm:mask % 2=1):yA (jS D i bit mask) i=true:=by
 have hp:∃p,zV (D.lasting.getD i []) (i:Int)=.inl p:=by
  unfold yA at hs;split at hs
  .rename_i p hp;exact⟨p,hp⟩
  .cases hs
 obtain⟨p,hp⟩:=hp;obtain⟨h1,h2⟩:=zMZ hp;have hc:=zKI bit mask h2 hb hm;rw[<- h1] at hc;refine zBG.2 ?_;rw[zRJ D hi];unfold zV;rw[if_pos hc];exact⟨_,rfl⟩
theorem zGT(h:zCK D)(hi:i<D.blocks)(bit mask:Nat):zCK (jS D i bit mask):=by
 refine⟨h.off,h.lit,h.wait,by unfold jS;simp[h.lenL],λid hid=>?_,h.b8,h.b256,h.s256,h.s1024⟩;have hid:id<D.blocks:=hid;have e:(jS D i bit mask).look id=(jS D i bit mask).lasting.getD id []:=by
  unfold zJ.look;have:(jS D i bit mask).waiting=[]:=h.wait;rw[this];rfl
 rw[e];show _=D.size;by_cases he:id=i
 .subst he;rw[zRJ D (by rw[h.lenL];exact hi),zES,h.last];exact h.len id hid
 .rw[zDx D he,h.last];exact h.len id hid
theorem zCK.open(h:zCK D){j:Nat}(hj:j<D.blocks):(yA D j=false ↔ ∃p,(zAI D).view j=some (.inl p)):=by
 have hv:(zAI D).view j=some (zV (D.lasting.getD j []) (j:Int)):=by
  show (if j<D.blocks then some (zV (D.look j) j) else none)=_;rw[if_pos hj,h.last]
 rw[hv];unfold yA;cases zV (D.lasting.getD j []) (j:Int) with
 | inl p=>simp
 | inr r=>simp
structure Spo(D:zJ)(s:yG)(m:qW)(dd:Nat)(ps:List zL)(pgs:List Nat):Prop where
 head:zBM D s m
 dry:zCK D
 td:TD (zAI D) s.gen s.root dd ps pgs
theorem zBp.dry(h:zCK D):zBp (dkQ D) (zAI D):=λi p hi hv=>by
 have hi:i<D.blocks:=hi;have hv:(if i<D.blocks then some (zV (D.look i) i) else none)=some (.inl p):=hv;rw[if_pos hi] at hv;rw[zNO hi,h.last];injection hv with hv;rw[hv]
theorem Spo.look(h:Spo D s m dd ps pgs)(A:yP)(hA:A.seen=[]):(s.root=0/\ps=[]/\pgs=[])\/(s.root≠0/\yZ (dkQ D) s.gen s.size 16 (s.root:Int) A=A.add (iL pgs) ps.length):=by
 have hb:(zAI D).blocks<=256:=h.dry.b256;rcases h.td.tree with ⟨h1,_,h2,h3⟩|⟨h1,h2⟩
 .exact .inl ⟨h1,h2,h3⟩
 .obtain⟨r,hr⟩:=vX.head _ _ _ _ _ _ h2;have h3:=h.td.lt s.root (by rw[hr];simp);have hd:=(h.td.few hb).2;refine .inr ⟨by omega,?_⟩;rw[h.head.siz];exact zOJ (zBp.dry h.dry) (uD _) h.dry.s256 hb dd _ _ _ _ _ h2 16 A (by omega) (by
   rw[hA,wP];exact tI.2 (h.td.nodup.imp (λh e=>h (by omega))))
theorem zFL.shut(h:zFL D s m dd ps pgs):(∀j,j<2->yA D j=false)/\(∀k,k<2->yA D (place s.gen k)=false)/\∀j∈pgs,yA D j=false :=
 ⟨h.well.shut.1,h.well.shut.2,λj hj=>(h.well.dry.open (h.td.lt j hj).2).2 (h.td.seen j hj)⟩
theorem zFL.headD(h:zFL D s m dd ps pgs):zBM D s m:=h.well.headD
theorem zFL.hit_head(h:zFL D s m dd ps pgs)(hi:i<D.blocks)(hb:bit<8 * D.size)(hm:mask % 2=1):zBM (jS D i bit mask) s m:=by
 have h0:=h.headD;obtain⟨h1,h2,_⟩:=h.shut;have hd:=h.well.dry;have Ch:yA D i=false->yA (jS D i bit mask) i=true:=λhs=>zIz (by rw[hd.lenL];exact hi) hs (by rw[hd.last,hd.len i hi];exact hb) hm
 refine⟨h0.blk,h0.siz,h0.ok,h0.gen,h0.mok,h0.mgen,h0.mblk,λj hj=>?_,?_,λk hk=>?_⟩
 .by_cases e:j=i
  .subst e;exact .inl (Ch (h1 j hj))
  .rw[jL D e,zDx D e];exact h0.sup j hj
 .by_cases e:i=0
  .right;rw[jL D (by omega)];exact h1 1 (by omega)
  .left;rw[jL D (by omega)];exact h1 0 (by omega)
 .by_cases e:place s.gen k=i
  .rw[e];exact .inl (Ch (by rw[<- e];exact h2 k hk))
  .rw[jL D e,zDx D e];exact h0.map k hk
theorem zMa(h:zCK D)(hi:i<D.blocks){j:Nat}(hj:j≠i)(bit mask:Nat):(zAI (jS D i bit mask)).view j=(zAI D).view j:=by
 have h':=zGT h hi bit mask;show (if j<D.blocks then some (zV ((jS D i bit mask).look j) j) else none)=(if j<D.blocks then some (zV (D.look j) j) else none);rw[<- h'.last,<- h.last,zDx D hj]
theorem zFL.hit_spo(h:zFL D s m dd ps pgs)(hi:i<D.blocks)(hb:bit<8 * D.size)(hm:mask % 2=1)(hn:i ∉ pgs):Spo (jS D i bit mask) s m dd ps pgs :=
 ⟨h.hit_head hi hb hm,zGT h.well.dry hi bit mask,h.td.mono (uD _) rfl rfl (λ_j hj=>zMa h.well.dry hi (λe=>hn (e ▸ hj)) bit mask)⟩
end
end
section
open Go.RowKit
attribute [local go_sem ↓] Go.wp_at_zero Go.wp_at_succ
theorem Tryz.eqFind(n:Nat)(a b c d:Int)(w:World):(Op.equalIn (n+2) 121 (.agg #[.int .i64 a,.int .i64 b]) (.agg #[.int .i64 c,.int .i64 d])).run Tryz.prog w=.ok (decide (a=c) && decide (b=d)) w:=by
 have u3:=Tryz.underlying3;have a3:=Tryz.isAgg3;have z3:=Tryz.sizeOf3;have hS:Tryz.prog.underlying 121 = some (.struct (Tryz.prog.fieldsOf 121)):=by kernel_rfl
 have hp:Tryz.prog.stoodInHeld 121 = false:=by kernel_rfl
 rw[run_equalIn_agg w (n+1) 121 _ _ hS hp];simp only[Program.fieldsOf,Tryz.underlying121];go_simp;by_cases h1:a=c <;> by_cases h2:b=d <;> simp[h1,h2]
section
variable {D:zJ}{s:yG}{m:qW}{dd:Nat}{ps:List zL}{pgs:List Nat}{i bit mask:Nat}
theorem zGo(h:Spo D s m dd ps pgs):zCl D s=(yP.hd (zC0 D s.gen)).add (iL pgs) ps.length:=by
 unfold zCl;rcases h.look (yP.hd (zC0 D s.gen)) rfl with ⟨h1,h2,h3⟩|⟨h1,h2⟩
 .rw[if_pos h1,h2,h3];exact (yP.add_nil _).symm
 .rw[if_neg h1,h2]
theorem zOT(h:Spo D s m dd ps pgs)(hp:ps.length<=1000):(zCl D s).few:=by
 rw[zGo h];have h1:=(h.td.few h.dry.b256).1;have h2:=zJ2 D s.gen;refine⟨?_,?_,?_,?_,?_⟩
 .show ([]++iL pgs).length<=1000;simp[iL];omega
 .show (zC0 D s.gen).length<=1000;omega
 .show ([]++iL pgs).length<=1000;simp[iL];omega
 .show ([]:List ByteArray).length<=100000;simp
 .show 0+ps.length<=1000000;omega
end
def zGU:List zL:=[(⟨#[97]⟩,⟨#[120]⟩)]
theorem zTS:jO ⟨#[97]⟩=true:=by decide +kernel
theorem zSH:(zAa zGU (min zGU.length 20)).1.length=1/\(zAa zGU (min zGU.length 20)).2=1:=by
 have e:min zGU.length 20=0+1:=rfl;rw[e,zKA (x:=(⟨#[97]⟩,⟨#[120]⟩)) rfl zTS];exact⟨rfl,rfl⟩
section
variable {F P:NP}{ad:Nat->Addr}{w w':World}{d:Nat}{D:zJ}
theorem DkS.hit(hL:yH F ad w)(hP:∀k,P k->F k)(h:DkS w P d D)(i bit mask:Nat)(hi:i<D.blocks)(hb:bit<8 * D.size)(hm:mask<4294967296) :
  Calls Tryz.prog 20 #[.pointer (some ⟨d,0,none⟩),.int .i64 (i:Int),.int .i64 (bit:Int),.int .u32 (mask:Int)] w (zMt F P ad w d (jS D i bit mask)):=by
 obtain⟨bl,gs,ws,wv,kv,h1,h2⟩:=h;exact zKW hL hP h1 h2 i bit mask hi hb hm
theorem zMb(hL:yH NoB ad w) : Calls Tryz.prog 13 #[] w λe w'=>e=.returned (.bool true)/\zF w w':=by
 have m0:zF w (w.alloc (.cells #[.string ⟨#[97]⟩,.string ⟨#[120]⟩] 48)):=(zss w).alloc _;have HS:Hid (Sl NoB (w.alloc (.cells #[.string ⟨#[97]⟩,.string ⟨#[120]⟩] 48)) 2 zCE (.slice (some ⟨w.heap.size,0,none⟩) 1 1) zGU):=oh (Sl.one (x:=((⟨#[97]⟩,⟨#[120]⟩):zL)) (zS rfl) (λf=>f));have HL:=oh (hL.mods m0.ext);have Dm:=oh m0;clear hL m0
 go_enter Tryz.func13, Tryz.ntmps13
 go_wp2_with fail;refine (zIw HL.out _ zGU HS.out).mono ?_;rintro e w1 ⟨d,D,Pd,F,s,m,dd,pgs,wa,wc,rfl,hD,hC,Ci,Cj,Bq, -, -,hN, -⟩;rw[zSH.2] at Bq;have Br:=oh zSH.1;obtain⟨ps,Ck⟩:∃ps,ps=(zAa zGU (min zGU.length 20)).1:=⟨_,rfl⟩;rw[<- Ck] at hC Br ⊢;have HC:=oh hC;have HN:=oh hN;have HB:=oh (And.intro Ci (And.intro Cj Bq));have Bs:=oh (DkS.hit hN.env hN.sub hD 2 100 1 (by omega) (by omega) (by omega));rw[show ((2:Nat):Int)=2 from rfl,show ((100:Nat):Int)=100 from rfl,show ((1:Nat):Int)=1 from rfl] at Bs;clear hD hC Ci Cj Bq hN Ck;go_wp2_with fail;refine Bs.out.mono ?_;rintro e w2 ⟨P2,F2,rfl,Cl,B9⟩;obtain⟨b1,b2,b3⟩:=HB.out;have Dn:Hid (zF (w.alloc (.cells #[.string ⟨#[97]⟩,.string ⟨#[120]⟩] 48)) w2):=oh ((HN.out.trans B9).stp.mods);have Bt:place s.gen 0=2:=by rw[b3];rfl
 have Bu:place s.gen 1=3:=by rw[b3];rfl
 have Cm:2 ∉ pgs:=λh=>by have:=HC.out.hi 2 h;omega
 have hS:=HC.out.hit_spo (i:=2) (bit:=100) (mask:=1) (by omega) (by omega) (by omega) Cm;obtain⟨q1,q2,q3⟩:=HC.out.shut;have a0:yA (jS D 2 100 1) 0=false:=by rw[jL D (by omega)];exact q1 0 (by omega)
 have a1:yA (jS D 2 100 1) 1=false:=by rw[jL D (by omega)];exact q1 1 (by omega)
 have Cn:zC0 (jS D 2 100 1) s.gen=[(2,2)]:=by
  have a2:yA (jS D 2 100 1) 2=true:=zIz (by rw[HC.out.well.dry.lenL];omega) (by rw[<- Bt];exact q2 0 (by omega)) (by rw[HC.out.well.dry.last,HC.out.well.dry.len 2 (by omega),b2];omega) rfl;have a3:yA (jS D 2 100 1) 3=false:=by rw[jL D (by omega)];rw[<- Bu];exact q2 1 (by omega)
  unfold zC0;rw[zGk,zGk,zGl,zGl,Bt,Bu,a0,a1,a2,a3];rfl
 have Bv:=zGo hS;rw[Cn,Br.out] at Bv;have Ay:=oh (zIy ((HN.out.trans B9).env.anti (Q:=NoB) (λ_ h=>h.elim)) Cl (by show D.off=false;exact HC.out.well.dry.off) hS.head (zNg hS.head a0 a1) (zOT hS (by rw[Br.out];omega)));rw[Bv] at Ay;obtain⟨A,hA⟩:∃A,A=(yP.hd [(2,2)]).add (iL pgs) 1:=⟨_,rfl⟩;rw[<- hA] at Ay;have Do:A.finds=[(2,2)]:=by rw[hA];rfl
 have B4:A.keys=1:=by rw[hA];rfl
 have Dx:=oh (((HN.out.trans B9).env.anti (Q:=NoB) (λ_ h=>h.elim)));clear a0 a1 Cl B9 Bt Bu Cm hS q1 q2 q3 Cn Bv hA b1 b2 b3 Bs;go_wp2_with fail;refine Ay.out.mono ?_;rintro e w3 ⟨fa,fc,ia,ic,la,lc,rfl,Co, -, -,Am⟩;rw[Do,B4] at *;obtain⟨qb,qoff,rfl, -,B0⟩:=(Co.sl (λ_=>rfl) (by simp)).elemF (k:=0) (by simp);have m4:zF w3 (w3.alloc (.cells #[.int .u64 (s.gen:Int),.slice (some ⟨qb,qoff,none⟩) 1 fc,.int .i64 (A.ids.length:Int),.slice ia A.ids.length ic,.int .i64 1,.slice la A.lost.length lc,.bool A.blind] 37)):=(zss w3).alloc _;have c0:=(m4.cell (yN (B0 0 _ rfl)) (λf=>f)).trans (B0 0 (.int .i64 2) rfl);have c1:=(m4.cell (yN (B0 1 _ rfl)) (λf=>f)).trans (B0 1 (.int .i64 2) rfl);simp only[pU,uT] at c0 c1;have eqf:∀(a b c d:Int) (w:World),(Op.equalIn 10000 121 (.agg #[.int .i64 a,.int .i64 b]) (.agg #[.int .i64 c,.int .i64 d])).run Tryz.prog w=.ok (decide (a=c) && decide (b=d)) w:=λa b c d w=>Tryz.eqFind 9998 a b c d w
 have Dp:=oh (((Dm.out.trans Dn.out).trans Am).trans m4);clear Co B0 Am m4;go_wp2_with fail;go_ret;exact⟨rfl,Dp.out⟩
end
end
end Go.Proofs.YtalpfcaakpgkmaaGreatDoor
