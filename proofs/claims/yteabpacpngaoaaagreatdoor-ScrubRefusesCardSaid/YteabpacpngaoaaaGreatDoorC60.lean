import Derived.Test.YteabpacpngaoaaaGreatDoorC59
namespace Go.Proofs.YteabpacpngaoaaaGreatDoor
open Lib renaming hid->oh
open Go.RowKit Go.Maps
attribute [local go_sem ↓] Go.wp_at_zero Go.wp_at_succ
section
variable {ad:Nat->Addr}{w0 w w' wr w2:World}{kb mb d:Nat}{s:yM}{g:Int}{A A1 A2:yQ}{fv iv lv fv1 iv1 lv1 fv2 iv2 lv2:Value}{P:Nat->Prop}{D:zI}
theorem LkS.keyd(h:LkS w0 w kb mb d s g A fv iv lv)(hf:A.key.few):LkS w0 (w.setCell ⟨kb,11,none⟩ (.int .i64 ((A.keys:Int)+1))) kb mb d s g A.key fv iv lv/\zAA kb mb fv iv lv fv iv lv w (w.setCell ⟨kb,11,none⟩ (.int .i64 ((A.keys:Int)+1))):=by
 have m:zA (λk=>k=kb) w (w.setCell ⟨kb,11,none⟩ (.int .i64 ((A.keys:Int)+1))):=zA.setCell (F:=λk=>k=kb) (zA.refl _ w) (p:=⟨kb,11,none⟩) (.inr rfl) _;refine⟨⟨h.ext.trans' m (λi hi e=>by have:=h.new.1;omega),h.new,?_,h.seen.mods m (λe=>h.off e.symm),h.rf.mods m (λg hg e=>yC.notB h.rf h.blk (by decide) g hg e),h.ri.mods m (λg hg e=>yC.notB h.ri h.blk (by decide) g hg e),h.rl.mods m (λg hg e=>yC.notB h.rl h.blk (by decide) g hg e),hf⟩,m.mono (λk e=>.inl e),λ_ h=>.inl h⟩;have hb:=h.blk.set 11 (.int .i64 ((A.keys:Int)+1));simpa[lkC,yQ.key] using hb
theorem LkS.losed{k:ByteArray}{X:Obj}{w4:World}{lv':Value}(h:LkS w0 w kb mb d s g A fv iv lv)(hf:(A.lose k).few)(hO:yC (λ_=>False) w4 w0.heap.size 9 1 vZ lv' (A.lost++[k]))(hm:zA (λk=>lv.ownBlock=some k) (w.alloc X) w4)(hat:lv'.ownBlock=lv.ownBlock\/lv'.ownBlock=some (w.alloc X).heap.size) :
  LkS w0 (w4.setCell ⟨kb,12,none⟩ lv') kb mb d s g (A.lose k) fv iv lv'/\zAA kb mb fv iv lv fv iv lv' w (w4.setCell ⟨kb,12,none⟩ lv'):=by
 have hB4:=(h.blk.alloc X).mods hm (λe=>yC.notB h.rl h.blk (by decide) _ e rfl);have m5:zA (λk=>k=kb) w4 (w4.setCell ⟨kb,12,none⟩ lv'):=zA.setCell (F:=λk=>k=kb) (zA.refl _ w4) (p:=⟨kb,12,none⟩) (.inr rfl) _;have m4:zA (λk=>lv.ownBlock=some k\/k=kb) w (w4.setCell ⟨kb,12,none⟩ lv'):=(((zA.refl _ w).alloc _).trans (hm.mono (λk e=>.inl e))).trans (m5.mono (λk e=>.inr e));refine⟨⟨h.ext.trans' m4 (λi hi hq=>?_),h.new,?_,h.seen.mods m4 (λhq=>?_),h.rf.mods m4 (λg hg hq=>?_),h.ri.mods m4 (λg hg hq=>?_),hO.mods m5 (λg hg e=>yC.notB hO hB4 (by decide) g hg e),hf⟩,m4.mono (λk hk=>hk.elim (λe=>.inr (.inr (.inr (.inr e)))) .inl),?_⟩
 .rcases hq with e|e
  .have:=(h.rl.lt i e).1;omega
  .have:=h.new.1;omega
 .have hb:=hB4.set 12 lv';simpa[lkC,yQ.lose] using hb
 .rcases hq with e|e
  .exact yC.notM h.rl h.seen _ e rfl
  .exact h.off e.symm
 .rcases hq with e|e
  .exact yC.notO h.rf h.rl (by decide) g hg e
  .exact yC.notB h.rf h.blk (by decide) g hg e
 .rcases hq with e|e
  .exact yC.notO h.ri h.rl (by decide) g hg e
  .exact yC.notB h.ri h.blk (by decide) g hg e
 .rintro i (e|e|e|e|e)
  .exact .inl (.inl e)
  .exact .inl (.inr (.inl e))
  .exact .inl (.inr (.inr (.inl e)))
  .exact .inl (.inr (.inr (.inr (.inl e))))
  .rcases hat with h|h
   .exact .inl (.inr (.inr (.inr (.inr (h ▸ e)))))
   .rw[h] at e;injection e with e;simp at e;right;omega
structure zIt(w0 w wr:World)(kb mb d:Nat)(s:yM)(g:Int)(fv iv lv:Value)(n:zJ)(R:Nat)(ea ka ia:Option Addr)(ec kc ic kn:Nat)(A1:yQ)(fv1 iv1 lv1:Value):Prop where
 st:LkS w0 wr kb mb d s g A1 fv1 iv1 lv1
 go:zAA kb mb fv iv lv fv1 iv1 lv1 w wr
 nd:∃b:Bool,zH wr R #[.bool b,.slice ea n.entries.length ec,.slice ka kn kc,.slice ia n.kids.length ic] 174
 nb:¬ LkB kb mb fv1 iv1 lv1 R
 es:Sl (LkB kb mb fv1 iv1 lv1) wr 4 zAO (.slice ea n.entries.length ec) n.entries
 is:Sl (LkB kb mb fv1 iv1 lv1) wr 1 yK (.slice ia n.kids.length ic) n.kids
theorem zIt.nxt{n:zJ}{R:Nat}{ea ka ia:Option Addr}{ec kc ic kn:Nat}(h:zIt w0 w wr kb mb d s g fv iv lv n R ea ka ia ec kc ic kn A1 fv1 iv1 lv1)(h2:LkS w0 w2 kb mb d s g A2 fv2 iv2 lv2)(g2:zAA kb mb fv1 iv1 lv1 fv2 iv2 lv2 wr w2):zIt w0 w w2 kb mb d s g fv iv lv n R ea ka ia ec kc ic kn A2 fv2 iv2 lv2 :=
 by
 obtain⟨b,hb⟩:=h.nd;exact⟨h2,h.go.trans g2,⟨b,(g2.blk hb h.nb).1⟩,(g2.blk hb h.nb).2,g2.sl h.es,g2.sl h.is⟩
theorem zIt.ext{n:zJ}{R:Nat}{ea ka ia:Option Addr}{ec kc ic kn:Nat}(h:zIt w0 w wr kb mb d s g fv iv lv n R ea ka ia ec kc ic kn A1 fv1 iv1 lv1)(m:zF wr w2):zIt w0 w w2 kb mb d s g fv iv lv n R ea ka ia ec kc ic kn A1 fv1 iv1 lv1:=h.nxt (h.st.at m) (zAA.ext m)
def zKP(w0:World)(kb mb d:Nat)(s:yM)(g:Int)(D:zI)(f:Nat):Prop :=
 ∀(w:World) (A:yQ) (fv iv lv:Value) (id dep:Int),LkS w0 w kb mb d s g A fv iv lv->zFz id->1<=dep/\dep+f=17->(vU (dkQ D) s.gen s.size f id A).few ->
  Calls Tryz.prog 111 #[.pointer (some ⟨kb,0,none⟩),.int .i64 id,.int .i64 dep] w λe w'=>e=.returned (.tuple #[])/\zQP w0 kb mb d s g fv iv lv w (vU (dkQ D) s.gen s.size f id A) w'
theorem zLt{Q:Int->Option zX}{gen z f:Nat}{id:Int}{B:yQ}(h:vT Q gen A id 3=(B,none)):vU Q gen z f id A=B:=by
 cases f <;> rw[vU,h]
theorem zLu{Q:Int->Option zX}{gen z f:Nat}{id:Int}{B:yQ}{p:zX}(h:vT Q gen A id 3=(B,some p))(hb:f=0\/∃r,qH p=.inr r):vU Q gen z f id A=B.find id 3:=by
 cases f with
 | zero=>rw[vU,h]
 | succ f =>
  rcases hb with hb|⟨r,hb⟩
  .cases hb
  .rw[vU,h];simp only[hb]
theorem zO2{Q:Int->Option zX}{gen z f:Nat}{id:Int}{B:yQ}{p:zX}{n:zJ}(h:vT Q gen A id 3=(B,some p))(hb:qH p=.inl n):vU Q gen z (f+1) id A=n.kids.foldl (λC k=>vU Q gen z f k C) (n.entries.foldl (zBs Q gen z) (B.good id)):=by
 rw[vU,h];simp only[hb]
theorem zGy{Q:Int->Option zX}{gen:Nat}{id what:Int}{o:Option zX}(h:(vT Q gen A id what).2=o):vT Q gen A id what=((vT Q gen A id what).1,o):=by rw[<- h]
theorem zLv{Q:Int->Option zX}{gen z f:Nat}{id:Int}(hf:(vU Q gen z f id A).few):(vT Q gen A id 3).1.few:=by
 refine yQ.le.few ?_ hf;cases f with
 | zero =>
  rw[vU];split
  .rename_i B he;rw[he];exact B.le_refl
  .rename_i B x he;rw[he];exact yQ.le_find _ _ _
 | succ f =>
  rw[vU];split
  .rename_i B he;rw[he];exact B.le_refl
  .rename_i B x he;rw[he];split
   .exact yQ.le_find _ _ _
   .exact ((yQ.le_good _ _).trans (zCI (zF0 Q gen z) _ _)).trans (zCI (λB k=>zDg Q gen z f k B) _ _)
theorem zM9{n:zJ}(h:zO n=true):∀e∈n.entries,zFz e.chain/\e.size<=4096:=by
 intro e he;unfold zO at h;split at h
 .simp only[Bool.and_eq_true,List.all_eq_true] at h;have hr:=h.1.1.1.1 e he;unfold vC at hr;simp only[Bool.and_eq_true] at hr;have h2:=hr.2;split at h2
  .rename_i h0;simp only[Bool.and_eq_true,decide_eq_true_eq] at h2;exact⟨(Lit.wf_int_iff .i64 _).2 (by simp[IntKind.min,IntKind.max,IntKind.signed,IntKind.bits];omega),by omega⟩
  .simp only[Bool.and_eq_true,decide_eq_true_eq] at h2;have hk:=h2.1.1.1;have hk2:2<=e.chain/\e.chain<256:=by simpa[zCo] using hk
   exact⟨(Lit.wf_int_iff .i64 _).2 (by simp[IntKind.min,IntKind.max,IntKind.signed,IntKind.bits];omega),h2.2⟩
 .simp only[Bool.and_eq_true,List.isEmpty_iff] at h;have:=h.1.1.1.1.1.1.1;rw[this] at he;cases he
theorem zNA{n:zJ}(h:zO n=true):∀k∈n.kids,zFz k:=by
 intro k hk;cases hl:n.leaf with
 | false =>
  have:=(zCp h hl).2.2 k hk;exact (Lit.wf_int_iff .i64 _).2 (by simp[IntKind.min,IntKind.max,IntKind.signed,IntKind.bits];omega)
 | true =>
  unfold zO at h;rw[if_pos hl] at h;simp only[Bool.and_eq_true,List.isEmpty_iff] at h;rw[h.1.1.2] at hk;cases hk
theorem zNB(Q:Int->Option zX)(gen z:Nat)(A:yQ)(e:zV):A.key.le (zBs Q gen z A e):=by
 unfold zBs;split
 .exact yQ.le_refl _
 .have h:=zDC Q gen z e.size.toNat e.chain e.size A.key;split
  .exact h
  .exact h.trans (yQ.le_lose _ _)
set_option maxRecDepth 100000 in
set_option maxHeartbeats 4000000 in
theorem zGz(hL:yG NoB ad w0)(hD:jT w0 P d D)(hz:256<=s.size/\s.size<=1024)(f:Nat)(hrec:∀f',f=f'+1->zKP w0 kb mb d s g D f'):zKP w0 kb mb d s g D f:=by
 intro w A fv iv lv id dep h hid hdep hf;have H:=oh h;have HL:=oh hL;have HD:=oh hD;have HF:=oh hf;have HRC:=oh hrec;have HZ:=oh hz;have HDP:=oh hdep;have HID:=oh hid;clear h hL hD hf hrec hz hdep hid
 go_enter Tryz.func111, Tryz.ntmps111
 go_wp2_with fail;refine (zIN HL.out HD.out H.out id HID.out 3 (zLv HF.out)).mono ?_;intro x w2 hx;obtain⟨fv2,h2,g2,hx⟩:=hx.form;have HG2:=oh g2;have H2:=oh h2;clear h2 g2;rcases hx with ⟨ho,rfl⟩|⟨p,pa,pc,ho,rfl,hpb,hpl,hpc,hpm⟩
 .have HO:=oh (zLt (z:=s.size) (f:=f) (zGy ho));have HX:Hid (zF w2 (w2.alloc (.cells #[.int .i64 0,.int .i64 0,.int .u64 0,.slice none 0 0] 192))):=oh ((zA.refl _ w2).alloc _);clear ho;go_wp2_with fail;first|go_end0|(refine bodyPost_ret (results_none rfl _ _ _) rfl ?_)
  rw[HO.out];exact⟨rfl,fv2,iv,lv,H2.out.at HX.out,HG2.out.trans (zAA.ext HX.out)⟩
 .obtain⟨A2,hA2⟩:∃A2,A2=(vT (dkQ D) s.gen A id 3).1:=⟨_,rfl⟩;have hop:=zGy ho;obtain⟨xk,xi,xg,xb⟩:=p;simp only at hpb hpl hpc;rw[<- hA2] at hop H2;have HOP:=oh hop;have HPB:=oh hpb;have hm3:zF w2 (w2.alloc (.cells #[.int .i64 xk,.int .i64 xi,.int .u64 (xg:Int),.slice pa xb.length pc] 192)):=(zA.refl _ w2).alloc _;have HM3:=oh hm3;have HB3:=oh (zH.new w2 #[.int .i64 xk,.int .i64 xi,.int .u64 (xg:Int),.slice pa xb.length pc] 192);have p0:=HB3.out.cell (o:=0) (v:=.int .i64 xk) rfl;have p3:=HB3.out.cell (o:=3) (v:=.slice pa xb.length pc) rfl;obtain⟨lf,hlf⟩:∃lf,(xk == (3:Int))=lf:=⟨_,rfl⟩;have hlf2:decide (xk=3)=lf:=by rw[<- hlf];rfl
  have HLF:=oh hlf2;have HE3:=oh ((H2.out.at HM3.out).env HL.out);have HNG:=oh (zGj HE3.out lf (.slice pa xb.length pc) xb (HPB.out.ext HM3.out) hpl);have FIND:Hid (∀W,zF w2 W->(f=0\/∃r,qH ⟨xk,xi,xg,xb⟩=.inr r) -> Calls Tryz.prog 174 #[.pointer (some ⟨kb,0,none⟩),.int .i64 id,.int .i64 3] W λe w'=>e=.returned (.tuple #[])/\zQP w0 kb mb d s g fv iv lv w (vU (dkQ D) s.gen s.size f id A) w'):=oh (λW m hb=>by
   have hv:=zLu (z:=s.size) HOP.out hb;have hfew:=HF.out;rw[hv] at hfew ⊢;refine (zCE (H2.out.at m) id 3 hfew).mono ?_;rintro e w' ⟨rfl,fv',k1,k2⟩;exact⟨rfl,fv',iv,lv,k1,(HG2.out.trans (zAA.ext m)).trans k2⟩)
  clear ho hA2 hop hpb hm3 hlf2 hpl;go_wp2_with fail;refine HNG.out.mono ?_;rintro e4 w4 ⟨m4,⟨n,ve,vk,vi,hgn,rfl,hse,hsk,hsi⟩|⟨hgn,fe,rfl,hE⟩⟩
  .obtain⟨ea,ec,rfl,a1,a2, -⟩:=_root_.id hse;obtain⟨ka,kc,rfl, -⟩:=_root_.id hsk;obtain⟨ia,ic,rfl,c1,c2, -⟩:=_root_.id hsi;unfold maxLen at a2 c2;have HSE:=oh hse;have HSI:=oh hsi;have HGN:=oh hgn;obtain⟨kn,hkn⟩:∃kn,kn=n.keys.length:=⟨_,rfl⟩;rw[<- hkn];have m5:zF w4 (w4.alloc (.cells #[.bool lf,.slice ea n.entries.length ec,.slice ka kn kc,.slice ia n.kids.length ic] 174)):=(zA.refl _ w4).alloc _;have HM4:=oh (HM3.out.trans m4);have HM5:=oh m5;have hB5:=(HB3.out.ext m4).ext m5;have p0:=hB5.cell (o:=0) (v:=.int .i64 xk) rfl;have HND:=oh (zH.new w4 #[.bool lf,.slice ea n.entries.length ec,.slice ka kn kc,.slice ia n.kids.length ic] 174);clear hse hsk hsi hgn m4 m5 hB5 hkn p3;by_cases hk:xk=3\/xk=2
   .have HDC:Hid (qH ⟨xk,xi,xg,xb⟩=.inl n):=oh (by
     unfold qH;simp only[if_pos hk,HLF.out,HGN.out])
    cases f with
    | zero =>
     have hd16:(16:Int)<dep:=by have:=HDP.out;omega
     have HFI:=oh (FIND.out _ (HM4.out.trans HM5.out) (.inl rfl));rcases hk with rfl|rfl
     all_goals
      have hlf3:=hlf.symm;simp only[beq_self_eq_true,Int.reduceBEq] at hlf3;subst hlf3;go_wp2_with fail;refine HFI.out.mono ?_;rintro e6 w6 ⟨rfl,hto⟩;have HTO:=oh hto;clear hto;go_wp2_with fail;first|go_end0|(refine bodyPost_ret (results_none rfl _ _ _) rfl ?_)
      exact⟨rfl,HTO.out⟩
    | succ f =>
     have hd16:¬ (16:Int)<dep:=by have:=HDP.out;omega
     have HV:=oh (zO2 (z:=s.size) (f:=f) HOP.out HDC.out);have HGD:=oh (zIL (H2.out.at (HM4.out.trans HM5.out)) id (by
      have h7:=HF.out;rw[HV.out] at h7;exact ((zCI (zF0 (dkQ D) s.gen s.size) _ _).trans (zCI (λB k=>zDg (dkQ D) s.gen s.size f k B) _ _)).few h7))
     rcases hk with rfl|rfl
     all_goals
      have hlf3:=hlf.symm;simp only[beq_self_eq_true,Int.reduceBEq] at hlf3;subst hlf3;go_wp2_with fail;refine HGD.out.mono ?_;rintro e6 w6 ⟨rfl,fv6,iv6,lv6,h6,g6⟩;obtain⟨R,hR⟩:∃R,R=w4.heap.size:=⟨_,rfl⟩;have HNS:Hid (zIt w0 w w6 kb mb d s g fv iv lv n R ea ka ia ec kc ic kn (A2.good id) fv6 iv6 lv6):=oh (by
       have hns:zIt w0 w _ kb mb d s g fv iv lv n R ea ka ia ec kc ic kn A2 fv2 iv lv :=
        ⟨H2.out.at (HM4.out.trans HM5.out),HG2.out.trans (zAA.ext (HM4.out.trans HM5.out)),⟨_,by rw[hR];exact HND.out⟩,λhb=>by have:=((H2.out.at HM4.out).lt _ hb).2;omega,HSE.out.ext HM5.out,HSI.out.ext HM5.out⟩
       exact hns.nxt h6 g6)
      rw[<- hR];obtain⟨lfb,hnd⟩:=HNS.out.nd;have d1:=hnd.cell (o:=1) (v:=.slice ea n.entries.length ec) rfl;have HRN:Hid (zO n=true):=oh (zIr HDC.out).1;have HFE:Hid ((n.entries.foldl (zBs (dkQ D) s.gen s.size) (A2.good id)).few):=oh (by
       have h7:=HF.out;rw[HV.out] at h7;exact (zCI (λB k=>zDg (dkQ D) s.gen s.size f k B) _ _).few h7)
      obtain⟨EA,hEA⟩:∃EA,EA=n.entries.foldl (zBs (dkQ D) s.gen s.size) (A2.good id):=⟨_,rfl⟩;have HEA:=oh hEA;rw[<- hEA] at HFE HV;clear h6 g6 p0 hR hEA hlf hnd;go_wp2_with fail;clear d1;go_loopg [56] n.entries.length (λq v56 wr=>∃(k:Nat) (B:yQ) (fv1 iv1 lv1:Value),k+q=n.entries.length/\v56=.int .i64 (k:Int)/\Hid (zIt w0 w wr kb mb d s g fv iv lv n R ea ka ia ec kc ic kn B fv1 iv1 lv1/\(n.entries.drop k).foldl (zBs (dkQ D) s.gen s.size) B=EA))
      case atStart=>exact⟨0,A2.good id,fv6,iv6,lv6,by omega,rfl,oh ⟨HNS.out,HEA.out.symm⟩⟩
      case round =>
       obtain⟨k,B,fv7,iv7,lv7,hkm,rfl,HQ⟩:=hrel;by_cases hlt:k<n.entries.length
       .obtain⟨b5,off,hea,hc⟩:=HQ.out.1.es.elem hlt (zA.refl _ _);obtain⟨x,hx⟩:∃x,x=n.entries[k]:=⟨_,rfl⟩;rw[<- hx] at hc;have HXE:Hid (zFz x.chain/\x.size<=4096):=oh (zM9 HRN.out x (by rw[hx];exact List.getElem_mem hlt));have c0:=hc 0 _ rfl;simp only[Nat.add_zero] at c0;have c1:=hc 1 _ rfl;have c2:=hc 2 _ rfl;have c3:=hc 3 _ rfl;subst hea;have HDR:Hid (n.entries.drop k=x :: n.entries.drop (k+1)):=oh (by rw[hx];exact List.drop_eq_getElem_cons hlt);have HEN:Hid ((n.entries.drop (k+1)).foldl (zBs (dkQ D) s.gen s.size) (zBs (dkQ D) s.gen s.size B x)=EA):=oh (by have:=HQ.out.2;rw[HDR.out,List.foldl_cons] at this;exact this);have HFX:Hid ((zBs (dkQ D) s.gen s.size B x).few):=oh (by have:=HFE.out;rw[<- HEN.out] at this;exact (zCI (zF0 (dkQ D) s.gen s.size) _ _).few this);have hkf:=(zNB (dkQ D) s.gen s.size B x).few HFX.out;have hkn2:B.keys<1000000:=by have:=hkf.2.2.2.2;simp only[yQ.key] at this;omega
        have i1:(0:Int)<=(k:Int):=by omega
        have i2:(k:Int)<(n.entries.length:Int):=by omega
        have m8:zF wr (wr.alloc (.cells #[.string x.key,.string x.value,.int .i64 x.chain,.int .i64 x.size] 228)):=(zA.refl _ wr).alloc _;have h8:=HQ.out.1.ext m8;have hEB:zH (wr.alloc (.cells #[.string x.key,.string x.value,.int .i64 x.chain,.int .i64 x.size] 228)) wr.heap.size #[.string x.key,.string x.value,.int .i64 x.chain,.int .i64 x.size] 228:=zH.new wr _ _;have k11:=h8.st.blk.cell (o:=11) (v:=.int .i64 (B.keys:Int)) rfl;have kfr:=h8.st.blk.frozen;obtain⟨h9,g9⟩:=h8.st.keyd hkf;have HN9:=oh (h8.nxt h9 g9);have hnl:¬ LkB kb mb fv7 iv7 lv7 wr.heap.size:=λhb=>by have:=(HQ.out.1.st.lt _ hb).2;omega
        obtain⟨hE9,hn9⟩:=g9.blk hEB hnl;have HE9:=oh (And.intro hE9 hn9);have y0:=hE9.cell (o:=0) (v:=.string x.key) rfl;have y1:=hE9.cell (o:=1) (v:=.string x.value) rfl;have y2:=hE9.cell (o:=2) (v:=.int .i64 x.chain) rfl;have y3:=hE9.cell (o:=3) (v:=.int .i64 x.size) rfl;have hne:wr.heap.size≠kb:=λe=>hnl (.inl e)
        have hne2:kb≠wr.heap.size:=λe=>hne e.symm
        clear hc hx h8 hEB h9 g9 hE9 hn9 hnl m8;by_cases hch:x.chain=0
        .have HEV:Hid (zBs (dkQ D) s.gen s.size B x=B.key):=oh (by unfold zBs;rw[if_pos hch]);have hcb:(x.chain != 0)=false:=by rw[hch];rfl
         clear hch;go_wp2_with fail;go_roundg (gk-1)
         case measure=>omega
         case rel=>exact⟨k+1,B.key,fv7,iv7,lv7,by omega,by go_num,oh ⟨HN9.out,by rw[<- HEV.out];exact HEN.out⟩⟩
        .have hcb:(x.chain != 0)=true:=bne_iff_ne.2 hch;obtain⟨cr,hcr⟩:∃c,c=qI (dkQ D) s.gen s.size x.size.toNat x.chain x.size B.key:=⟨_,rfl⟩;obtain⟨B1,ok⟩:=cr;have HEV:Hid (zBs (dkQ D) s.gen s.size B x=if ok=true then B1 else B1.lose x.key):=oh (by unfold zBs;rw[if_neg hch,<- hcr]);have HFC:Hid (B1.few):=oh (by
          have h7:=HFX.out;rw[HEV.out] at h7;cases ok
          .exact (yQ.le_lose _ _).few h7
          .exact h7)
         have HCH:=oh (zLs HL.out HD.out HZ.out HN9.out.st x HXE.out.1 HXE.out.2 (by rw[<- hcr];exact HFC.out));rw[<- hcr] at HCH;simp only at HCH;clear hch hcr;go_wp2_with fail;refine HCH.out.mono ?_;rintro e10 w10 ⟨rfl,fv10,iv10,lv10,h10,g10⟩;have HN10:=oh (HN9.out.nxt h10 g10);have HE10:=oh (g10.blk HE9.out.1 HE9.out.2);clear h10 g10 y0 y1 y2 y3 k11 kfr c0 c1 c2 c3;cases ok
         .obtain⟨la,lc,rfl, -, -⟩:=_root_.id HN10.out.st.rl.form;have HOW:Hid (yC (λ_=>False) (w10.drew.alloc (.cells #[.string x.key] 9)) w0.heap.size 9 1 vZ (.slice la B1.lost.length lc) B1.lost):=oh ((HN10.out.st.rl.ext (zA.refl _ _).drew).ext ((zA.refl _ _).alloc (.cells #[.string x.key] 9)));have HB10:Hid (zH (w10.drew.alloc (.cells #[.string x.key] 9)) kb (lkC d mb s g B1 fv10 iv10 (.slice la B1.lost.length lc)) 135):=oh ((HN10.out.st.blk.drew).alloc _);have hbs:w0.heap.size<=w10.heap.size:=HN10.out.st.ext.size;have HFL:Hid (B1.lost.length<=100000):=oh HFC.out.2.2.2.1;have k12:=HN10.out.st.blk.cell (o:=12) (v:=.slice la B1.lost.length lc) rfl;have k12b:=λo=>zE ((zA.refl _ _).alloc o) k12
          have kfr:=HN10.out.st.blk.frozen 12;have y0:=HE10.out.1.cell (o:=0) (v:=.string x.key) rfl;go_wp2_with fail;go_region_law
           (first
            | (refine zEq Tryz.elS zBl (by rfl) _ _ (by rfl) w0.heap.size (.slice la B1.lost.length lc) _ B1.lost [x.key] (by rfl) (by rfl) HOW.out (Sl.one (F:=λ_=>False) (zR (by simp)) (λf=>f)) (by have:=HFL.out;simp only[List.length_cons,List.length_nil];omega) (by simp;omega) (λf=>f) ?_;simp only[List.length_cons,List.length_nil,Nat.zero_add];intro a11 c11 w11 hO11 hm11 hat11;have hB11:=HB10.out.mods hm11 (λe=>yC.notB HOW.out HB10.out (by decide) _ e rfl);have z12:=hB11.cell (o:=12) (v:=.slice la B1.lost.length lc) rfl;have zf:=hB11.frozen 12;clear hB11)
            | fail)
          all_goals
           obtain⟨h12,g12⟩:=(HN10.out.st.at (zA.refl _ w10).drew).losed (k:=x.key) (by have h7:=HFX.out;rw[HEV.out,if_neg (by simp)] at h7;exact h7) hO11 hm11 hat11;have HN12:=oh ((HN10.out.ext (zA.refl _ w10).drew).nxt h12 g12);clear h12 g12 hO11 hm11 hat11 z12 zf k12 k12b kfr y0;go_wp2_with fail;go_roundg (gk-1)
           case measure=>omega
           case rel=>exact⟨k+1,B1.lose x.key,fv10,iv10,_,by omega,by go_num,oh ⟨HN12.out,by have h7:=HEN.out;rw[HEV.out,if_neg (by simp)] at h7;exact h7⟩⟩
         .go_wp2_with fail;go_roundg (gk-1)
          case measure=>omega
          case rel=>exact⟨k+1,B1,fv10,iv10,lv10,by omega,by go_num,oh ⟨HN10.out,by have h7:=HEN.out;rw[HEV.out,if_pos (by trivial)] at h7;exact h7⟩⟩
       .have HBE:Hid (B=EA):=oh (by have:=HQ.out.2;rw[List.drop_eq_nil_of_le (by omega)] at this;exact this);obtain⟨lfc,hnd2⟩:=HQ.out.1.nd;have d3:=hnd2.cell (o:=3) (v:=.slice ia n.kids.length ic) rfl;have HN7:=oh HQ.out.1;clear HQ hnd2;go_wp2_with fail;clear d3;go_loopg [95] n.kids.length (λq v95 wr=>∃(k:Nat) (B:yQ) (fv1 iv1 lv1:Value),k+q=n.kids.length/\v95=.int .i64 (k:Int)/\Hid (zIt w0 w wr kb mb d s g fv iv lv n R ea ka ia ec kc ic kn B fv1 iv1 lv1/\(n.kids.drop k).foldl (λC i=>vU (dkQ D) s.gen s.size f i C) B=vU (dkQ D) s.gen s.size (f+1) id A))
        case atStart=>exact⟨0,B,fv7,iv7,lv7,by omega,rfl,oh ⟨HN7.out,by rw[HV.out,HBE.out];rfl⟩⟩
        case round =>
         obtain⟨k2,B2,fv8,iv8,lv8,hkm2,rfl,HQ2⟩:=hrel;by_cases hlt2:k2<n.kids.length
         .obtain⟨b6,off6,hia,hc6⟩:=HQ2.out.1.is.elem hlt2 (zA.refl _ _);obtain⟨kid,hkid⟩:∃i,i=n.kids[k2]:=⟨_,rfl⟩;have d0:=hc6 0 (.int .i64 kid) (by rw[hkid];rfl);simp only[Nat.mul_one,Nat.add_zero] at d0;subst hia;have HDR2:Hid (n.kids.drop k2=kid :: n.kids.drop (k2+1)):=oh (by rw[hkid];exact List.drop_eq_getElem_cons hlt2);have HEN2:Hid ((n.kids.drop (k2+1)).foldl (λC i=>vU (dkQ D) s.gen s.size f i C) (vU (dkQ D) s.gen s.size f kid B2)=vU (dkQ D) s.gen s.size (f+1) id A):=oh (by have:=HQ2.out.2;rw[HDR2.out,List.foldl_cons] at this;exact this);have HCN:=oh (HRC.out f rfl _ B2 fv8 iv8 lv8 kid (dep+1) HQ2.out.1.st (zNA HRN.out kid (by rw[hkid];exact List.getElem_mem hlt2)) (by have:=HDP.out;omega) (by have:=HF.out;rw[<- HEN2.out] at this;exact (zCI (λB k=>zDg (dkQ D) s.gen s.size f k B) _ _).few this));have i1:(0:Int)<=(k2:Int):=by omega
          have i2:(k2:Int)<(n.kids.length:Int):=by omega
          have hdr : -100<=dep/\dep<=17:=by have:=HDP.out;omega
          clear hc6 hkid;go_wp2_with fail;refine HCN.out.mono ?_;rintro e12 w12 ⟨rfl,fv12,iv12,lv12,h12,g12⟩;have HN12:=oh (HQ2.out.1.nxt h12 g12);clear h12 g12 d0;go_wp2_with fail;go_roundg (gk-1)
          case measure=>omega
          case rel=>exact⟨k2+1,_,fv12,iv12,lv12,by omega,by go_num,oh ⟨HN12.out,HEN2.out⟩⟩
         .go_wp2_with fail;first|go_end0|(refine bodyPost_ret (results_none rfl _ _ _) rfl ?_)
          have h7:=HQ2.out.2;rw[List.drop_eq_nil_of_le (by omega)] at h7;rw[<- h7];exact⟨rfl,fv8,iv8,lv8,HQ2.out.1.st,HQ2.out.1.go⟩
   .have HDC:Hid (∃r,qH ⟨xk,xi,xg,xb⟩=.inr r):=oh ⟨_,by unfold qH;simp only[if_neg hk];rfl⟩;have hk3:xk≠3:=λe=>hk (.inl e)
    have hk2:xk≠2:=λe=>hk (.inr e)
    have q3:(xk == (3:Int))=false:=beq_eq_false_iff_ne.2 hk3;have q2:(xk == (2:Int))=false:=beq_eq_false_iff_ne.2 hk2;have HFI:=oh (FIND.out _ (HM4.out.trans HM5.out) (.inr HDC.out));rw[q3] at hlf;subst hlf;clear hk;go_wp2_with fail;refine HFI.out.mono ?_;rintro e6 w6 ⟨rfl,hto⟩;have HTO:=oh hto;clear hto;go_wp2_with fail;first|go_end0|(refine bodyPost_ret (results_none rfl _ _ _) rfl ?_)
    exact⟨rfl,HTO.out⟩
  .have HDC:Hid (∃r,qH ⟨xk,xi,xg,xb⟩=.inr r):=oh (by
    unfold qH;by_cases hk:xk=3\/xk=2
    .simp only[if_pos hk,HLF.out,hgn];exact⟨_,rfl⟩
    .simp only[if_neg hk];exact⟨_,rfl⟩)
   have HFI:=oh (FIND.out _ ((HM3.out.trans m4).trans ((zA.refl _ w4).alloc (.cells #[.bool false,.slice none 0 0,.slice none 0 0,.slice none 0 0] 174))) (.inr HDC.out));clear hgn hE m4 p0 p3;unfold zL;go_wp2_with fail;refine HFI.out.mono ?_;rintro e6 w6 ⟨rfl,hto⟩;have HTO:=oh hto;clear hto;go_wp2_with fail;first|go_end0|(refine bodyPost_ret (results_none rfl _ _ _) rfl ?_)
   exact⟨rfl,HTO.out⟩
end
end Go.Proofs.YteabpacpngaoaaaGreatDoor
