import Derived.Test.YtalpfcaakpgkmaaGreatDoorR42
namespace Go.Proofs.YtalpfcaakpgkmaaGreatDoor
open Lib renaming hid->oh
set_option maxHeartbeats 8000000
set_option maxRecDepth 100000
section
open Go.RowKit
section
variable {ad:Nat->Addr}{s:yG}{m:qW}{D:zJ}
theorem zPa(h:zBM D s m):zE4 ad D s:=by
 intro F w av bv hL ha hb Be Bf;have Bu:=h.lim;have h0:=h.openS (i:=0) (by omega);have h1:=h.openS (i:=1) (by omega);have n0:=h.none (i:=0) (by omega);have n1:=h.none (i:=1) (by omega);obtain⟨sg,sb,sz,sr,sk⟩:=s;cases e0:yA D 0 with
 | false =>
  rw[e0,if_neg (by simp)] at h0;cases e1:yA D 1 with
  | false =>
   rw[e1,if_neg (by simp)] at h1;refine (zCo hL av bv _ _ ha hb (by omega) (by omega) (by omega) (by omega) n0 n1 h0 h1 (uD _)).mono ?_;rintro e w' ⟨ev,rfl,hE,hm⟩;cases hE
   exact⟨0,rfl,hm⟩
  | true =>
   rw[e1,if_pos rfl] at h1;refine (zEn hL av bv _ _ ha hb (by omega) (by omega) (by omega) (by omega) n0 n1 h0 h1).mono ?_;rintro e w' ⟨ev,rfl,hE,hm⟩;cases hE
   exact⟨0,rfl,hm⟩
 | true =>
  have e1:yA D 1=false:=by
   rcases h.one with h|h
   .rw[e0] at h;cases h
   .exact h
  rw[e0,if_pos rfl] at h0;rw[e1,if_neg (by simp)] at h1;refine (zEV hL av bv _ _ ha hb (by omega) (by omega) (by omega) (by omega) n0 n1 h0 h1).mono ?_;rintro e w' ⟨ev,rfl,hE,hm⟩;cases hE
  exact⟨1,rfl,hm⟩
end
section
variable {P P' F F':NP}{ad:Nat->Addr}{w w':World}{d:Nat}{D:zJ}
theorem zMU(hL:yH F ad w)(h:DkS w P d D)(ho:D.off=false)(s:yG)(m:qW)(hX:zBM D s m)(A8:∀i,D.look i=D.lasting.getD i [])(Am:∀i,i<D.blocks->(D.lasting.getD i []).length=D.size)
  (S:Nat) (Bv:¬ P S) (An:F S) (cv sv:Value) (s0:yG) (h0 root keys:Int) (dead:Bool) (hB:zG w S (stC d cv sv s0 h0 root keys (.slice none 0 0) dead) 106) :
  Calls Tryz.prog 48 #[.pointer (some ⟨S,0,none⟩)] w λe w'=>e=.returned .nilIface/\(∃(hm:Nat) (ia:Option Addr) (ic:Nat) (Li:List Int),hm<2/\Li.length<=1/\(yA D 0=false->yA D 1=false->Li=[]/\hm=0)/\zG w' S (stC d cv sv s (hm:Int) root keys (.slice ia Li.length ic) dead) 106 /\ yC (λ_=>False) w' w.heap.size 3 1 yI (.slice ia Li.length ic) Li)/\zA (λj=>j=S) w w':=by
 obtain⟨b8,_,_,_⟩:=hX.lim;have l0:(D.look 0).length=D.size:=by rw[A8];exact Am 0 (by omega)
 have l1:(D.look 1).length=D.size:=by rw[A8];exact Am 1 (by omega)
 have o0:=hX.openS (i:=0) (by omega);have o1:=hX.openS (i:=1) (by omega);rw[<- A8] at o0 o1;cases e0:yA D 0 with
 | false =>
  rw[e0,if_neg (by simp)] at o0;cases e1:yA D 1 with
  | false =>
   rw[e1,if_neg (by simp)] at o1;refine (zLu hL h ho s o0 o1 hX.blk hX.siz l0 l1 S Bv An cv sv _ s0 h0 root keys dead hB).mono ?_;rintro e w' ⟨rfl,hb,hm⟩;exact⟨rfl,⟨0,none,0,[],by omega,tH _,λ_ _=>⟨rfl,rfl⟩,hb,yC.nil (λ_=>False) w' w.heap.size _ _ _⟩,hm⟩
  | true =>
   rw[e1,if_pos rfl] at o1;refine (zIT hL h ho s o0 o1 (by rw[A8];exact zBG.1 e1) hX.blk hX.siz l0 l1 S Bv An cv sv s0 h0 root keys dead hB).mono ?_;rintro e w' ⟨rfl,⟨a,c,hb,ho⟩,hm⟩;exact⟨rfl,⟨0,a,c,[1],by omega,uD _,λ_ h=>(by cases h),hb,ho⟩,hm⟩
 | true =>
  have e1:yA D 1=false:=by
   rcases hX.one with h|h
   .rw[e0] at h;cases h
   .exact h
  rw[e0,if_pos rfl] at o0;rw[e1,if_neg (by simp)] at o1;refine (zIU hL h ho s o1 o0 (by rw[A8];exact zBG.1 e0) hX.blk hX.siz l0 l1 S Bv An cv sv s0 h0 root keys dead hB).mono ?_;rintro e w' ⟨rfl,⟨a,c,hb,ho⟩,hm⟩;exact⟨rfl,⟨1,a,c,[0],by omega,uD _,λh=>(by cases h),hb,ho⟩,hm⟩
end
end
section
open Go.RowKit
attribute [local go_sem ↓] Go.wp_at_zero Go.wp_at_succ
section
variable {F:NP}{ad:Nat->Addr}{w w':World}{s:yG}{m:qW}{D:zJ}
theorem zHR(hL:yH F ad w)(h:zBM D s m)(bv:Value)(k:Nat)(hk:k<2)(hb:Sl F w 1 zZ bv (D.lasting.getD (place s.gen k) []))(hl:(D.lasting.getD (place s.gen k) []).length=D.size) :
  Calls Tryz.prog 154 #[bv,.int .i64 (place s.gen k:Int),.int .u64 (s.gen:Int),.int .i64 (s.blocks:Int)] w λe w'=>∃(mg mb:Int) (ua:Option Addr) (un uc:Nat) (ev:Value),e=.returned (.tuple #[.agg #[.int .u64 mg,.int .i64 mb,.slice ua un uc],ev])/\((yA D (place s.gen k)=false/\ev=.nilIface/\mg=(s.gen:Int)/\mb=(s.blocks:Int)/\un=(yF m).length/\yC (λ_=>False) w' w.heap.size 3 1 yI (.slice ua (yF m).length uc) (yF m))\/(yA D (place s.gen k)=true/\∃f,ev=zP f))/\zF w w':=by
 have Bu:=h.lim;have hg:=h.gen;have hp:place s.gen k<6:=by unfold place;omega
 cases hs:yA D (place s.gen k) with
 | true =>
  refine (zHG hL (place s.gen k) s.gen s.blocks hp bv _ hb (by omega) (by omega) (zBG.1 hs)).mono ?_;rintro e w' ⟨f,rfl,hm⟩;exact⟨0,0,none,0,0,_,rfl,.inr ⟨rfl,f,rfl⟩,hm⟩
 | false =>
  have hr:D.lasting.getD (place s.gen k) []=yO m (place s.gen k) D.size:=by
   rcases h.map k hk with h|h
   .rw[hs] at h;cases h
   .exact h
  rw[hr] at hb;have Df:zAw m.gen (place s.gen k)=true:=by
   rw[h.mgen];rcases (show k=0\/k=1 by omega) with rfl|rfl
   .exact zLd _
   .exact zLe _
  have hc:=zIR hL m h.mok (by rw[h.mgen];omega) (place s.gen k) D.size Df (by omega) (by omega) bv hb;rw[h.mgen,h.mblk] at hc;refine hc.mono ?_;rintro e w' ⟨uv,rfl,ho,_,hm⟩;obtain⟨ua,uc,rfl, -⟩:=ho.form;exact⟨_,_,ua,_,uc,_,rfl,.inl ⟨rfl,rfl,by rw[h.mgen],by rw[h.mblk],rfl,ho⟩,hm⟩
theorem Sl.cell1{F:NP}{w:World}{b o c:Nat}{x:Int}(h:w.cell? ⟨b,o,none⟩=some (.int .i64 x))(hb:b<w.heap.size)(hF:¬ F b)(hc:1<=c)(hm:c<=maxLen):Sl F w 1 yI (.slice (some ⟨b,o,none⟩) 1 c) [x]:=by
 refine⟨_,c,rfl,hc,hm,by simp,.inr ⟨b,o,rfl,hb,hF,λi y hi j u hu=>?_⟩⟩;match i,hi with
 | 0,hi =>
  simp at hi;subst hi;match j,hu with
  | 0,hu =>
   simp[yI] at hu;subst hu;simpa using h
theorem zK3(hL:yH F ad w)(h:zBM D s m)(h1:yA D (place s.gen 0)=false\/yA D (place s.gen 1)=false)(av bv:Value)(ha:Sl F w 1 zZ av (D.lasting.getD (place s.gen 0) []))(hb:Sl F w 1 zZ bv (D.lasting.getD (place s.gen 1) []))(Be:(D.lasting.getD (place s.gen 0) []).length=D.size)(Bf:(D.lasting.getD (place s.gen 1) []).length=D.size) :
  Calls Tryz.prog 98 #[av,bv,.int .u64 (s.gen:Int),.int .i64 (s.blocks:Int)] w λe w'=>∃(ua:Option Addr) (uc:Nat) (ba:Option Addr) (bn bc:Nat),e=.returned (.tuple #[.agg #[.int .u64 (s.gen:Int),.int .i64 (s.blocks:Int),.slice ua (yF m).length uc],.slice ba bn bc,.nilIface])/\yC (λ_=>False) w' w.heap.size 3 1 yI (.slice ua (yF m).length uc) (yF m)/\(∃Lb:List Int,Sl (λk=>k<w.heap.size) w' 1 yI (.slice ba bn bc) Lb/\Lb.length=bn/\bn<=1/\(yA D (place s.gen 0)=false->yA D (place s.gen 1)=false->bn=0))/\zF w w':=by
 have Ao:=oh (λW (k:zF w W)=>zHR (hL.mods k.ext) h av 0 (by omega) (ha.ext k) Be);have Ap:=oh (λW (k:zF w W)=>zHR (hL.mods k.ext) h bv 1 (by omega) (hb.ext k) Bf);have hg:=h.gen;have Az:=oh (λw'=>zDN s.gen (by omega) w');have Af:Hid (zC3 s.gen=.agg #[.int .i64 (place s.gen 0:Int),.int .i64 (place s.gen 1:Int)]):=oh rfl;have H1:=oh h1;obtain⟨aa,ac,rfl, -⟩:=ha;obtain⟨ba,bc,rfl, -⟩:=hb;rw[Be] at Ao ⊢;rw[Bf] at Ap ⊢;obtain⟨g,Aq⟩:∃g,g=s.gen:=⟨_,rfl⟩;obtain⟨b,Ar⟩:∃b,b=s.blocks:=⟨_,rfl⟩;obtain⟨q0,B1⟩:∃q,q=place s.gen 0:=⟨_,rfl⟩;obtain⟨q1,B2⟩:∃q,q=place s.gen 1:=⟨_,rfl⟩;rw[<- B1] at Ao Af H1 ⊢;rw[<- B2] at Ap Af H1 ⊢;rw[<- Aq] at Ao Ap Az Af ⊢;rw[<- Ar] at Ao Ap ⊢;obtain⟨Z,hZ⟩:∃Z,Z=D.size:=⟨_,rfl⟩;rw[<- hZ] at Ao Ap ⊢;clear hL h h1 Be Bf Aq Ar B1 B2 hg hZ;obtain⟨W0,Bg⟩:∃W0,W0=w.alloc (.cells #[.int .u64 0,.int .i64 0,.slice none 0 0] 133):=⟨_,rfl⟩;have Cm:zF w W0:=by rw[Bg];exact (zss w).alloc _
 have As:zG W0 w.heap.size #[.int .u64 0,.int .i64 0,.slice none 0 0] 133:=by rw[Bg];exact zG.new w _ _
 have Dg:=oh Cm;have Dh:=oh As;have E7:=As.lt;clear Cm As
 go_enter Tryz.func98, Tryz.ntmps98
 go_wp2_with fail;rw[<- Bg];refine (Az.out _).mono ?_;rintro e w1 ⟨rfl,m1⟩;rw[Af.out];have B3:=oh (Dg.out.trans m1);have Bw:=oh (Dh.out.ext m1);have B4:w.heap.size<w1.heap.size:=Bw.out.lt;clear m1 Bg;go_wp2_with fail;obtain⟨W2,Bh⟩:∃W,W=w1.alloc (.cells #[.int .i64 (q0:Int),.int .i64 (q1:Int)] 181):=⟨_,rfl⟩;have m2:zF w1 W2:=by rw[Bh];exact (zss w1).alloc _
 have Bx:zG W2 w1.heap.size #[.int .i64 (q0:Int),.int .i64 (q1:Int)] 181:=by rw[Bh];exact zG.new w1 _ _
 obtain⟨X,hX⟩:∃X,X=w1.heap.size:=⟨_,rfl⟩;rw[<- hX] at Bx B4;have Bi:Hid (w.heap.size<X):=oh (by omega);rw[<- Bh,<- hX];have Ag:=oh (B3.out.trans m2);have Cn:=oh (Bw.out.ext m2);have By:=oh Bx;clear m2 Bx Bh hX B3 Bw;refine (Ao.out _ Ag.out).mono ?_;rintro e w3 ⟨ag,ab,ua,un,uc,ea,rfl,Co,m3⟩;have Di:Hid ((yA D q0=false/\ea=.nilIface/\ag=(g:Int)/\ab=(b:Int)/\un=(yF m).length/\yC (λ_=>False) w3 w.heap.size 3 1 yI (.slice ua (yF m).length uc) (yF m)/\∀j,(Value.slice ua (yF m).length uc).ownBlock=some j->w.heap.size<j)\/(yA D q0=true/\∃f,ea=zP f)):=oh (Co.imp (λ⟨k1,k2,k3,k4,k5,k6⟩=>⟨k1,k2,k3,k4,k5,k6.rebase Ag.out.size,λj hj=>by have:=(k6.lt j hj).1;have:=By.out.lt;omega⟩) id);have Ah:=oh (Ag.out.trans m3);have Cp:=oh (Cn.out.ext m3);have A9:=oh (By.out.ext m3);have c1:=A9.out.k 1 rfl;have Dj:=A9.out.lt;clear m3 Co Ag Cn By;go_wp2_with fail;obtain⟨W4,Bj⟩:∃W,W=w3.alloc (.cells #[.int .u64 ag,.int .i64 ab,.slice ua un uc] 133):=⟨_,rfl⟩;have m4:zF w3 W4:=by rw[Bj];exact (zss w3).alloc _
 have Bz:zG W4 w3.heap.size #[.int .u64 ag,.int .i64 ab,.slice ua un uc] 133:=by rw[Bj];exact zG.new w3 _ _
 obtain⟨Y,hY⟩:∃Y,Y=w3.heap.size:=⟨_,rfl⟩;rw[<- hY] at Bz Dj;rw[<- Bj,<- hY];have Bk:=oh (Ah.out.trans m4);have C0:=oh m4;have Cq:=oh (Cp.out.ext m4);have Cr:=oh (A9.out.ext m4);have C1:=oh Bz;clear m4 Bz Bj hY Ah Cp A9 c1;refine (Ap.out _ Bk.out).mono ?_;rintro e w5 ⟨bg,bb,va,vn,vc,eb,rfl,Cs,m5⟩;have Dk:Hid ((yA D q1=false/\eb=.nilIface/\bg=(g:Int)/\bb=(b:Int)/\vn=(yF m).length/\yC (λ_=>False) w5 w.heap.size 3 1 yI (.slice va (yF m).length vc) (yF m)/\∀j,(Value.slice va (yF m).length vc).ownBlock=some j->w.heap.size<j)\/(yA D q1=true/\∃f,eb=zP f)):=oh (Cs.imp (λ⟨k1,k2,k3,k4,k5,k6⟩=>⟨k1,k2,k3,k4,k5,k6.rebase Bk.out.size,λj hj=>by have:=(k6.lt j hj).1;have:=C1.out.lt;omega⟩) id);have B5:=oh (C0.out.trans m5);have Aj:=oh (Bk.out.trans m5);have C2:=oh (Cq.out.ext m5);have Bl:=oh (Cr.out.ext m5);have C3:=oh (C1.out.ext m5);have E8:=C3.out.lt;clear m5 Cs Bk Cq C1 Cr;rcases Di.out with ⟨k1,rfl,rfl,rfl,rfl,k6,k7⟩|⟨k1,fa,rfl⟩
 all_goals
  rcases Dk.out with ⟨j1,rfl,rfl,rfl,rfl,j6,j7⟩|⟨j1,fb,rfl⟩
 all_goals
  first
  | (exfalso;have h7:=H1.out;rw[k1,j1] at h7;simp at h7;done)
  | skip
 .obtain⟨W6,A4⟩:∃W,W=w5.alloc (.cells #[.int .u64 (g:Int),.int .i64 (b:Int),.slice va (yF m).length vc] 133):=⟨_,rfl⟩;have m6:zF w5 W6:=by rw[A4];exact (zss w5).alloc _
  have B6:=oh (Aj.out.trans m6);have A0:=oh (C2.out.ext m6);have Ai:=oh ((k6.ext B5.out).ext m6);have A5:=oh (C3.out.ext m6);have K7:=oh k7;obtain⟨U,hU⟩:∃U,U=(yF m).length:=⟨_,rfl⟩;have HU:=oh hU;rw[<- hU] at Ai A5 K7 A4 ⊢;clear k6 k7 j6 j7 k1 j1 m6 hU;go_upto_if 36 with fail
  rw[<- A4];have y0:=A5.out.d 0 (.int .u64 (g:Int)) rfl;have y1:=A5.out.d 1 (.int .i64 (b:Int)) rfl;have y2:=A5.out.d 2 (.slice ua U uc) rfl;have r0:=A0.out.d 0 (.int .u64 0) rfl;have r1:=A0.out.d 1 (.int .i64 0) rfl;have r2:=A0.out.d 2 (.slice none 0 0) rfl;have rf:=A0.out.frozen;clear A4;go_wp2_with fail;have Aa:=zA.set3 (F:=λj=>j=w.heap.size) (zss W6) (R:=w.heap.size) (.inr rfl) (.int .u64 (g:Int)) (.int .i64 (b:Int)) (.slice ua U uc);refine bodyPost_ret (zAS rfl _ _ w.heap.size 133 #[.int .u64 (g:Int),.int .i64 (b:Int),.slice ua U uc] _ rfl (A0.out.set3 _ _ _) Tryz.underlying133 rfl Tryz.mapSize) rfl ?_;rw[<- HU.out];exact⟨ua,uc,none,0,0,rfl,Ai.out.mods Aa (λj hj h=>by have:=K7.out j hj;omega),⟨[],Sl.nil _ _ _ _,rfl,tH _,λ_ _=>rfl⟩,B6.out.trans' Aa (λi hi h=>by have h':i=w.heap.size:=h;omega)⟩
 .obtain⟨W6,A4⟩:∃W,W=w5.alloc (.cells #[.int .u64 bg,.int .i64 bb,.slice va vn vc] 133):=⟨_,rfl⟩;have m6:zF w5 W6:=by rw[A4];exact (zss w5).alloc _
  have B6:=oh (Aj.out.trans m6);have A7:=oh m6;have A0:=oh (C2.out.ext m6);have Ai:=oh ((k6.ext B5.out).ext m6);have A5:=oh (C3.out.ext m6);have K7:=oh k7;obtain⟨U,hU⟩:∃U,U=(yF m).length:=⟨_,rfl⟩;have HU:=oh hU;rw[<- hU] at Ai A5 K7 ⊢;unfold zP;have C4:=oh j1;clear k6 k7 k1 j1 m6 hU;go_upto_if 36 with fail
  rw[<- A4];have y0:=A5.out.d 0 (.int .u64 (g:Int)) rfl;have y1:=A5.out.d 1 (.int .i64 (b:Int)) rfl;have y2:=A5.out.d 2 (.slice ua U uc) rfl;have r0:=A0.out.d 0 (.int .u64 0) rfl;have r1:=A0.out.d 1 (.int .i64 0) rfl;have r2:=A0.out.d 2 (.slice none 0 0) rfl;have rf:=A0.out.frozen;have x0:=(Bl.out.ext A7.out).d 0 (.int .i64 (q0:Int)) rfl;clear A4;go_wp2_with fail;go_region
  go_wp2_with fail;have Aa:=(zA.set3 (F:=λj=>j=w.heap.size) (zss W6) (R:=w.heap.size) (.inr rfl) (.int .u64 (g:Int)) (.int .i64 (b:Int)) (.slice ua U uc)).drew;refine bodyPost_ret (zAS rfl _ _ w.heap.size 133 #[.int .u64 (g:Int),.int .i64 (b:Int),.slice ua U uc] _ rfl (zG.drew (A0.out.set3 _ _ _)) Tryz.underlying133 rfl Tryz.mapSize) rfl ?_;rw[<- HU.out];have B7:=(Bl.out.ext A7.out).mods Aa (λe=>by have:=Bi.out;have e':X=w.heap.size:=e;omega);exact⟨ua,uc,_,_,_,rfl,Ai.out.mods Aa (λj hj h=>by have:=K7.out j hj;omega),⟨[(q1:Int)],Sl.cell1 (B7.k 1 rfl) B7.lt (λh=>by have:=Bi.out;omega) (by omega) (by simp[maxLen]),rfl,uD _,λ_ h=>by rw[C4.out] at h;cases h⟩,B6.out.trans' Aa (λi hi h=>by have h':i=w.heap.size:=h;omega)⟩
 .obtain⟨W6,A4⟩:∃W,W=w5.alloc (.cells #[.int .u64 (g:Int),.int .i64 (b:Int),.slice va (yF m).length vc] 133):=⟨_,rfl⟩;have m6:zF w5 W6:=by rw[A4];exact (zss w5).alloc _
  have B6:=oh (Aj.out.trans m6);have A7:=oh m6;have A0:=oh (C2.out.ext m6);have Ai:=oh (j6.ext m6);have A5:Hid (zG W6 w5.heap.size #[.int .u64 (g:Int),.int .i64 (b:Int),.slice va (yF m).length vc] 133):=oh (by rw[A4];exact zG.new w5 _ _);have K7:=oh j7;obtain⟨U,hU⟩:∃U,U=(yF m).length:=⟨_,rfl⟩;have HU:=oh hU;rw[<- hU] at Ai A5 K7 A4 ⊢;unfold zP;have C4:=oh k1;clear j6 j7 k1 j1 m6 hU;go_upto_if 36 with fail
  rw[<- A4];have y0:=A5.out.d 0 (.int .u64 (g:Int)) rfl;have y1:=A5.out.d 1 (.int .i64 (b:Int)) rfl;have y2:=A5.out.d 2 (.slice va U vc) rfl;have r0:=A0.out.d 0 (.int .u64 0) rfl;have r1:=A0.out.d 1 (.int .i64 0) rfl;have r2:=A0.out.d 2 (.slice none 0 0) rfl;have rf:=A0.out.frozen;have x0:=(Bl.out.ext A7.out).d 0 (.int .i64 (q0:Int)) rfl;clear A4;go_wp2_with fail;go_region
  go_wp2_with fail;have Aa:=(zA.set3 (F:=λj=>j=w.heap.size) (zss W6) (R:=w.heap.size) (.inr rfl) (.int .u64 (g:Int)) (.int .i64 (b:Int)) (.slice va U vc)).drew;refine bodyPost_ret (zAS rfl _ _ w.heap.size 133 #[.int .u64 (g:Int),.int .i64 (b:Int),.slice va U vc] _ rfl (zG.drew (A0.out.set3 _ _ _)) Tryz.underlying133 rfl Tryz.mapSize) rfl ?_;rw[<- HU.out];have B7:=(Bl.out.ext A7.out).mods Aa (λe=>by have:=Bi.out;have e':X=w.heap.size:=e;omega);exact⟨va,vc,_,_,_,rfl,Ai.out.mods Aa (λj hj h=>by have:=K7.out j hj;omega),⟨[(q0:Int)],Sl.cell1 (B7.k 0 rfl) B7.lt (λh=>by have:=Bi.out;omega) (by omega) (by simp[maxLen]),rfl,uD _,λh _=>by rw[C4.out] at h;cases h⟩,B6.out.trans' Aa (λi hi h=>by have h':i=w.heap.size:=h;omega)⟩
end
theorem Sl.free{α:Type}{F:NP}{w:World}{sz:Nat}{enc:α->List Value}{v:Value}{l:List α}(h:Sl F w sz enc v l):Sl (λ_=>False) w sz enc v l:=by
 obtain⟨a,cap,rfl,h1,h2,h3,h4⟩:=h;exact⟨a,cap,rfl,h1,h2,h3,h4.imp id (λ⟨b,off,e1,e2,_,e4⟩=>⟨b,off,e1,e2,λf=>f,e4⟩)⟩
theorem zOR{F:NP}{w w':World}{v:Value}{Q:List Int->Prop}(h:∃Lb,Sl F w 1 yI v Lb/\Q Lb)(m:zA F w w'):∃Lb,Sl (λ_=>False) w' 1 yI v Lb/\Q Lb:=h.imp (λ_ k=>⟨(k.1.mods m).free,k.2⟩)
section
variable {P P' F F':NP}{ad:Nat->Addr}{w w':World}{d:Nat}{D:zJ}
theorem zPb(hL:yH F ad w)(h:DkS w P d D)(ho:D.off=false)(s:yG)(m:qW)(hX:zBM D s m)(A8:∀i,D.look i=D.lasting.getD i [])(Ct:yA D (place s.gen 0)=false\/yA D (place s.gen 1)=false)(Am:∀i,i<D.blocks->(D.lasting.getD i []).length=D.size)
  (S:Nat) (_hPS:¬ P S) (An:F S) (cv sv:Value) (Ab root keys:Int) (dead:Bool) (B0:Nat) (As:B0<=w.heap.size) (ia:Option Addr) (ic:Nat) (Li:List Int) (Cu:Li.length<=1) (Cv:yC (λ_=>False) w B0 3 1 yI (.slice ia Li.length ic) Li) (Cw:(Value.slice ia Li.length ic).ownBlock≠some S) (hB:zG w S (stC d cv sv s Ab root keys (.slice ia Li.length ic) dead) 106) :
  Calls Tryz.prog 49 #[.pointer (some ⟨S,0,none⟩)] w λe w'=>∃uv a c n,e=.returned (.tuple #[uv,.nilIface])/\Sl F w' 1 yI uv ((yF m).drop 6)/\zG w' S (stC d cv sv s Ab root keys (.slice a n c) dead) 106 /\ n<=Li.length+1/\(yA D (place s.gen 0)=false->yA D (place s.gen 1)=false->n=Li.length)/\zA (λj=>j=S\/(Value.slice ia Li.length ic).ownBlock=some j) w w':=by
 have hm:=hX.mok;have Ak:=hX.mgen;have Bm:=hX.mblk;have hg:m.gen<18446744073709551616:=by have:=hX.gen;omega
 obtain⟨Dl,_,B4,Dm⟩:=hX.lim;have C5:place m.gen 0<D.blocks:=by unfold place;omega
 have C6:place m.gen 1<D.blocks:=by unfold place;omega
 have Ac:=Am _ C5;have Ad:=Am _ C6;have h6:6<=(yF m).length:=by have:=(vV m).1 hm;unfold yF;rw[wS];omega
 have HL:Hid (∀w',zA F w w'->yH F ad w'):=oh (λw' k=>hL.mods k);have E9:=oh An;have At:Hid (∀W,zF w W -> Calls Tryz.prog 94 #[.pointer (some ⟨d,0,none⟩),.agg #[.int .i64 (place m.gen 0:Int),.int .i64 (place m.gen 1:Int)]] W λe w'=>∃v0 v1,e=.returned (.tuple #[.agg #[v0,v1],.nilIface])/\qD W.heap.size D.size w' v0 (D.look (place m.gen 0))/\qD W.heap.size D.size w' v1 (D.look (place m.gen 1))/\zF W w'):=oh (λW k=>zHh (hL.mods k.ext) (h.at k) ho _ _ C5 C6);have Al:Hid (∀{B:Nat} {W:World} {v:Value} {l:List UInt8},w.heap.size<=B->l.length=D.size->qD B D.size W v l->Sl F W 1 zZ v l):=oh (λhB C7 ⟨g,h1,h2,h3⟩=>by rw[h1];exact zCq h3 C7 (λf=>by have:=hL.lt _ f;omega) (by omega));have C8:Hid (∀n k:Nat,(yA D (place m.gen 0)=false->yA D (place m.gen 1)=false->n=0)->(yA D (place s.gen 0)=false->yA D (place s.gen 1)=false->k+n=k)):=oh (λn k h a b=>by rw[Ak] at h;rw[h a b];omega);obtain⟨ZP,C9⟩:∃Z:NP,Z=λn=>(yA D (place m.gen 0)=false->yA D (place m.gen 1)=false->n=0):=⟨_,rfl⟩
 have Dn:=oh C9;have B8:Hid (∀B W,zA F w W->w.heap.size<=B->∀av bv,qD B D.size W av (D.look (place m.gen 0))->qD B D.size W bv (D.look (place m.gen 1)) -> Calls Tryz.prog 98 #[av,bv,.int .u64 (m.gen:Int),.int .i64 (m.blocks:Int)] W λe w'=>∃(ua:Option Addr) (uc:Nat) (ba:Option Addr) (bn bc:Nat),e=.returned (.tuple #[.agg #[.int .u64 (m.gen:Int),.int .i64 (m.blocks:Int),.slice ua (yF m).length uc],.slice ba bn bc,.nilIface])/\yC (λ_=>False) w' W.heap.size 3 1 yI (.slice ua (yF m).length uc) (yF m)/\(yF m).length<=256/\(∃Lb:List Int,Sl (λk=>k<W.heap.size) w' 1 yI (.slice ba bn bc) Lb/\Lb.length=bn/\bn<=1/\ZP bn)/\zF W w'):=oh (λB W k hB av bv ha hb=>by
  have h0:=Al.out hB (by rw[A8];exact Ac) ha;have h1:=Al.out hB (by rw[A8];exact Ad) hb;rw[A8,Ak] at h0 h1;rw[Ak] at Ac Ad;have hc:=zK3 (HL.out W k) hX Ct av bv h0 h1 Ac Ad;rw[C9,Ak,Bm];refine hc.mono ?_;rintro e w' ⟨ua,uc,ba,bn,bc,rfl,ho,Au,hx⟩;refine⟨ua,uc,ba,bn,bc,rfl,ho,?_,Au,hx⟩;have h1:=(vV m).1 hm;have h2:=zDM m.used 0 m.blocks h1.2.2.2.2.1 (λn hn=>⟨tH _,h1.2.2.2.2.2 n hn⟩) (tH _);have h3:=hX.lim;have h4:=hX.blk;unfold yF;rw[wS];omega)
 have Az:=oh (λw'=>zDN m.gen hg w');have Cx:Hid (∀v,zDU m v=.agg #[.int .u64 (m.gen:Int),.int .i64 (m.blocks:Int),v]):=oh (λ_=>rfl);have Af:Hid (zC3 m.gen=.agg #[.int .i64 (place m.gen 0:Int),.int .i64 (place m.gen 1:Int)]):=oh rfl;replace hB:zG w S (stC d cv sv ⟨m.gen,m.blocks,s.size,s.root,s.keys⟩ Ab root keys (.slice ia Li.length ic) dead) 106:=by rw[Ak,Bm];exact hB
 obtain⟨g,Aq⟩:∃g,g=m.gen:=⟨_,rfl⟩;obtain⟨DB,Ar⟩:∃b,b=m.blocks:=⟨_,rfl⟩;obtain⟨DZ,Cy⟩:∃b,b=D.size:=⟨_,rfl⟩;obtain⟨q0,B1⟩:∃q,q=place m.gen 0:=⟨_,rfl⟩;obtain⟨q1,B2⟩:∃q,q=place m.gen 1:=⟨_,rfl⟩;rw[<- B1,<- B2] at At B8 Af;rw[<- Cy] at At B8;rw[<- Aq] at B8 Az Cx Af hB;rw[<- Ar] at B8 Cx hB;have Do:Hid (s.gen=g/\s.blocks=DB):=oh ⟨by rw[Aq,Ak],by rw[Ar,Bm]⟩;have H6:=oh h6;have Av:=oh (And.intro Cv (And.intro Cw (And.intro Cu As)));clear Cv Cw Cu As;have hS:=hB.lt;have s3:=hB.d 3 (.int .u64 (g:Int)) rfl;have HB:=oh hB;clear Aq Ar Cy B1 B2 Ak Bm hL h ho hm hg Dl B4 Dm hX A8 Ct Am C9 _hPS An hB C5 C6 Ac Ad h6 Al
 go_enter Tryz.func49, Tryz.ntmps49
 go_wp2_with fail;refine (Az.out _).mono ?_;rintro e w1 ⟨rfl,m1⟩;rw[Af.out];have B3:=oh m1;have Ca:=oh (HB.out.ext m1);have B4:S<w1.heap.size:=Ca.out.lt;clear m1 s3;go_wp2_with fail;obtain⟨w2,Bn⟩:∃W,W=w1.alloc (.cells #[.int .i64 (q0:Int),.int .i64 (q1:Int)] 181):=⟨_,rfl⟩;have m2:zF w1 w2:=by rw[Bn];exact (zss w1).alloc _
 have Cb:zG w2 w1.heap.size #[.int .i64 (q0:Int),.int .i64 (q1:Int)] 181:=by rw[Bn];exact zG.new w1 _ _
 obtain⟨Y,hY⟩:∃Y,Y=w1.heap.size:=⟨_,rfl⟩;rw[<- hY] at Cb B4;rw[<- Bn,<- hY];have Ag:=oh (B3.out.trans m2);have Cc:=oh (Ca.out.ext m2);have Cd:=oh Cb;clear m2 Cb Bn hY B3 Ca;have At:=oh (λW (k:zF w2 W)=>At.out W (Ag.out.trans k));have A3:=oh (λW (k:zF w2 W)=>(⟨(Cc.out.ext k).cell rfl,(Cd.out.ext k).cell rfl,(Cd.out.ext k).cell rfl⟩:W.cell? ⟨S,0,none⟩=some (.pointer (some ⟨d,0,none⟩))/\W.cell? ⟨Y,0,none⟩=some (.int .i64 (q0:Int))/\W.cell? ⟨Y,1,none⟩=some (.int .i64 (q1:Int))));have zd:=A3.out _ (zss w2).drew;have za:=A3.out _ ((zss w2).alloc (.cells #[.slice none 0 0,.slice none 0 0] 178)).drew;have n1:S≠w2.heap.size:=λe=>by have:=Cc.out.lt;omega
 have n2:Y≠w2.heap.size:=λe=>by have:=Cd.out.lt;omega
 go_region_held3 (λw'=>w'.cell? ⟨S,0,none⟩=some (.pointer (some ⟨d,0,none⟩))/\w'.cell? ⟨Y,0,none⟩=some (.int .i64 (q0:Int))/\w'.cell? ⟨Y,1,none⟩=some (.int .i64 (q1:Int)))
  (first|(with_reducible exact zd)|(with_reducible exact z5)|(with_reducible exact z7)|(with_reducible exact z6)|(with_reducible exact za)|fail)
  (first
   | (go_at_call 94;((with_reducible refine (At.out _ (zss w2).drew).mono ?_);rintro e w6 ⟨v0,v1,rfl,Aw,Ax,m6⟩;obtain⟨a0,rfl,B9,Bo⟩:=Aw;obtain⟨a1,rfl,Ba,Bp⟩:=Ax;simp only[zAT];have x6:=(zss w2).drew.trans m6;have z5:=A3.out _ x6;have z7:=A3.out _ (x6.alloc (.cells #[.slice none 0 0,.slice none 0 0] 178));have hB:zG (w6.alloc (.cells #[.slice none 0 0,.slice none 0 0] 178)) w6.heap.size #[.slice none 0 0,.slice none 0 0] 178:=zG.new w6 _ _;have b0:=hB.d 0 (.slice none 0 0) rfl;have b1:=hB.d 1 (.slice none 0 0) rfl;have bf:=hB.frozen;have z6:=A3.out _ (x6.alloc (.cells #[.slice (some ⟨a0,0,none⟩) DZ DZ,.slice (some ⟨a1,0,none⟩) DZ DZ] 178));have A9:∃X3 w3,X3=w6.heap.size/\w3=w6.alloc (.cells #[.slice (some ⟨a0,0,none⟩) DZ DZ,.slice (some ⟨a1,0,none⟩) DZ DZ] 178)/\zG w3 X3 #[.slice (some ⟨a0,0,none⟩) DZ DZ,.slice (some ⟨a1,0,none⟩) DZ DZ] 178 /\ zF w2 w3/\w2.heap.size<=X3/\qD w2.heap.size DZ w3 (zAT DZ a0) (D.look q0)/\qD w2.heap.size DZ w3 (zAT DZ a1) (D.look q1):=⟨_,_,rfl,rfl,zG.new w6 _ _,x6.alloc _,x6.size,⟨a0,rfl,B9,Bo.alloc _⟩,⟨a1,rfl,Ba,Bp.alloc _⟩⟩))
   | (go_at_call 94;((with_reducible refine (At.out _ ((zss w2).alloc (.cells #[.slice none 0 0,.slice none 0 0] 178)).drew).mono ?_);rintro e w6 ⟨v0,v1,rfl,Aw,Ax,m6⟩;obtain⟨a0,rfl,B9,Bo⟩:=Aw;obtain⟨a1,rfl,Ba,Bp⟩:=Ax;simp only[zAT];have x6:=((zss w2).alloc (.cells #[.slice none 0 0,.slice none 0 0] 178)).drew.trans m6;have z5:=A3.out _ x6;have z7:=z5;have hB:zG w6 w2.heap.size #[.slice none 0 0,.slice none 0 0] 178:=zG.ext (w:=(w2.alloc (.cells #[.slice none 0 0,.slice none 0 0] 178)).drew) (zG.new w2 _ _) m6;have b0:=hB.d 0 (.slice none 0 0) rfl;have b1:=hB.d 1 (.slice none 0 0) rfl;have bf:=hB.frozen;have ms:zA (λj=>j=w2.heap.size) w6 ((w6.setCell ⟨w2.heap.size,0,none⟩ (.slice (some ⟨a0,0,none⟩) DZ DZ)).setCell ⟨w2.heap.size,1,none⟩ (.slice (some ⟨a1,0,none⟩) DZ DZ)):=(zA.setCell (F:=λj=>j=w2.heap.size) (zA.setCell (F:=λj=>j=w2.heap.size) (zss w6) (p:=⟨w2.heap.size,0,none⟩) (.inr rfl) (.slice (some ⟨a0,0,none⟩) DZ DZ)) (p:=⟨w2.heap.size,1,none⟩) (.inr rfl) (.slice (some ⟨a1,0,none⟩) DZ DZ));have x8:zF w2 ((w6.setCell ⟨w2.heap.size,0,none⟩ (.slice (some ⟨a0,0,none⟩) DZ DZ)).setCell ⟨w2.heap.size,1,none⟩ (.slice (some ⟨a1,0,none⟩) DZ DZ)):=x6.trans' ms (λi hi h=>by have h':i=w2.heap.size:=h;omega);have z6:=A3.out _ x8;have A9:∃X3 w3,X3=w2.heap.size/\w3=((w6.setCell ⟨w2.heap.size,0,none⟩ (.slice (some ⟨a0,0,none⟩) DZ DZ)).setCell ⟨w2.heap.size,1,none⟩ (.slice (some ⟨a1,0,none⟩) DZ DZ))/\zG w3 X3 #[.slice (some ⟨a0,0,none⟩) DZ DZ,.slice (some ⟨a1,0,none⟩) DZ DZ] 178 /\ zF w2 w3/\w2.heap.size<=X3/\qD w2.heap.size DZ w3 (zAT DZ a0) (D.look q0)/\qD w2.heap.size DZ w3 (zAT DZ a1) (D.look q1):=⟨_,_,rfl,rfl,(by simpa using ((hB.set 0 (.slice (some ⟨a0,0,none⟩) DZ DZ)).set 1 (.slice (some ⟨a1,0,none⟩) DZ DZ))),x8,uD _,⟨a0,rfl,by have h:(w2.alloc _).heap.size<a0:=B9;simp at h;omega,Bo.mods ms (by have h:(w2.alloc _).heap.size<a0:=B9;simp at h;omega)⟩,⟨a1,rfl,by have h:(w2.alloc _).heap.size<a1:=Ba;simp at h;omega,Bp.mods ms (by have h:(w2.alloc _).heap.size<a1:=Ba;simp at h;omega)⟩⟩))
   | fail)
 all_goals
  obtain⟨X3,w3,Cz,D0,hC,Ce,Cf,Aw,Ax⟩:=A9;rw[<- D0,<- Cz];have Ay:=oh (Cc.out.ext Ce);have Ah:=oh (Ag.out.trans Ce);have D1:=oh Aw;have D2:=oh Ax;have HC:=oh hC;have Dp:=oh Ag.out.size;clear D0 Cz hC Ce Aw Ax zd za z5 z7 z6 x6 m6 hB b0 b1 bf n1 n2 B9 Bo Ba Bp;try clear ms x8
  obtain⟨w4,D3⟩:∃w4,w4=w3:=⟨_,rfl⟩;rw[<- D3] at Ay Ah D1 D2 HC ⊢;clear D3;have Ae:=oh (λW (k:zF w4 W)=>B8.out _ W (Ah.out.trans k).ext Dp.out _ _ (qD.mods D1.out k (λ_ _ _ f=>f)) (qD.mods D2.out k (λ_ _ _ f=>f)));simp only[zAT] at Ae;have A1:=oh (λW (k:zF w4 W)=>(⟨(HC.out.ext k).cell rfl,(HC.out.ext k).cell rfl,(Ay.out.ext k).cell rfl,(Ay.out.ext k).cell rfl⟩:W.cell? ⟨X3,0,none⟩=some (.slice (some ⟨a0,0,none⟩) DZ DZ)/\W.cell? ⟨X3,1,none⟩=some (.slice (some ⟨a1,0,none⟩) DZ DZ)/\W.cell? ⟨S,3,none⟩=some (.int .u64 (g:Int))/\W.cell? ⟨S,4,none⟩=some (.int .i64 (DB:Int))));have zd:=A1.out _ (zss w4).drew;have za:=A1.out _ ((zss w4).alloc (.cells #[.int .u64 0,.int .i64 0,.slice none 0 0] 133)).drew;have n1:S≠w4.heap.size:=λe=>by have:=Ay.out.lt;omega
  have n2:X3≠w4.heap.size:=λe=>by have:=HC.out.lt;omega
  go_wp2_with fail;go_region_held3 (λw'=>w'.cell? ⟨X3,0,none⟩=some (.slice (some ⟨a0,0,none⟩) DZ DZ)/\w'.cell? ⟨X3,1,none⟩=some (.slice (some ⟨a1,0,none⟩) DZ DZ)/\w'.cell? ⟨S,3,none⟩=some (.int .u64 (g:Int))/\w'.cell? ⟨S,4,none⟩=some (.int .i64 (DB:Int)))
   (first|(with_reducible exact zd)|(with_reducible exact z5)|(with_reducible exact z7)|(with_reducible exact z6)|(with_reducible exact za)|fail)
   (first
    | (go_at_call 98;((with_reducible refine (Ae.out _ (zss w4).drew).mono ?_);rintro e w6 ⟨ua,uc,ba,bn,bc,rfl,ho,A2,Au,m6⟩;obtain⟨U,hU⟩:∃U,U=(yF m).length:=⟨_,rfl⟩;rw[<- hU] at ho A2 ⊢;have Bq:=oh hU;clear hU;have x6:=(zss w4).drew.trans m6;have z5:=A1.out _ x6;have z7:=A1.out _ (x6.alloc (.cells #[.int .u64 0,.int .i64 0,.slice none 0 0] 133));have hB:zG (w6.alloc (.cells #[.int .u64 0,.int .i64 0,.slice none 0 0] 133)) w6.heap.size #[.int .u64 0,.int .i64 0,.slice none 0 0] 133:=zG.new w6 _ _;have b0:=hB.d 0 (.int .u64 0) rfl;have b1:=hB.d 1 (.int .i64 0) rfl;have b2:=hB.d 2 (.slice none 0 0) rfl;have bf:=hB.frozen;have z6:=A1.out _ (x6.alloc (.cells #[.int .u64 (g:Int),.int .i64 (DB:Int),.slice ua U uc] 133));have A9:∃X3 w3,X3=w6.heap.size/\w3=w6.alloc (.cells #[.int .u64 (g:Int),.int .i64 (DB:Int),.slice ua U uc] 133)/\zG w3 X3 #[.int .u64 (g:Int),.int .i64 (DB:Int),.slice ua U uc] 133 /\ zF w4 w3/\w4.heap.size<=X3/\U=(yF m).length/\U<=256/\yC (λ_=>False) w3 w4.heap.size 3 1 yI (.slice ua U uc) (yF m)/\(Value.slice ua U uc).ownBlock≠some X3/\(∃Lb:List Int,Sl (λ_=>False) w3 1 yI (.slice ba bn bc) Lb/\Lb.length=bn/\bn<=1/\ZP bn):=⟨_,_,rfl,rfl,zG.new w6 _ _,x6.alloc _,x6.size,Bq.out,A2,(ho.alloc' _),(λe=>by have:=(ho.lt _ e).2;omega),zOR Au ((zss w6).alloc _)⟩))
    | (go_at_call 98;((with_reducible refine (Ae.out _ ((zss w4).alloc (.cells #[.int .u64 0,.int .i64 0,.slice none 0 0] 133)).drew).mono ?_);rintro e w6 ⟨ua,uc,ba,bn,bc,rfl,ho,A2,Au,m6⟩;obtain⟨U,hU⟩:∃U,U=(yF m).length:=⟨_,rfl⟩;rw[<- hU] at ho A2 ⊢;have Bq:=oh hU;clear hU;have x6:=((zss w4).alloc (.cells #[.int .u64 0,.int .i64 0,.slice none 0 0] 133)).drew.trans m6;have z5:=A1.out _ x6;have z7:=z5;have hB:zG w6 w4.heap.size #[.int .u64 0,.int .i64 0,.slice none 0 0] 133:=zG.ext (w:=(w4.alloc (.cells #[.int .u64 0,.int .i64 0,.slice none 0 0] 133)).drew) (zG.new w4 _ _) m6;have b0:=hB.d 0 (.int .u64 0) rfl;have b1:=hB.d 1 (.int .i64 0) rfl;have b2:=hB.d 2 (.slice none 0 0) rfl;have bf:=hB.frozen;have ms:zA (λj=>j=w4.heap.size) w6 (((w6.setCell ⟨w4.heap.size,0,none⟩ (.int .u64 (g:Int))).setCell ⟨w4.heap.size,1,none⟩ (.int .i64 (DB:Int))).setCell ⟨w4.heap.size,2,none⟩ (.slice ua U uc)):=(zA.setCell (F:=λj=>j=w4.heap.size) (zA.setCell (F:=λj=>j=w4.heap.size) (zA.setCell (F:=λj=>j=w4.heap.size) (zss w6) (p:=⟨w4.heap.size,0,none⟩) (.inr rfl) (.int .u64 (g:Int))) (p:=⟨w4.heap.size,1,none⟩) (.inr rfl) (.int .i64 (DB:Int))) (p:=⟨w4.heap.size,2,none⟩) (.inr rfl) (.slice ua U uc));have x8:zF w4 (((w6.setCell ⟨w4.heap.size,0,none⟩ (.int .u64 (g:Int))).setCell ⟨w4.heap.size,1,none⟩ (.int .i64 (DB:Int))).setCell ⟨w4.heap.size,2,none⟩ (.slice ua U uc)):=x6.trans' ms (λi hi h=>by have h':i=w4.heap.size:=h;omega);have z6:=A1.out _ x8;have A9:∃X3 w3,X3=w4.heap.size/\w3=(((w6.setCell ⟨w4.heap.size,0,none⟩ (.int .u64 (g:Int))).setCell ⟨w4.heap.size,1,none⟩ (.int .i64 (DB:Int))).setCell ⟨w4.heap.size,2,none⟩ (.slice ua U uc))/\zG w3 X3 #[.int .u64 (g:Int),.int .i64 (DB:Int),.slice ua U uc] 133 /\ zF w4 w3/\w4.heap.size<=X3/\U=(yF m).length/\U<=256/\yC (λ_=>False) w3 w4.heap.size 3 1 yI (.slice ua U uc) (yF m)/\(Value.slice ua U uc).ownBlock≠some X3/\(∃Lb:List Int,Sl (λ_=>False) w3 1 yI (.slice ba bn bc) Lb/\Lb.length=bn/\bn<=1/\ZP bn):=⟨_,_,rfl,rfl,(by simpa using (((hB.set 0 (.int .u64 (g:Int))).set 1 (.int .i64 (DB:Int))).set 2 (.slice ua U uc))),x8,uD _,Bq.out,A2,(ho.mods ms (λj hj h=>by have h0:=(ho.lt j hj).1;simp at h0;have h':j=w4.heap.size:=h;omega)).rebase (by simp),(λe=>by have h0:=(ho.lt _ e).1;simp at h0;omega),zOR Au (ms.mono (λj h=>by have h':j=w4.heap.size:=h;show j<_;rw[h'];simp))⟩))
    | fail)
 all_goals
  obtain⟨X5,w5,D4,D5,hC,Cg,Cf,hU,A2,ho,Dq,Ch⟩:=A9;obtain⟨Lb,D6,Dr,D7,D8⟩:=Ch;subst Dr;have Br:=oh (And.intro D6 (And.intro D7 D8));have D9:Hid (w.heap.size<=w4.heap.size/\w4.heap.size<=X5):=oh ⟨Ah.out.size,Cf⟩;rw[<- D5,<- D4];have Ci:=oh (Ay.out.ext Cg);have Aj:=oh (Ah.out.trans Cg);have Bs:=oh ho;have Ds:=oh hC;have HU:=oh hU;have Cj:=oh A2;have Dt:S<w4.heap.size:=Ay.out.lt;have Du:=oh Dt;have Dv:Hid (S<X5):=oh (by omega);have s11:=Ci.out.d 11 (.slice ia Li.length ic) rfl;have sf:=Ci.out.frozen;have x2:=hC.k 2 rfl;have Dw:6<=U:=by have:=H6.out;omega
  have Dx:=(ho.blocks (G:=λ_=>False) (λ_ _ f=>f)).sl (λ_=>rfl) (by omega);obtain⟨_,_,he,Bb,Bc, -,Da⟩:=Dx;injection he with Dy Dz E0;subst Dy;subst E0;obtain⟨ub,uoff,rfl, -⟩:∃ub uoff,ua=some ⟨ub,uoff,none⟩/\True:=by
   rcases Da with h|⟨b,off,h,_⟩
   .exfalso;rw[h] at hU;simp at hU;omega
   .exact⟨b,off,h,trivial⟩
  unfold maxLen at Bc;rw[<- hU] at Bb;clear Bq;clear D6 D7 D8 Au;clear D5 D4 hC Cg ho Dq A2 zd za z5 z7 z6 x6 m6 hB b0 b1 b2 bf n1 n2 Da Ae A1 hU Dz Cf;try clear ms x8
  have i6:(6:Int)<=(U:Int):=by omega
  have iU:(U:Int)<=(uc:Int):=by omega
  go_wp2_with (first
   | (at_builtin;refine yX Tryz.elI5 vH rfl _ _ rfl B0 (.slice ia Li.length ic) (.slice ba Lb.length bc) Li Lb rfl rfl (Av.out.1.ext Aj.out) Br.out.1 (by have:=Av.out.2.2.1;have:=Br.out.2.1;omega) (uP Av.out.2.2.2 Aj.out.size) (λf=>f) ?_;intro a' c' w6 Bd A6 Ck;have Db:Hid (zA (λk=>(Value.slice ia Li.length ic).ownBlock=some k) w5 w6):=oh A6;have Bt:=Ci.out.mods A6 (λe=>Av.out.2.1 e);have E1:=oh Bt;have s11:=Bt.d 11 (.slice ia Li.length ic) rfl;have sf:=Bt.frozen;have x2:=(Ds.out.mods A6 (λe=>by have h1:=(Av.out.1.lt _ e).2;have h2:=D9.out;omega)).k 2 rfl;have E2:X5≠S:=(λe=>by have:=Dv.out;omega);clear Bd A6 Ck Bt)
   | fail)
 all_goals
  have Cl:zA (λj=>j=S) w6 (w6.setCell ⟨S,11,none⟩ (.slice a' (Li.length+Lb.length) c')):=zA.setCell (F:=λj=>j=S) (zss w6) (p:=⟨S,11,none⟩) (.inr rfl) _;have Dc:=((Bs.out.mods Db.out (λj hj e=>by have h0:=(Bs.out.lt j hj).1;have h1:=(Av.out.1.lt j e).2;have h2:=D9.out;omega)).mods Cl (λj hj h=>by have h0:=(Bs.out.lt j hj).1;have h':j=S:=h;have:=Du.out;omega));have hF:=(Dc.blocks (G:=F) (λj hj f=>by have h0:=(Bs.out.lt j hj).1;have:=(HL.out _ zr).lt j f;have:=Ah.out.size;omega)).sl (λ_=>rfl) (by have:=Cj.out;rw[<- HU.out];omega);have Dd:zG (w6.setCell ⟨S,11,none⟩ (.slice a' (Li.length+Lb.length) c')) S (stC d cv sv s Ab root keys (.slice a' (Li.length+Lb.length) c') dead) 106:=by
   have:=E1.out.set 11 (.slice a' (Li.length+Lb.length) c');obtain⟨g1,g2⟩:=Do.out;obtain⟨sg,sb,sz,sr,sk⟩:=s;simp only at g1 g2;subst g1;subst g2;simpa[stC] using this
  have De:zA (λj=>j=S\/(Value.slice ia Li.length ic).ownBlock=some j) w (w6.setCell ⟨S,11,none⟩ (.slice a' (Li.length+Lb.length) c')):=(Aj.out.ext.trans (Db.out.mono (λj h=>.inr h))).trans (Cl.mono (λj h=>.inl h));have HF:=oh hF;have E3:=oh Dd;have E4:=oh De;clear Cl Dc hF Dd De;go_ret2
  have E5:Li.length+Lb.length<=Li.length+1:=by have:=Br.out.2.1;omega
  have E6:=C8.out Lb.length Li.length (by have:=Br.out.2.2;rw[Dn.out] at this;exact this);refine⟨_,rfl,?_,a',c',Li.length+Lb.length,E3.out,E5,E6,E4.out⟩;first
   | exact zSV HF.out Dw HU.out
   | exact zRg HU.out (by omega)
end
end
end Go.Proofs.YtalpfcaakpgkmaaGreatDoor
