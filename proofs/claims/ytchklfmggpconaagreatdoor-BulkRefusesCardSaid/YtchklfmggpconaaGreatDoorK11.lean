import Derived.Test.YtchklfmggpconaaGreatDoorK10
namespace Go.Proofs.YtchklfmggpconaaGreatDoor
open Lib renaming hid→oh
open Go.RowKit
set_option maxRecDepth 100000 in
set_option maxHeartbeats 1600000 in
theorem OpenAt_any{F:Nat→Prop}{ad:Nat→Addr}{w:World}(hL:Env F ad w)(bv:Value)(l:List UInt8)(hb:Sl F w 1 encB bv l)(h1:256≤l.length)(h2:l.length≤1024)(id:Int) :
    Calls Tryz.prog 184 #[bv,.int .i64 id] w λe w'=>Ext w w' ∧
      ((∃ p pv, openAtP l id = .inl p ∧ e = .returned (.tuple #[pageV p pv, .nilIface]) ∧ Sl F w' 1 encB pv p.body) ∨
       (∃pg k f,openAtP l id=.inr (pg,k)∧e=.returned (.tuple #[pageV ⟨0,0,0,[]⟩ (.slice none 0 0),faultV f])∧ErrC F ad w' (faultV f) pg k)):=by
  have HB:Hid (∀w',Ext (w.alloc (.cells #[.int .i64 0,.int .i64 0,.int .u64 0,.slice none 0 0] 167)) w'→Sl (plusR F w.heap.size) w' 1 encB bv l):=oh (λw' m=>hb.withR (((Mods.refl _ w).alloc _).trans m))
  have HL:Hid (∀w',Ext (w.alloc (.cells #[.int .i64 0,.int .i64 0,.int .u64 0,.slice none 0 0] 167)) w'→Env (plusR F w.heap.size) ad w'):=oh (λw' m=>hL.withR (((Mods.refl _ w).alloc _).trans m) (Nat.lt_of_lt_of_le (by simp) m.size))
  obtain⟨a,cap,rfl,i1,i2,i3,i4⟩:=hb
  unfold maxLen at i2
  clear i4
  have z5 : 4 < w.heap.size:=Nat.lt_of_lt_of_le (by decide) hL.size
  have G5:Hid (∀w',Ext w w'→w'.cell? ⟨4,0,none⟩=some (.iface 315 (.pointer (some (ad 5))))):=oh (λw' m=>(hL.mods m.ext).c5)
  clear hL
  have m0:Ext w (w.alloc (.cells #[.int .i64 0,.int .i64 0,.int .u64 0,.slice none 0 0] 167)):=(Mods.refl _ w).alloc _
  have RB:Hid (∀w',Ext (w.alloc (.cells #[.int .i64 0,.int .i64 0,.int .u64 0,.slice none 0 0] 167)) w'→Blk w' w.heap.size #[.int .i64 0,.int .i64 0,.int .u64 0,.slice none 0 0] 167):=oh (λw' m=>(Blk.new w _ _).ext m)
  have M0:Hid (Ext w (w.alloc (.cells #[.int .i64 0,.int .i64 0,.int .u64 0,.slice none 0 0] 167))):=oh m0
  clear m0
  go_enter Tryz.func184, Tryz.ntmps184
  go_wp2_with fail
  refine (Open_any (HL.out _ (Mods.refl _ _)) _ l (HB.out _ (Mods.refl _ _)) h1 h2).mono ?_
  rintro e w1 ⟨hm,hres⟩
  have hlt1:w.heap.size<w1.heap.size:=Nat.lt_of_lt_of_le (by simp) hm.size
  have z6 : 4 < w1.heap.size:=Nat.lt_trans z5 hlt1
  rcases hres with ⟨ho,pv,rfl,hS⟩|⟨ho,f,rfl,hE⟩
  · obtain⟨p,hp⟩:∃p,p=readP l:=⟨_,rfl⟩
    have HPE:=oh hp
    rw[← hp] at hS ⊢
    obtain⟨K,hK⟩:∃n,n=p.kind:=⟨_,rfl⟩
    obtain⟨I,hI⟩:∃n,n=p.id:=⟨_,rfl⟩
    obtain⟨G,hG⟩:∃n,n=p.gen:=⟨_,rfl⟩
    have HP:Hid (∀bv,pageV p bv=.agg #[.int .i64 K,.int .i64 I,.int .u64 (G:Int),bv]):=oh (λ_=>by rw[hK,hI,hG];rfl)
    have HI:=oh hI
    have HOP:=oh ho
    clear hK hI hG hp ho
    have M1:=oh hm
    have HS:Hid (∀w',Ext w1 w'→Sl (plusR F w.heap.size) w' 1 encB pv p.body):=oh (λw' m=>hS.ext m)
    obtain⟨a2,cc2,rfl,_⟩:=hS
    clear hm
    rw[HP.out]
    have rb:=RB.out w1 M1.out
    have r0:=rb.cell (o:=0) rfl
    have r1:=rb.cell (o:=1) rfl
    have r2:=rb.cell (o:=2) rfl
    have r3:=rb.cell (o:=3) rfl
    have rf:=rb.frozen
    have g5:=G5.out w1 (M0.out.trans M1.out)
    by_cases hid:I=id
    · have HA:Hid (openAtP l id=.inl p):=oh (by unfold openAtP;rw[if_neg (by rw[HOP.out];decide),← HPE.out,if_neg (by rw[← HI.out];simpa using hid)])
      subst hid
      have HB5:=oh ((Blk.set4 rb (.int .i64 K) (.int .i64 I) (.int .u64 (G:Int)) (.slice a2 p.body.length cc2)).alloc (.cells #[.int .i64 K,.int .i64 I,.int .u64 (G:Int),.slice a2 p.body.length cc2] 167))
      have HM5:=oh ((Mods.set4 (M0.out.trans M1.out) (.inl (Nat.le_refl w.heap.size)) (.int .i64 K) (.int .i64 I) (.int .u64 (G:Int)) (.slice a2 p.body.length cc2)).alloc (.cells #[.int .i64 K,.int .i64 I,.int .u64 (G:Int),.slice a2 p.body.length cc2] 167))
      have HS5:=oh ((HS.out w1 (Mods.refl _ w1)).unR ((Mods.set4 (Mods.refl _ w1) (R:=w.heap.size) (.inr (.inr rfl)) (.int .i64 K) (.int .i64 I) (.int .u64 (G:Int)) (.slice a2 p.body.length cc2)).alloc (.cells #[.int .i64 K,.int .i64 I,.int .u64 (G:Int),.slice a2 p.body.length cc2] 167)))
      clear rb
      go_wp2_with fail
      refine bodyPost_ret (results_row_tmp rfl _ _ w.heap.size 167 #[.int .i64 K,.int .i64 I,.int .u64 (G:Int),.slice a2 p.body.length cc2] _ rfl HB5.out Tryz.underlying167 rfl Tryz.pageSize) rfl ?_
      exact⟨HM5.out,.inl ⟨p,.slice a2 p.body.length cc2,HA.out,by rw[HP.out];rfl,HS5.out⟩⟩
    · have HA:Hid (openAtP l id=.inr ([pgOf id],5)):=oh (by unfold openAtP;rw[if_neg (by rw[HOP.out];decide),← HPE.out,if_pos (by rw[← HI.out];exact hid)];rfl)
      clear rb r0 r1 r2 r3 rf
      go_wp2_with fail
      have M2:=oh (M1.out.alloc (.cells #[.int .i64 K,.int .i64 I,.int .u64 (G:Int),.slice a2 p.body.length cc2] 167))
      refine (at_any (HL.out _ M2.out) _ _ _ _ 5 (.sent 5 (by decide) (by decide))).mono ?_
      rintro e w3 ⟨f3,rfl,hE3,hm3⟩
      have M3:=oh (M2.out.trans hm3)
      clear hm3
      have rb:=RB.out w3 M3.out
      have r0:=rb.cell (o:=0) rfl
      have r1:=rb.cell (o:=1) rfl
      have r2:=rb.cell (o:=2) rfl
      have r3:=rb.cell (o:=3) rfl
      have rf:=rb.frozen
      have HB5:=oh (Blk.set4 rb (.int .i64 0) (.int .i64 0) (.int .u64 0) (.slice none 0 0))
      have HM5:=oh (Mods.set4 (M0.out.trans M3.out) (.inl (Nat.le_refl w.heap.size)) (.int .i64 0) (.int .i64 0) (.int .u64 0) (.slice none 0 0))
      have HE5:=oh (hE3.unR (Mods.set4 (Mods.refl _ w3) (R:=w.heap.size) (.inr (.inr rfl)) (.int .i64 0) (.int .i64 0) (.int .u64 0) (.slice none 0 0)))
      clear rb
      go_wp2_with fail
      refine bodyPost_ret (results_row_tmp rfl _ _ w.heap.size 167 #[.int .i64 0,.int .i64 0,.int .u64 0,.slice none 0 0] _ rfl HB5.out Tryz.underlying167 rfl Tryz.pageSize) rfl ?_
      exact⟨HM5.out,.inr ⟨_,_,f3,HA.out,rfl,HE5.out⟩⟩
  · have HA:Hid (openAtP l id=.inr ([-1,openId l],5)):=oh (by unfold openAtP;rw[if_pos ho])
    have HE:=oh hE
    have M1:=oh hm
    clear ho hE hm
    rw[show pageV ⟨0,0,0,[]⟩ (.slice none 0 0)=.agg #[.int .i64 0,.int .i64 0,.int .u64 0,.slice none 0 0] from rfl]
    · go_wp2_with fail
      have M2:=oh (M1.out.alloc (.cells #[.int .i64 0,.int .i64 0,.int .u64 0,.slice none 0 0] 167))
      refine (wrap_any (HL.out _ M2.out) _ _ _ _ (HE.out.mods ((Mods.refl _ w1).alloc _))).mono ?_
      rintro e w3 ⟨f3,rfl,hE3,hm3⟩
      have M3:=oh (M2.out.trans hm3)
      clear hm3
      have rb:=RB.out w3 M3.out
      have r0:=rb.cell (o:=0) rfl
      have r1:=rb.cell (o:=1) rfl
      have r2:=rb.cell (o:=2) rfl
      have r3:=rb.cell (o:=3) rfl
      have rf:=rb.frozen
      have HB5:=oh (Blk.set4 rb (.int .i64 0) (.int .i64 0) (.int .u64 0) (.slice none 0 0))
      have HM5:=oh (Mods.set4 (M0.out.trans M3.out) (.inl (Nat.le_refl w.heap.size)) (.int .i64 0) (.int .i64 0) (.int .u64 0) (.slice none 0 0))
      have HE5:=oh (hE3.unR (Mods.set4 (Mods.refl _ w3) (R:=w.heap.size) (.inr (.inr rfl)) (.int .i64 0) (.int .i64 0) (.int .u64 0) (.slice none 0 0)))
      clear rb
      go_wp2_with fail
      refine bodyPost_ret (results_row_tmp rfl _ _ w.heap.size 167 #[.int .i64 0,.int .i64 0,.int .u64 0,.slice none 0 0] _ rfl HB5.out Tryz.underlying167 rfl Tryz.pageSize) rfl ?_
      exact⟨HM5.out,.inr ⟨_,_,f3,HA.out,rfl,HE5.out⟩⟩
end Go.Proofs.YtchklfmggpconaaGreatDoor
