import Derived.Test.YtdnbmdghmmpgcaaGreatDoorK14
import Derived.Test.YtdnbmdghmmpgcaaGreatDoorK21
namespace Go.Proofs.YtdnbmdghmmpgcaaGreatDoor
open Lib renaming hid→oh
set_option maxHeartbeats 8000000
set_option maxRecDepth 100000
open Go.RowKit
attribute [local go_sem ↓] Go.wp_at_zero Go.wp_at_succ
section
variable {P P' F F':Nat→Prop}{ad:Nat→Addr}{w w':World}{d:Nat}{D:DiskA}
theorem DkS.off(h:DkS w P d D) : Calls Tryz.prog 132 #[.pointer (some ⟨d,0,none⟩)] w λe w'=>e=.returned (.bool D.off)∧w=w':=by
 obtain⟨bl,gs,ws,wv,kv,h1,h2⟩:=h;have c:=h1.offC;clear h1 h2
 go_enter Tryz.func132, Tryz.ntmps132
 go_wp2_with fail;go_ret;exact⟨rfl,rfl⟩
theorem storeCheck_ok(h:DkS w P d D)(ho:D.off=false)(op:ByteArray)(q:Nat)(h3:3≤q)(h64:q≤64) :
  Calls Tryz.prog 83 #[.string op,.pointer (some ⟨d,0,none⟩),.int .i64 (q:Int)] w λe w'=>e=.returned .nilIface∧w=w':=by
 have HO:=oh h.off;rw[ho] at HO;have e1:decide ((q:Int)<3)=false:=by simp;omega
 have e2:decide (64<(q:Int))=false:=by simp;omega
 clear h ho
 go_enter Tryz.func83, Tryz.ntmps83
 go_wp2_with fail;refine HO.out.mono ?_;rintro e w1 ⟨rfl,rfl⟩;go_wp2_with fail;go_ret;exact⟨rfl,rfl⟩
theorem DkS.flush(hL:Env F ad w)(hP:∀k,P k→F k)(h:DkS w P d D)(ho:D.off=false)(hl:D.lit=false) :
  Calls Tryz.prog 48 #[.pointer (some ⟨d,0,none⟩)] w λe w'=>∃P' F',e=.returned .nilIface∧DkS w' P' d D.flushed∧Nxt P P' F F' ad w w':=by
 obtain⟨bl,gs,ws,wv,kv,h1,h2⟩:=h;exact dkFlush_ok hL hP h1 h2 ho hl
def DkStep(F P:Nat→Prop)(ad:Nat→Addr)(d:Nat)(w:World)(D':DiskA)(e:Ending)(w':World):Prop :=
 ∃P' F',e=.returned .nilIface∧DkS w' P' d D'∧Nxt P P' F F' ad w w'
theorem writeSuper_ok(hL:Env F ad w)(hP:∀k,P k→F k)(h:DkS w P d D)(hw:WetD D)(hfew:D.waiting.length<1000000)(s:SupA)(hs:supOk s=true)(hg:s.gen<18446744073709551616)(hz:s.size=D.size)(i:Nat)(hi:i<2)(hb:8≤D.blocks) :
  Calls Tryz.prog 92 #[.pointer (some ⟨d,0,none⟩),superV s,.int .i64 (i:Int)] w (DkStep F P ad d w ((D.wrote i (supBlk s i)).flushed)):=by
 have m0:Ext w (w.alloc (.cells #[.int .u64 (s.gen:Int),.int .i64 (s.blocks:Int),.int .i64 (s.size:Int),.int .i64 (s.root:Int),.int .i64 (s.keys:Int)] 150)):=(Mods.refl _ w).alloc _;have HM0:=oh m0;have HL:=oh (λW (m:Ext w W)=>hL.mods m.ext);have HDK:=oh (λW (m:Ext w W)=>h.at m);have HN:=oh (λW (m:Ext w W)=>Nxt.ext hL hP m);have HP:=oh hP;have HSL:=oh (supSeal_ok (hL.mods m0.ext) s hs hg i hi);have HSV:Hid (superV s=.agg #[.int .u64 (s.gen:Int),.int .i64 (s.blocks:Int),.int .i64 (s.size:Int),.int .i64 (s.root:Int),.int .i64 (s.keys:Int)]):=oh rfl;have hlen:(supBlk s i).length=D.size:=by rw[supBlk_length hs i,hz]
 have HLEN:=oh hlen;have HW:=oh hw;have HFEW:=oh hfew;have HI:=oh (show i<D.blocks by omega);have HLIM:=oh h.lim;rw[HSV.out] at HSL ⊢;clear h hw hL hP hs hg hz hi m0 hlen hfew hb
 go_enter Tryz.func92, Tryz.ntmps92
 go_wp2_with fail;refine HSL.out.mono ?_;rintro e w1 ⟨a1,c1,rfl,hO1,m1⟩;have HM1:=oh (HM0.out.trans m1);have HS1:=oh (hO1.sl (λ_=>rfl) (by rw[HLEN.out];have:=HLIM.out;omega));clear hO1 m1;go_wp2_with fail;refine (DkS.write (HL.out _ HM1.out) HP.out (HDK.out _ HM1.out) i HI.out HW.out.off HW.out.lit _ _ HS1.out HLEN.out HFEW.out).mono ?_;rintro e w2 ⟨P2,F2,rfl,h2,n2⟩;have H2:=oh h2;have N2:=oh ((HN.out _ HM1.out).trans n2);clear h2 n2;go_wp2_with fail;refine (DkS.flush N2.out.env N2.out.sub H2.out HW.out.off HW.out.lit).mono ?_;rintro e w3 ⟨P3,F3,rfl,h3,n3⟩;have H3:=oh h3;have N3:=oh (N2.out.trans n3);clear h3 n3;go_wp2_with fail;go_ret;exact⟨P3,F3,rfl,H3.out,N3.out⟩
end
theorem mapOpen_ok{F:Nat→Prop}{ad:Nat→Addr}{w:World}(hL:Env F ad w)(m:MapA)(hm:mapOk m=true)(hg:m.gen<18446744073709551616)(i z:Nat)(hi:isPlace m.gen i=true)(h1:256≤z)(h2:z≤1024)(bv:Value)(hb:Sl F w 1 encB bv (mapBlk m i z)) :
    Calls Tryz.prog 192 #[bv,.int .i64 (i:Int),.int .u64 (m.gen:Int),.int .i64 (m.blocks:Int)] w λe w'=>∃uv,e=.returned (.tuple #[mapV m uv,.nilIface])∧Own (λ_=>False) w' w.heap.size 3 1 encI uv (usedI m)∧(usedI m).length≤256∧Ext w w':=by
  obtain⟨o1,o2,o3,o4,o5,o6⟩:=(mapOk_iff m).1 hm
  have hi6:i<6:=by
    unfold isPlace at hi
    simp only[Bool.or_eq_true,decide_eq_true_eq] at hi
    unfold place at hi
    omega
  have hlen:(mapBlk m i z).length=z:=mapBlk_length hm i h1
  have hpc:=mapPg_right hm hi6 h1 h2
  have hop:openAtP (mapBlk m i z) (i:Int)=.inl (mapPg m i):=seal_openAt (p:=mapPg m i) (size:=z) hpc hg
  have HB:Hid (∀w',Ext w w'→Sl F w' 1 encB bv (mapBlk m i z)):=oh (λw' k=>hb.ext k)
  have HL:Hid (∀w',Ext w w'→Env F ad w'):=oh (λw' k=>hL.mods k.ext)
  have z5 : 5 < w.heap.size:=Nat.lt_of_lt_of_le (by decide) hL.size
  have G5:Hid (∀w',Ext w w'→w'.cell? ⟨5,0,none⟩=some (.iface 455 (.pointer (some (ad 5))))):=oh (λw' m=>(hL.mods m.ext).c5)
  have HOP:Hid (∀w',Ext w w' → Calls Tryz.prog 190 #[bv,.int .i64 (i:Int)] w' λe w''=>∃pv,e=.returned (.tuple #[pageV (mapPg m i) pv,.nilIface])∧Sl F w'' 1 encB pv (mapBody m)∧Ext w' w''):=oh (λw' k=>by
    refine (OpenAt_any (HL.out w' k) bv _ (HB.out w' k) (by rw[hlen];exact h1) (by rw[hlen];exact h2) (i:Int)).mono ?_
    rintro e w'' ⟨hk,⟨p,pv,h3,h4,h5⟩|⟨pg,kk,f,h3,_⟩⟩
    · rw[hop] at h3
      cases h3
      exact⟨pv,h4,h5,hk⟩
    · rw[hop] at h3
      cases h3)
  have hml:=mapBody_length m
  have hn0:numAt (mapBody m) 0 4=m.blocks:=by
    have:mapBody m=[]++(leB 4 m.blocks++(leB 4 m.used.length++bitsM m.blocks m.used)):=by simp[mapBody]
    rw [this, numAt_mid [] _ 4 m.blocks 0 rfl (by have : (256 : Nat) ^ 4 = 4294967296 := by decide
                                                  omega)]
  have HSD:Hid (∀w',Ext w w'→∀pv,Sl F w' 1 encB pv (mapBody m) → Calls Tryz.prog 248 #[pageV (mapPg m i) pv] w' λe w''=>∃uv,e=.returned (mapV m uv)∧Own (λ_=>False) w'' w'.heap.size 3 1 encI uv (usedI m)∧(usedI m).length≤256∧Ext w' w''):=oh (λw' k pv hs=>by
    have:=mapSaid_any (HL.out w' k) (mapPg m i) pv hs (by show 4≤(mapBody m).length;omega) (by show numAt (mapBody m) 0 4≤256;omega) (by show (mapBody m).length≤100000;omega) hg
    rw[said_map hm i] at this
    exact this)
  have HSL:Hid (∀w',Ext w w'→∀uv,Sl F w' 1 encI uv (usedI m) → Calls Tryz.prog 143 #[mapV m uv,.int .i64 (i:Int),.int .i64 (z:Int)] w' λe w''=>∃a c,e=.returned (.tuple #[.slice a z c,.nilIface])∧Sl F w'' 1 encB (.slice a z c) (mapBlk m i z)∧Ext w' w''):=oh (λw' k uv hs=>(mapSeal_ok (HL.out w' k) m hm hg uv hs i z hi h1 h2).mono (λe w'' ⟨a,c,g1,g2,g3⟩=>⟨a,c,g1,g2.sl (λ_=>rfl) (by rw[hlen];omega),g3⟩))
  have HON:Hid (∀w',Calls Tryz.prog 207 #[.int .u64 (m.gen:Int),.int .i64 (i:Int)] w' λe w''=>e=.returned (.bool true)∧Ext w' w''):=oh (λw'=>(one_any m.gen hg i (by omega) w').mono (λe w'' h=>⟨by rw[h.1,hi],h.2⟩))
  have HEQ:Hid (∀w',Ext w w'→∀v,Sl F w' 1 encB v (mapBlk m i z) → Calls Tryz.prog 249 #[v,bv] w' λe w''=>e=.returned (.bool true)∧Ext w' w''):=oh (λw' k v hs=>(EqualB_any v bv _ _ hs (HB.out w' k)).mono (λe w'' h=>⟨by rw[h.1];simp,h.2⟩))
  have HPG:Hid (∀v,pageV (mapPg m i) v=.agg #[.int .i64 5,.int .i64 (i:Int),.int .u64 (m.gen:Int),v]):=oh (λ_=>rfl)
  have HMV:Hid (∀v,mapV m v=.agg #[.int .u64 (m.gen:Int),.int .i64 (m.blocks:Int),v]):=oh (λ_=>rfl)
  have HML:=oh hml
  obtain⟨ba,bc,rfl, -⟩:=hb
  obtain⟨bl,hbl⟩:∃n,n=(mapBlk m i z).length:=⟨_,rfl⟩
  rw[← hbl] at HB HOP HEQ hlen ⊢
  obtain⟨g,hgg⟩:∃g,g=m.gen:=⟨_,rfl⟩
  obtain⟨b,hb2⟩:∃b,b=m.blocks:=⟨_,rfl⟩
  rw[← hgg,← hb2] at HMV ⊢
  rw[← hgg] at HPG HON hg
  rw[← hb2] at o1 o2
  clear hL hm hi o3 o4 o5 o6 hpc hop hml hn0 hbl hgg hb2
  obtain rfl:bl=z:=hlen
  obtain⟨W0,hW0⟩:∃W0,W0=w.alloc (.cells #[.int .u64 0,.int .i64 0,.slice none 0 0] 170):=⟨_,rfl⟩
  have hM0:Ext w W0:=by rw[hW0];exact (Mods.refl _ w).alloc _
  have hB0:Blk W0 w.heap.size #[.int .u64 0,.int .i64 0,.slice none 0 0] 170:=by rw[hW0];exact Blk.new w _ _
  have HM0:=oh hM0
  have HR0:=oh hB0
  have hz0:=hB0.lt
  have g5:=G5.out _ (Mods.refl _ w)
  have hmax:max (i:Int) (-1)=(i:Int):=by omega
  clear hM0 hB0
  go_enter Tryz.func192, Tryz.ntmps192
  go_wp2_with fail
  rw[← hW0]
  refine (at_any (HL.out _ HM0.out) _ _ _ _ 5 (.sent 5 (by decide) (by decide))).mono ?_
  rintro e w1 ⟨f1,rfl, -,m1⟩
  have HM1:=oh (HM0.out.trans m1)
  have HR1:=oh (HR0.out.ext m1)
  clear m1 g5 hW0
  go_wp2_with fail
  refine (HOP.out _ HM1.out).mono ?_
  rintro e w2 ⟨pv,rfl,hs2,m2⟩
  obtain⟨pa,pc,rfl, -⟩:=_root_.id hs2
  have HS2:=oh hs2
  have HM2:=oh (HM1.out.trans m2)
  have HR2:=oh (HR1.out.ext m2)
  obtain⟨N,hN⟩:∃N,N=(mapBody m).length:=⟨_,rfl⟩
  rw[← hN] at HS2 ⊢
  have hz2:w.heap.size<w2.heap.size:=HR2.out.lt
  clear m2 hs2 hN
  rw[HPG.out]
  go_upto_if 26 with fail
  obtain⟨W3,hW3⟩:∃W,W=w2.alloc (.cells #[.int .i64 5,.int .i64 (i:Int),.int .u64 (g:Int),.slice pa N pc] 304):=⟨_,rfl⟩
  have m3:Ext w2 W3:=by rw[hW3];exact (Mods.refl _ w2).alloc _
  have hP3:Blk W3 w2.heap.size #[.int .i64 5,.int .i64 (i:Int),.int .u64 (g:Int),.slice pa N pc] 304:=by rw[hW3];exact Blk.new w2 _ _
  obtain⟨X,hX⟩:∃X,X=w2.heap.size:=⟨_,rfl⟩
  rw[← hX] at hP3 hz2
  rw[← hW3,← hX]
  have HP3:=oh hP3
  have HS3:=oh (HS2.out.ext m3)
  have HM3:=oh (HM2.out.trans m3)
  have HR3:=oh (HR2.out.ext m3)
  clear m3 hP3 hW3 hX HR2 HM2 HS2 HR1 HM1 HR0 HM0
  go_wp2_with fail
  refine (HON.out _).mono ?_
  rintro e w4 ⟨rfl,m4⟩
  have HP4:=oh (HP3.out.ext m4)
  have HS4:=oh (HS3.out.ext m4)
  have HM4:=oh (HM3.out.trans m4)
  have HR4:=oh (HR3.out.ext m4)
  have p0:=HP4.out.cell (o:=0) rfl
  have p1:=HP4.out.cell (o:=1) rfl
  have p2:=HP4.out.cell (o:=2) rfl
  have p3:=HP4.out.cell (o:=3) rfl
  clear m4 HP3 HS3 HM3 HR3
  go_wp2_with fail
  rw[← HPG.out]
  refine (HSD.out _ HM4.out _ HS4.out).mono ?_
  rintro e w5 ⟨uv,rfl,ho5,hu256,m5⟩
  rw[HMV.out]
  have hlo:∀j,uv.ownBlock=some j→w.heap.size<j:=λj hj=>by have:=(ho5.lt j hj).1;have:=HP4.out.lt;omega
  have hu5:Sl F w5 1 encI uv (usedI m):=(ho5.blocks (G:=F) (λj hj f=>by have:=hlo j hj;have:=(HL.out _ (Mods.refl _ _)).lt j f;omega)).sl (λ_=>rfl) (by omega)
  have HO5:=oh ho5
  have HZ4:=oh HM4.out.size
  have H256:=oh hu256
  have HLO:=oh hlo
  have hz5:X<w5.heap.size:=by have:=HP4.out.lt;have:=m5.size;omega
  clear ho5 hu256 hlo
  obtain⟨ua,uc,rfl, -⟩:=_root_.id hu5
  obtain⟨U,hU⟩:∃U,U=(usedI m).length:=⟨_,rfl⟩
  have HU5:=oh hu5
  rw[← hU] at HU5 HO5 HLO ⊢
  have HM5:=oh (HM4.out.trans m5)
  have HR5:=oh (HR4.out.ext m5)
  have HMVU:=oh (HMV.out (.slice ua U uc))
  clear m5 hu5 hU p0 p1 p2 p3 HP4 HS4 HM4 HR4
  go_wp2_with fail
  obtain⟨W6,hW6⟩:∃W,W=w5.alloc (.cells #[.int .u64 (g:Int),.int .i64 (b:Int),.slice ua U uc] 170):=⟨_,rfl⟩
  have m6:Ext w5 W6:=by rw[hW6];exact (Mods.refl _ w5).alloc _
  have hY6:Blk W6 w5.heap.size #[.int .u64 (g:Int),.int .i64 (b:Int),.slice ua U uc] 170:=by rw[hW6];exact Blk.new w5 _ _
  obtain⟨Y,hY⟩:∃Y,Y=w5.heap.size:=⟨_,rfl⟩
  rw[← hY] at hY6 hz5
  rw[← hW6,← hY,← HMVU.out]
  have HY6:=oh hY6
  have HU6:=oh (HU5.out.ext m6)
  have HO6:=oh (HO5.out.ext m6)
  have HM6:=oh (HM5.out.trans m6)
  have HR6:=oh (HR5.out.ext m6)
  clear m6 hY6 hW6 hY HU5 HM5 HR5
  refine (HSL.out _ HM6.out _ HU6.out).mono ?_
  rintro e w7 ⟨a7,c7,rfl,hs7,m7⟩
  have HY7:=oh (HY6.out.ext m7)
  have HU7:=oh (HU6.out.ext m7)
  have HO7:=oh (HO6.out.ext m7)
  have HM7:=oh (HM6.out.trans m7)
  have HR7:=oh (HR6.out.ext m7)
  have HS7:=oh hs7
  have y1:=HY7.out.cell (o:=1) rfl
  clear m7 hs7 HY6 HU6 HM6 HR6
  go_wp2_with fail
  refine (HEQ.out _ HM7.out _ HS7.out).mono ?_
  rintro e w8 ⟨rfl,m8⟩
  have HY8:=oh (HY7.out.ext m8)
  have HU8:=oh (HU7.out.ext m8)
  have HO8:=oh (HO7.out.ext m8)
  have HM8:=oh (HM7.out.trans m8)
  have HR8:=oh (HR7.out.ext m8)
  have y0:=HY8.out.cell (o:=0) rfl
  have y1:=HY8.out.cell (o:=1) rfl
  have y2:=HY8.out.cell (o:=2) rfl
  have r0:=HR8.out.cell (o:=0) rfl
  have r1:=HR8.out.cell (o:=1) rfl
  have r2:=HR8.out.cell (o:=2) rfl
  have rf:=HR8.out.frozen
  clear m8 HY7 HU7 HM7 HR7 HS7
  go_wp2_with fail
  have HRB:Hid (Blk (((w8.setCell ⟨w.heap.size,0,none⟩ (.int .u64 (g:Int))).setCell ⟨w.heap.size,1,none⟩ (.int .i64 (b:Int))).setCell ⟨w.heap.size,2,none⟩ (.slice ua U uc)) w.heap.size #[.int .u64 (g:Int),.int .i64 (b:Int),.slice ua U uc] 170):=oh (by simpa using ((HR8.out.set 0 (.int .u64 (g:Int))).set 1 (.int .i64 (b:Int))).set 2 (.slice ua U uc))
  have HMR:Hid (Mods (λj=>j=w.heap.size) w8 (((w8.setCell ⟨w.heap.size,0,none⟩ (.int .u64 (g:Int))).setCell ⟨w.heap.size,1,none⟩ (.int .i64 (b:Int))).setCell ⟨w.heap.size,2,none⟩ (.slice ua U uc))):=oh (Mods.setCell (F:=λj=>j=w.heap.size) (Mods.setCell (F:=λj=>j=w.heap.size) (Mods.setCell (F:=λj=>j=w.heap.size) (Mods.refl _ w8) (p:=⟨w.heap.size,0,none⟩) (.inr rfl) _) (p:=⟨w.heap.size,1,none⟩) (.inr rfl) _) (p:=⟨w.heap.size,2,none⟩) (.inr rfl) _)
  refine bodyPost_ret (results_row_tmp rfl _ _ w.heap.size 170 #[.int .u64 (g:Int),.int .i64 (b:Int),.slice ua U uc] _ rfl HRB.out Tryz.underlying170 rfl Tryz.mapSize) rfl ?_
  refine⟨.slice ua U uc,by rw[HMV.out];rfl,?_,H256.out,HM8.out.trans' HMR.out (λi hi h=>by have h':i=w.heap.size:=h;omega)⟩
  exact (HO8.out.mods HMR.out (λj hj h=>by have:=HLO.out j hj;omega)).rebase HZ4.out
theorem mapChoose_ok{F:Nat→Prop}{ad:Nat→Addr}{w:World}(hL:Env F ad w)(m:MapA)(hm:mapOk m=true)(hg:m.gen<18446744073709551616)(z:Nat)(h1:256≤z)(h2:z≤1024)(av bv:Value)(ha:Sl F w 1 encB av (mapBlk m (place m.gen 0) z))(hb:Sl F w 1 encB bv (mapBlk m (place m.gen 1) z)) :
  Calls Tryz.prog 138 #[av,bv,.int .u64 (m.gen:Int),.int .i64 (m.blocks:Int)] w λe w'=>∃uv,e=.returned (.tuple #[mapV m uv,.slice none 0 0,.nilIface])∧Own (λ_=>False) w' w.heap.size 3 1 encI uv (usedI m)∧(usedI m).length≤256∧Ext w w':=by
 have HL:Hid (∀w',Ext w w'→Env F ad w'):=oh (λw' k=>hL.mods k.ext);have p0:isPlace m.gen (place m.gen 0)=true:=by unfold isPlace;simp
 have p1:isPlace m.gen (place m.gen 1)=true:=by unfold isPlace;simp
 have HOA:Hid (∀w',Ext w w' → Calls Tryz.prog 192 #[av,.int .i64 (place m.gen 0:Int),.int .u64 (m.gen:Int),.int .i64 (m.blocks:Int)] w' λe w''=>∃uv,e=.returned (.tuple #[mapV m uv,.nilIface])∧Own (λ_=>False) w'' w'.heap.size 3 1 encI uv (usedI m)∧(usedI m).length≤256∧Ext w' w''):=oh (λw' k=>mapOpen_ok (HL.out w' k) m hm hg _ z p0 h1 h2 av (ha.ext k));have HOB:Hid (∀w',Ext w w' → Calls Tryz.prog 192 #[bv,.int .i64 (place m.gen 1:Int),.int .u64 (m.gen:Int),.int .i64 (m.blocks:Int)] w' λe w''=>∃uv,e=.returned (.tuple #[mapV m uv,.nilIface])∧Own (λ_=>False) w'' w'.heap.size 3 1 encI uv (usedI m)∧(usedI m).length≤256∧Ext w' w''):=oh (λw' k=>mapOpen_ok (HL.out w' k) m hm hg _ z p1 h1 h2 bv (hb.ext k));have HPL:=oh (λw'=>places_any m.gen hg w');have HMV:Hid (∀v,mapV m v=.agg #[.int .u64 (m.gen:Int),.int .i64 (m.blocks:Int),v]):=oh (λ_=>rfl);have HPV:Hid (placesV m.gen=.agg #[.int .i64 (place m.gen 0:Int),.int .i64 (place m.gen 1:Int)]):=oh rfl;obtain⟨aa,ac,rfl, -⟩:=ha;obtain⟨ba,bc,rfl, -⟩:=hb;obtain⟨an,han⟩:∃n,n=(mapBlk m (place m.gen 0) z).length:=⟨_,rfl⟩;obtain⟨bn,hbn⟩:∃n,n=(mapBlk m (place m.gen 1) z).length:=⟨_,rfl⟩;rw[← han] at HOA ⊢;rw[← hbn] at HOB ⊢;obtain⟨g,hgg⟩:∃g,g=m.gen:=⟨_,rfl⟩;obtain⟨b,hb2⟩:∃b,b=m.blocks:=⟨_,rfl⟩;rw[← hgg] at HOA HOB HPL HMV HPV ⊢;rw[← hb2] at HOA HOB HMV ⊢;obtain⟨q0,hq0⟩:∃q,q=place g 0:=⟨_,rfl⟩;obtain⟨q1,hq1⟩:∃q,q=place g 1:=⟨_,rfl⟩;rw[← hq0] at HOA HPV;rw[← hq1] at HOB HPV;clear hL hm hg h1 h2 p0 p1 han hbn hgg hb2 hq0 hq1;obtain⟨W0,hW0⟩:∃W0,W0=w.alloc (.cells #[.int .u64 0,.int .i64 0,.slice none 0 0] 170):=⟨_,rfl⟩;have hM0:Ext w W0:=by rw[hW0];exact (Mods.refl _ w).alloc _
 have hB0:Blk W0 w.heap.size #[.int .u64 0,.int .i64 0,.slice none 0 0] 170:=by rw[hW0];exact Blk.new w _ _
 have HM0:=oh hM0;have HR0:=oh hB0;have hz0:=hB0.lt;clear hM0 hB0
 go_enter Tryz.func138, Tryz.ntmps138
 go_wp2_with fail;rw[← hW0];refine (HPL.out _).mono ?_;rintro e w1 ⟨rfl,m1⟩;rw[HPV.out];have HM1:=oh (HM0.out.trans m1);have HR1:=oh (HR0.out.ext m1);have hz1:w.heap.size<w1.heap.size:=HR1.out.lt;clear m1 hW0;go_wp2_with fail;obtain⟨W2,hW2⟩:∃W,W=w1.alloc (.cells #[.int .i64 (q0:Int),.int .i64 (q1:Int)] 79):=⟨_,rfl⟩;have m2:Ext w1 W2:=by rw[hW2];exact (Mods.refl _ w1).alloc _
 have hP2:Blk W2 w1.heap.size #[.int .i64 (q0:Int),.int .i64 (q1:Int)] 79:=by rw[hW2];exact Blk.new w1 _ _
 obtain⟨X,hX⟩:∃X,X=w1.heap.size:=⟨_,rfl⟩;rw[← hX] at hP2 hz1;rw[← hW2,← hX];have HM2:=oh (HM1.out.trans m2);have HR2:=oh (HR1.out.ext m2);have HP2:=oh hP2;clear m2 hP2 hW2 hX HM1 HR1;refine (HOA.out _ HM2.out).mono ?_;rintro e w3 ⟨uv,rfl,ho3,h256,m3⟩;rw[HMV.out];obtain⟨ua,uc,rfl, -, -⟩:=_root_.id ho3.form;obtain⟨U,hU⟩:∃U,U=(usedI m).length:=⟨_,rfl⟩;rw[← hU] at ho3 ⊢;have HO3:=oh (ho3.rebase HM2.out.size);have HLO:Hid (∀j,(Value.slice ua U uc).ownBlock=some j→w.heap.size<j):=oh (λj hj=>by have:=(ho3.lt j hj).1;have:=HP2.out.lt;omega);have H256:=oh h256;have HM3:=oh (HM2.out.trans m3);have HR3:=oh (HR2.out.ext m3);have HP3:=oh (HP2.out.ext m3);have c1:=HP3.out.cell (o:=1) rfl;have hx3:=HP3.out.lt;clear m3 ho3 hU h256 HM2 HR2 HP2;go_wp2_with fail;obtain⟨W4,hW4⟩:∃W,W=w3.alloc (.cells #[.int .u64 (g:Int),.int .i64 (b:Int),.slice ua U uc] 170):=⟨_,rfl⟩;have m4:Ext w3 W4:=by rw[hW4];exact (Mods.refl _ w3).alloc _
 have hY4:Blk W4 w3.heap.size #[.int .u64 (g:Int),.int .i64 (b:Int),.slice ua U uc] 170:=by rw[hW4];exact Blk.new w3 _ _
 obtain⟨Y,hY⟩:∃Y,Y=w3.heap.size:=⟨_,rfl⟩;rw[← hY] at hY4 hx3;rw[← hW4,← hY];have HM4:=oh (HM3.out.trans m4);have HR4:=oh (HR3.out.ext m4);have HO4:=oh (HO3.out.ext m4);have HY4:=oh hY4;clear m4 hY4 hW4 hY HM3 HR3 HP3 HO3 c1;refine (HOB.out _ HM4.out).mono ?_;rintro e w5 ⟨uv2,rfl,ho5, -,m5⟩;obtain⟨ub,ud,rfl, -, -⟩:=_root_.id ho5.form;rw[HMV.out];have HM5:=oh (HM4.out.trans m5);have HR5:=oh (HR4.out.ext m5);have HO5:=oh (HO4.out.ext m5);have HY5:=oh (HY4.out.ext m5);have hy5:=HY5.out.lt;clear m5 ho5 HM4 HR4 HO4 HY4;obtain⟨V,hV⟩:∃V,V=(usedI m).length:=⟨_,rfl⟩;rw[← hV];clear hV;go_upto_if 36 with fail
 obtain⟨W6,hW6⟩:∃W,W=w5.alloc (.cells #[.int .u64 (g:Int),.int .i64 (b:Int),.slice ub V ud] 170):=⟨_,rfl⟩;have m6:Ext w5 W6:=by rw[hW6];exact (Mods.refl _ w5).alloc _
 rw[← hW6];have HM6:=oh (HM5.out.trans m6);have HR6:=oh (HR5.out.ext m6);have HO6:=oh (HO5.out.ext m6);have HY6:=oh (HY5.out.ext m6);have y0:=HY6.out.cell (o:=0) rfl;have y1:=HY6.out.cell (o:=1) rfl;have y2:=HY6.out.cell (o:=2) rfl;have r0:=HR6.out.cell (o:=0) rfl;have r1:=HR6.out.cell (o:=1) rfl;have r2:=HR6.out.cell (o:=2) rfl;have rf:=HR6.out.frozen;clear m6 hW6 HM5 HR5 HO5 HY5;go_wp2_with fail;have HRB:Hid (Blk (((W6.setCell ⟨w.heap.size,0,none⟩ (.int .u64 (g:Int))).setCell ⟨w.heap.size,1,none⟩ (.int .i64 (b:Int))).setCell ⟨w.heap.size,2,none⟩ (.slice ua U uc)) w.heap.size #[.int .u64 (g:Int),.int .i64 (b:Int),.slice ua U uc] 170):=oh (by simpa using ((HR6.out.set 0 (.int .u64 (g:Int))).set 1 (.int .i64 (b:Int))).set 2 (.slice ua U uc));have HMR:Hid (Mods (λj=>j=w.heap.size) W6 (((W6.setCell ⟨w.heap.size,0,none⟩ (.int .u64 (g:Int))).setCell ⟨w.heap.size,1,none⟩ (.int .i64 (b:Int))).setCell ⟨w.heap.size,2,none⟩ (.slice ua U uc))):=oh (Mods.setCell (F:=λj=>j=w.heap.size) (Mods.setCell (F:=λj=>j=w.heap.size) (Mods.setCell (F:=λj=>j=w.heap.size) (Mods.refl _ W6) (p:=⟨w.heap.size,0,none⟩) (.inr rfl) _) (p:=⟨w.heap.size,1,none⟩) (.inr rfl) _) (p:=⟨w.heap.size,2,none⟩) (.inr rfl) _);refine bodyPost_ret (results_row_tt rfl _ _ w.heap.size 170 #[.int .u64 (g:Int),.int .i64 (b:Int),.slice ua U uc] _ rfl HRB.out Tryz.underlying170 rfl Tryz.mapSize) rfl ?_;exact⟨.slice ua U uc,by rw[HMV.out];rfl,HO6.out.mods HMR.out (λj hj h=>by have:=HLO.out j hj;omega),H256.out,HM6.out.trans' HMR.out (λi hi h=>by have h':i=w.heap.size:=h;omega)⟩
theorem Tryz.idx2_0(a0 a1:Int)(w:World):(Instr.index 79 (.agg #[.int .i64 a0,.int .i64 a1]) (.int .i64 0)).run Tryz.prog w=.ok (.int .i64 a0) w:=by kernel_rfl
theorem Tryz.idx2_1(a0 a1:Int)(w:World):(Instr.index 79 (.agg #[.int .i64 a0,.int .i64 a1]) (.int .i64 1)).run Tryz.prog w=.ok (.int .i64 a1) w:=by kernel_rfl
theorem idx2(a b:Nat)(k:Nat)(hk:k<2)(w:World):(Instr.index 79 (.agg #[.int .i64 (a:Int),.int .i64 (b:Int)]) (.int .i64 (k:Int))).run Tryz.prog w=.ok (.int .i64 ((if k=0 then a else b:Nat):Int)) w:=by
 match k,hk with
 | 0,_=>exact Tryz.idx2_0 _ _ w
 | 1,_=>exact Tryz.idx2_1 _ _ w
theorem Tryz.geoField1(a b:Int)(w:World):(Instr.field 60 (.agg #[.int .i64 a,.int .i64 b]) 1).run Tryz.prog w=.ok (.int .i64 b) w:=by kernel_rfl
theorem Tryz.geoField0(a b:Int)(w:World):(Instr.field 60 (.agg #[.int .i64 a,.int .i64 b]) 0).run Tryz.prog w=.ok (.int .i64 a) w:=by kernel_rfl
def mapD(D:DiskA)(m:MapA):Nat→DiskA
 | 0=>D
 | 1=>D.wrote (place m.gen 0) (mapBlk m (place m.gen 0) D.size)
 | _=>(D.wrote (place m.gen 0) (mapBlk m (place m.gen 0) D.size)).wrote (place m.gen 1) (mapBlk m (place m.gen 1) D.size)
def mapAt(m:MapA)(k:Nat):Nat:=if k=0 then place m.gen 0 else place m.gen 1
theorem mapD_step(D:DiskA)(m:MapA):∀k,k<2→(mapD D m k).wrote (mapAt m k) (mapBlk m (mapAt m k) D.size)=mapD D m (k+1)
 | 0,_=>rfl
 | 1,_=>rfl
 | k+2,h=>by omega
theorem mapD_wet{D:DiskA}(hw:WetD D){m:MapA}(hm:mapOk m=true)(hb:8≤D.blocks)(hs:256≤D.size):∀k,k≤2→WetD (mapD D m k)∧(mapD D m k).blocks=D.blocks∧(mapD D m k).size=D.size∧(mapD D m k).waiting.length=D.waiting.length+k
 | 0,_=>⟨hw,rfl,rfl,rfl⟩
 | k+1,hk=>by
  obtain⟨h1,h2,h3,h4⟩:=mapD_wet hw hm hb hs k (by omega);have hp:mapAt m k<6:=by unfold mapAt place;split <;> omega
  rw[← mapD_step D m k (by omega)];refine⟨h1.wrote (by rw[h2];omega) (by rw[h3,mapBlk_length hm _ hs]),h2,h3,?_⟩;show (_++_:List _).length=_;rw[List.length_append,h4];rfl
section
variable {P P' F F':Nat→Prop}{ad:Nat→Addr}{w w':World}{d:Nat}{D:DiskA}
theorem writeMap_ok(hL:Env F ad w)(hP:∀k,P k→F k)(h:DkS w P d D)(hw:WetD D)(hfew:D.waiting.length<900000)(m:MapA)(hm:mapOk m=true)(hg:m.gen<18446744073709551616)(uv:Value)(hu:Sl F w 1 encI uv (usedI m))(hb8:8≤D.blocks)(h1:256≤D.size)(h2:D.size≤1024) :
  Calls Tryz.prog 91 #[.pointer (some ⟨d,0,none⟩),mapV m uv] w (DkStep F P ad d w (mapD D m 2)):=by
 have HFEW:=oh hfew;have HWET:=oh (mapD_wet hw hm hb8 h1);have HSTEP:=oh (mapD_step D m);have HPLC:Hid (∀k,k<2→isPlace m.gen (mapAt m k)=true∧mapAt m k<D.blocks):=oh (λk hk=>by
  unfold mapAt isPlace;refine⟨by split <;> simp,?_⟩;unfold place;split <;> omega)
 have HLEN:Hid (∀k,(mapBlk m (mapAt m k) D.size).length=D.size):=oh (λk=>mapBlk_length hm _ h1);have HSEAL:Hid (∀{F1:Nat→Prop} {w1:World},Env F1 ad w1→Sl F1 w1 1 encI uv (usedI m)→∀k,k<2 → Calls Tryz.prog 143 #[mapV m uv,.int .i64 (mapAt m k:Int),.int .i64 (D.size:Int)] w1 λe w'=>∃a c,e=.returned (.tuple #[.slice a D.size c,.nilIface])∧Sl F1 w' 1 encB (.slice a D.size c) (mapBlk m (mapAt m k) D.size)∧Ext w1 w'):=oh (λe1 s1 k hk=>(mapSeal_ok e1 m hm hg uv s1 _ D.size (HPLC.out k hk).1 h1 h2).mono (λe w' ⟨a,c,g1,g2,g3⟩=>⟨a,c,g1,g2.sl (λ_=>rfl) (by rw[HLEN.out];omega),g3⟩));have HPV:Hid (placesV m.gen=.agg #[.int .i64 (place m.gen 0:Int),.int .i64 (place m.gen 1:Int)]):=oh rfl;have HIX:Hid (∀k:Nat,k<2→∀w,(Instr.index 79 (.agg #[.int .i64 (place m.gen 0:Int),.int .i64 (place m.gen 1:Int)]) (.int .i64 (k:Int))).run Tryz.prog w=.ok (.int .i64 (mapAt m k:Int)) w):=oh (λk hk w=>idx2 _ _ k hk w);have HPL:=oh (λw'=>places_any m.gen hg w');have HMV:Hid (∀v,mapV m v=.agg #[.int .u64 (m.gen:Int),.int .i64 (m.blocks:Int),v]):=oh (λ_=>rfl);obtain⟨ua,uc,rfl, -⟩:=_root_.id hu;obtain⟨U,hU⟩:∃U,U=(usedI m).length:=⟨_,rfl⟩;rw[← hU] at HSEAL hu ⊢;obtain⟨g,hgg⟩:∃g,g=m.gen:=⟨_,rfl⟩;obtain⟨b,hb2⟩:∃b,b=m.blocks:=⟨_,rfl⟩;have HMVU:=oh (HMV.out (.slice ua U uc));rw[HMVU.out];rw[← hgg] at HPL HMV HPV HMVU HIX ⊢;rw[← hb2] at HMV HMVU ⊢;rw[HMVU.out] at HSEAL;obtain⟨q0,hq0⟩:∃q,q=place g 0:=⟨_,rfl⟩;obtain⟨q1,hq1⟩:∃q,q=place g 1:=⟨_,rfl⟩;rw[← hq0,← hq1] at HPV HIX;obtain⟨W0,hW0⟩:∃W0,W0=w.alloc (.cells #[.int .u64 (g:Int),.int .i64 (b:Int),.slice ua U uc] 170):=⟨_,rfl⟩;have hM0:Ext w W0:=by rw[hW0];exact (Mods.refl _ w).alloc _
 have hB0:Blk W0 w.heap.size #[.int .u64 (g:Int),.int .i64 (b:Int),.slice ua U uc] 170:=by rw[hW0];exact Blk.new w _ _
 have HM0:=oh hM0;have HX0:=oh hB0;have HD0:=oh (h.at hM0);have HN0:=oh (Nxt.ext hL hP hM0);have HU0:=oh (hu.ext hM0);have HPX:Hid (¬ P w.heap.size):=oh (λf=>Nat.lt_irrefl _ (hL.lt _ (hP _ f)));have x0:=hB0.cell (o:=0) rfl;clear hU hgg hb2 hq0 hq1 hM0 hB0 h hw hL hP hm hg hu h1 h2 hb8
 go_enter Tryz.func91, Tryz.ntmps91
 go_wp2_with fail;rw[← hW0];refine (HPL.out _).mono ?_;rintro e w1 ⟨rfl,m1⟩;rw[HPV.out];have HX1:=oh (HX0.out.ext m1);have HD1:=oh (HD0.out.at m1);have HN1:=oh (HN0.out.trans (Nxt.ext HN0.out.env HN0.out.sub m1));have HU1:=oh (HU0.out.ext m1);obtain⟨X,hX⟩:∃X,X=w.heap.size:=⟨_,rfl⟩;rw[← hX] at HX1 HPX;have HXL:=oh HX1.out.lt;clear m1 hW0 x0 HX0 HD0 HN0 HU0 HM0;go_wp2_with fail;rw[← hX];clear hX;go_loopg [13] 2 (λr v13 wr=>∃(k:Nat) (P1 F1:Nat→Prop),k+r=2∧v13=.int .i64 k∧Hid (DkS wr P1 d (mapD D m k)∧Nxt P P1 F F1 ad w wr∧Sl F1 wr 1 encI (.slice ua U uc) (usedI m)∧Blk wr X #[.int .u64 (g:Int),.int .i64 (b:Int),.slice ua U uc] 170 ∧ ¬ P1 X))
 case atStart=>exact⟨0,P,F,rfl,rfl,oh ⟨HD1.out,HN1.out,HU1.out,HX1.out,HPX.out⟩⟩
 case round =>
  clear HX1 HD1 HN1 HU1 HXL HPX;obtain⟨k,P1,F1,hk,rfl,HW⟩:=hrel;by_cases hlt:k<2
  ·have ix:=HIX.out k hlt;obtain⟨hD,hN,hU,hB,hnX⟩:=HW.out;obtain⟨k1,k2,k3,k4⟩:=HWET.out k (by omega);have HGEO:Hid (∀W,Ext wr W → Calls Tryz.prog 86 #[.pointer (some ⟨d,0,none⟩)] W λe w'=>e=.returned (.agg #[.int .i64 (D.blocks:Int),.int .i64 (D.size:Int)])∧Ext W w'):=oh (λW m=>by
    have:=DkS.geo (hD.at m);rw[k2,k3] at this;exact this)
   have HSL:=oh (λW (m:Ext wr W)=>HSEAL.out (hN.env.mods m.ext) (hU.ext m) k hlt);have HSX:=oh (λW (m:Ext wr W)=>(⟨(hB.ext m).cell rfl,(hB.ext m).cell rfl,(hB.ext m).cell rfl⟩:W.cell? ⟨X,0,none⟩=some (.int .u64 (g:Int))∧W.cell? ⟨X,1,none⟩=some (.int .i64 (b:Int))∧W.cell? ⟨X,2,none⟩=some (.slice ua U uc)));have HWT:=oh k1;have HLT:=oh hlt;have HFW:Hid ((mapD D m k).waiting.length<1000000):=oh (by have:=HFEW.out;omega);have HST:=oh (HSTEP.out k hlt);have HBK:Hid ((mapD D m k).blocks=D.blocks∧(mapD D m k).size=D.size):=oh ⟨k2,k3⟩;have HXW:=oh hB.lt;have zd:=HSX.out _ (Mods.refl _ wr).drew;have gf:=Tryz.geoField1;clear hD hN hU hB hnX k1 k2 k3 k4;go_wp2_with fail;go_region_held3 (λw'=>w'.cell? ⟨X,0,none⟩=some (.int .u64 (g:Int))∧w'.cell? ⟨X,1,none⟩=some (.int .i64 (b:Int))∧w'.cell? ⟨X,2,none⟩=some (.slice ua U uc))
    (first|(with_reducible exact zd)|(with_reducible exact z5)|(with_reducible exact z6)|fail)
    (first
     | (go_at_call 86;(with_reducible refine (HGEO.out _ (Mods.refl _ wr).drew).mono ?_);rintro e w5 ⟨rfl,m5⟩;have xw5:=(Mods.refl _ wr).drew.trans m5;have z5:=HSX.out _ xw5)
     | (go_at_call 143;(with_reducible refine (HSL.out _ xw5).mono ?_);rintro e w6 ⟨a6,c6,rfl,s6,m6⟩;have xw6:=xw5.trans m6;have z6:=HSX.out _ xw6)
     | fail)
   have HX6:=oh xw6;have HS6:=oh s6;clear zd z5 z6 xw5 xw6 m5 m6 s6 gf ix;obtain⟨hD,hN,hU,hB,hnX⟩:=HW.out;have N6:=hN.trans (Nxt.ext hN.env hN.sub HX6.out);have WR:=DkS.write (ad:=ad) N6.env N6.sub (hD.at HX6.out) (mapAt m k) (by rw[HBK.out.1];exact (HPLC.out k HLT.out).2) HWT.out.off HWT.out.lit _ _ HS6.out (by rw[HBK.out.2];exact HLEN.out k) HFW.out;rw[HST.out] at WR;have WR:=oh WR;have HN6:=oh N6;have HU6:=oh (hU.ext HX6.out);have HB6:=oh (hB.ext HX6.out);have HNX:=oh hnX;clear hD hN hU hB hnX N6;go_wp2_with fail;refine WR.out.mono ?_;intro e w7 H7a;obtain⟨P7,F7,rfl,h7,n7⟩:=H7a;have H7:=oh (And.intro h7 (And.intro (HN6.out.trans n7) (And.intro (n7.sl HN6.out.sub HU6.out) (And.intro (n7.blk HB6.out HNX.out) (n7.not HB6.out.lt HNX.out)))));clear h7 n7;go_wp2_with fail;go_roundg (gk-1)
   case measure=>omega
   case rel=>exact⟨k+1,P7,F7,by omega,by go_num,H7⟩
  ·obtain rfl:k=2:=by omega
   go_wp2_with fail;go_ret;exact⟨P1,F1,rfl,HW.out.1,HW.out.2.1⟩
end
section
variable {P P' F F':Nat→Prop}{ad:Nat→Addr}{w w':World}{d:Nat}{D:DiskA}
theorem Tryz.bothSize:(Tryz.prog.info? 231).map (·.size)=some 2:=by kernel_rfl
def RowAt(Y sz:Nat)(W:World)(v:Value)(l:List UInt8):Prop:=∃g,v=rowV sz g∧Y<g∧Blk W g (bytesC l) 5
theorem RowAt.mods{Y sz:Nat}{v:Value}{l:List UInt8}{G:Nat→Prop}(h:RowAt Y sz w v l)(m:Mods G w w')(hG:∀g,Y<g→g<w.heap.size→¬ G g):RowAt Y sz w' v l:=by
 obtain⟨g,h1,h2,h3⟩:=h;exact⟨g,h1,h2,h3.mods m (hG g h2 h3.lt)⟩
theorem both_ok(hL:Env F ad w)(h:DkS w P d D)(ho:D.off=false)(a b:Nat)(ha:a<D.blocks)(hb:b<D.blocks) :
  Calls Tryz.prog 133 #[.pointer (some ⟨d,0,none⟩),.agg #[.int .i64 (a:Int),.int .i64 (b:Int)]] w λe w'=>∃v0 v1,e=.returned (.tuple #[.agg #[v0,v1],.nilIface])∧RowAt w.heap.size D.size w' v0 (D.look a)∧RowAt w.heap.size D.size w' v1 (D.look b)∧Ext w w':=by
 have HRD:Hid (∀W,Ext w W→∀k,k<2 → Calls Tryz.prog 189 #[.pointer (some ⟨d,0,none⟩),.int .i64 ((if k=0 then a else b:Nat):Int)] W λe w'=>∃g,e=.returned (.tuple #[rowV D.size g,.nilIface])∧W.heap.size≤g∧Blk w' g (bytesC (D.look (if k=0 then a else b))) 5 ∧ Ext W w'):=oh (λW m k hk=>(DkS.read (hL.mods m.ext) (h.at m) (if k=0 then a else b) (by split <;> assumption) ho).mono (λe w' ⟨g,h1,h2,h3,_,h5⟩=>⟨g,h1,h2,h3,h5⟩));have HIX:=oh (idx2 a b);clear hL h ho ha hb;obtain⟨W0,hW0⟩:∃W0,W0=((w.alloc (.cells #[.int .i64 (a:Int),.int .i64 (b:Int)] 79)).alloc (.cells #[.slice none 0 0,.slice none 0 0] 231)).alloc (.cells #[.slice none 0 0,.slice none 0 0] 231):=⟨_,rfl⟩;have hM0:Ext w W0:=by rw[hW0];exact (((Mods.refl _ w).alloc _).alloc _).alloc _
 have hBX:Blk W0 w.heap.size #[.int .i64 (a:Int),.int .i64 (b:Int)] 79:=by rw[hW0];exact ((Blk.new w _ _).alloc _).alloc _
 have hBR:Blk W0 (w.heap.size+1) #[.slice none 0 0,.slice none 0 0] 231:=by rw[hW0];exact Blk.alloc (show Blk _ (w.heap.size+1) _ _ from heap_at (by simp)) _
 have hBY:Blk W0 (w.heap.size+2) #[.slice none 0 0,.slice none 0 0] 231:=by rw[hW0];exact heap_at (by simp)
 have HM0:=oh hM0;have HX0:=oh hBX;have HR0:=oh hBR;have HY0:=oh hBY;clear hM0 hBX hBR hBY
 go_enter Tryz.func133, Tryz.ntmps133
 go_wp2_with fail;rw[← hW0];obtain⟨Y,hY⟩:∃Y,Y=w.heap.size+1+1:=⟨_,rfl⟩;have hY2:w.heap.size+2=Y:=by omega
 rw[hY2] at HY0;rw[← hY];have hYw:w.heap.size+1<Y:=by omega
 have HYW:=oh hYw;clear hW0 hY hY2;go_loopg [12] 2 (λr v12 wr=>∃(k:Nat) (v0 v1:Value),k+r=2∧v12=.int .i64 k∧Hid (Ext w wr∧Blk wr (w.heap.size+1) #[.slice none 0 0,.slice none 0 0] 231 ∧ Blk wr Y #[v0,v1] 231 ∧ (0<k→RowAt Y D.size wr v0 (D.look a))∧(1<k→RowAt Y D.size wr v1 (D.look b))))
 case atStart=>exact⟨0,_,_,rfl,rfl,oh ⟨HM0.out,HR0.out,HY0.out,λh=>by omega,λh=>by omega⟩⟩
 case round =>
  clear HX0 HR0 HY0 HM0;obtain⟨k,v0,v1,hk,rfl,HW⟩:=hrel;by_cases hlt:k<2
  ·have ix:=HIX.out k hlt;obtain⟨q,hq⟩:∃q,q=(if k=0 then a else b):=⟨_,rfl⟩;have HR:=oh (HRD.out wr HW.out.1 k hlt);rw[← hq] at ix HR;have HQ:=oh hq;clear hq;go_wp2_with fail;refine HR.out.mono ?_;rintro e w1 ⟨g,rfl,hg,hB,m1⟩;unfold rowV;have hY1:=HW.out.2.2.1.ext m1;have yc:∃x,w1.cell? ⟨Y,k,none⟩=some x:=by
    rcases (by omega:k=0∨k=1) with rfl|rfl
    ·exact⟨_,hY1.cell (o:=0) rfl⟩
    ·exact⟨_,hY1.cell (o:=1) rfl⟩
   obtain⟨x,yc⟩:=yc;have yf:=hY1.frozen;have i1:(0:Int)≤(k:Int):=by omega
   have i2:(k:Int)<2:=by omega
   have HM1:=oh m1;have HB1:=oh hB;have hgY:Y<g:=Nat.lt_of_lt_of_le HW.out.2.2.1.lt hg;have HGY:=oh hgY;have HY1:=oh hY1;clear m1 hB hY1 ix hg;go_wp2_with fail;go_roundg (gk-1)
   case measure=>omega
   case rel =>
    have HMS:Mods (λj=>j=Y) w1 (w1.setCell ⟨Y,k,none⟩ (.slice (some ⟨g,0,none⟩) D.size D.size)):=Mods.setCell (F:=λj=>j=Y) (Mods.refl _ w1) (p:=⟨Y,k,none⟩) (.inr rfl) _;have hE:Ext w (w1.setCell ⟨Y,k,none⟩ (.slice (some ⟨g,0,none⟩) D.size D.size)):=(HW.out.1.trans HM1.out).trans' HMS (λi hi h=>by have h':i=Y:=h;have:=HYW.out;omega);have hRk:=(HW.out.2.1.ext HM1.out).mods HMS (by have:=HYW.out;omega);have hnew:RowAt Y D.size (w1.setCell ⟨Y,k,none⟩ (.slice (some ⟨g,0,none⟩) D.size D.size)) (rowV D.size g) (D.look q):=⟨g,rfl,HGY.out,HB1.out.mods HMS (by have:=HGY.out;omega)⟩;rw[HQ.out] at hnew;have hset:=HY1.out.set k (.slice (some ⟨g,0,none⟩) D.size D.size);rcases (by omega:k=0∨k=1) with rfl|rfl
    ·exact⟨1,.slice (some ⟨g,0,none⟩) D.size D.size,v1,by omega,by go_num,oh ⟨hE,hRk,hset,λ_=>hnew,λh=>by omega⟩⟩
    ·exact⟨2,v0,.slice (some ⟨g,0,none⟩) D.size D.size,by omega,by go_num,oh ⟨hE,hRk,hset,λ_=>(HW.out.2.2.2.1 (by omega)).mods (HM1.out.ext (F:=λj=>j=Y) |>.trans HMS) (λj hj _ h=>by omega),λ_=>hnew⟩⟩
  ·obtain rfl:k=2:=by omega
   obtain⟨g0,rfl,hg0,hB0⟩:=HW.out.2.2.2.1 (by omega);obtain⟨g1,rfl,hg1,hB1⟩:=HW.out.2.2.2.2 (by omega);have y0:=HW.out.2.2.1.cell (o:=0) rfl;have y1:=HW.out.2.2.1.cell (o:=1) rfl;have r0:=HW.out.2.1.cell (o:=0) rfl;have r1:=HW.out.2.1.cell (o:=1) rfl;have rf:=HW.out.2.1.frozen;simp only[rowV] at y0 y1;go_wp2_with fail;have HRB:Hid (Blk ((wr.setCell ⟨w.heap.size+1,0,none⟩ (.slice (some ⟨g0,0,none⟩) D.size D.size)).setCell ⟨w.heap.size+1,1,none⟩ (.slice (some ⟨g1,0,none⟩) D.size D.size)) (w.heap.size+1) #[.slice (some ⟨g0,0,none⟩) D.size D.size,.slice (some ⟨g1,0,none⟩) D.size D.size] 231):=oh (by simpa using (HW.out.2.1.set 0 (.slice (some ⟨g0,0,none⟩) D.size D.size)).set 1 (.slice (some ⟨g1,0,none⟩) D.size D.size));have HMR:Hid (Mods (λj=>j=w.heap.size+1) wr ((wr.setCell ⟨w.heap.size+1,0,none⟩ (.slice (some ⟨g0,0,none⟩) D.size D.size)).setCell ⟨w.heap.size+1,1,none⟩ (.slice (some ⟨g1,0,none⟩) D.size D.size))):=oh (Mods.setCell (F:=λj=>j=w.heap.size+1) (Mods.setCell (F:=λj=>j=w.heap.size+1) (Mods.refl _ wr) (p:=⟨w.heap.size+1,0,none⟩) (.inr rfl) _) (p:=⟨w.heap.size+1,1,none⟩) (.inr rfl) _);refine bodyPost_ret (results_row_tmp rfl _ _ (w.heap.size+1) 231 #[.slice (some ⟨g0,0,none⟩) D.size D.size,.slice (some ⟨g1,0,none⟩) D.size D.size] _ rfl HRB.out Tryz.underlying231 rfl Tryz.bothSize) rfl ?_;have:=HYW.out;exact⟨rowV D.size g0,rowV D.size g1,rfl,⟨g0,rfl,by omega,hB0.mods HMR.out (by omega)⟩,⟨g1,rfl,by omega,hB1.mods HMR.out (by omega)⟩,HW.out.1.trans' HMR.out (λi hi h=>by have h':i=w.heap.size+1:=h;omega)⟩
end
end Go.Proofs.YtdnbmdghmmpgcaaGreatDoor
