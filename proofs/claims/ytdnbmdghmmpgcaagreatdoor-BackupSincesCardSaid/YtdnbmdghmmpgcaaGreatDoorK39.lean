import Derived.Test.YtdnbmdghmmpgcaaGreatDoorK38
namespace Go.Proofs.YtdnbmdghmmpgcaaGreatDoor
open Lib renaming hid→oh
open Go.RowKit
attribute [local go_sem ↓] Go.wp_at_zero Go.wp_at_succ
section
variable {P P' F F':Nat→Prop}{ad:Nat→Addr}{w w':World}{S d c sp:Nat}{s:SupA}{home keys:Int}{G G':GA}{l l':List Nat}{root D:Nat}{L:List PairS}
def StRange(F P:Nat→Prop)(ad:Nat→Addr)(w:World)(S d c sp:Nat)(s:SupA)(home root keys:Int)(G:GA)(l:List Nat)(o:List PairS)(e:Ending)(w':World):Prop :=
 ∃P' F' v,e=.returned (.tuple #[v,.nilIface])∧Sl F' w' 2 encP v o∧StR F' w' P' S d c sp s home root keys G l∧Nxt P P' F F' ad w w'
set_option maxRecDepth 100000 in
set_option maxHeartbeats 2000000 in
theorem stRange(hL:Env F ad w)(hP:∀k,P k→F k)(h:StR F w P S d c sp s home (root:Int) keys G l)(hg:s.gen+1<18446744073709551616)(from_ to_:ByteArray)(most:Int)(o:List PairS)
  (hR:∀W,Env F ad W→PgR F W P c sp G l → Calls Tryz.prog 77 #[pgV c sp (s.gen+1),.int .i64 (root:Int),.string from_,.string to_,.int .i64 most] W (RangeD F P ad W c sp G l o)) :
  Calls Tryz.prog 26 #[.pointer (some ⟨S,0,none⟩),.string from_,.string to_,.int .i64 most] w (StRange F P ad w S d c sp s home (root:Int) keys G l o):=by
 have HAL:=oh (λop=>stAlive h op);have HPG:=oh (λW (m:Ext w W)=>stPager (h.at m) hg);have HRA:=oh (λW (m:Ext w W)=>hR W (hL.mods m.ext) (h.at m).1);have HST:=oh h;have HN:=oh (λW (m:Ext w W)=>Nxt.ext hL hP m);have c9:Hid (∀W,Ext w W→W.cell? ⟨S,9,none⟩=some (.int .i64 (root:Int))):=oh (λW m=>by obtain⟨_,⟨a,cc,h2⟩,_,_⟩:=h.at m;exact h2.cell rfl);clear hL hP h hg hR;obtain⟨pg,hpg⟩:∃pg,pg=pgV c sp (s.gen+1):=⟨_,rfl⟩;rw[← hpg] at HPG HRA;clear hpg
 go_enter Tryz.func26, Tryz.ntmps26
 go_wp2_with fail;refine (HAL.out _).mono ?_;rintro e w1 ⟨rfl,rfl⟩;have zd:=c9.out _ (Mods.refl _ w).drew;go_wp2_with fail;go_region_held3 (λw'=>w'.cell? ⟨S,9,none⟩=some (.int .i64 (root:Int)))
  (first|(with_reducible exact zd)|(with_reducible exact z5)|(with_reducible exact z6)|fail)
  (first
   | (go_at_call 78;(with_reducible refine (HPG.out _ (Mods.refl _ w).drew).mono ?_);rintro e w5 ⟨rfl,m5⟩;have x5:=(Mods.refl _ w).drew.trans m5;have z5:=c9.out _ x5)
   | (go_at_call 77;((with_reducible refine (HRA.out _ x5).mono ?_);intro e w6 hd;obtain⟨P6,F6,hG6,n6,v6,rfl,hs6⟩:=hd;have h6:=(HST.out.at x5).nxt n6 hG6;have n06:=(HN.out _ x5).trans n6;have z6:w6.cell? ⟨S,9,none⟩=some (.int .i64 (root:Int)):=(by obtain⟨_,⟨a,cc,h2⟩,_,_⟩:=h6;exact h2.cell rfl)))
   | fail)
 have H6:=oh h6;have N06:=oh n06;have HS6:=oh hs6;clear h6 n06 hs6 n6 hG6 z5 z6 zd x5 m5;go_wp2_with fail;refine (wrap_nil _ _).mono ?_;rintro e w7 ⟨rfl,rfl⟩;go_wp2_with fail;go_ret2
 exact⟨P6,F6,v6,rfl,HS6.out,H6.out,N06.out⟩
end
end Go.Proofs.YtdnbmdghmmpgcaaGreatDoor
