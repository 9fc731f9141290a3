import Derived.Test.YteabpacpngaoaaaGreatDoorB40
import Derived.Deep.RegionHeld3
import Derived.IntWalk
import Derived.Deep.RegionLawGrows
import Derived.Deep.CutBlock
import Derived.Deep.DeepCutAuto
namespace Go.Proofs.YteabpacpngaoaaaGreatDoor
open Lib renaming hid→oh
set_option maxHeartbeats 4000000
set_option maxRecDepth 100000
section
open Go.RowKit
structure KstG[GhoI](n d:Nat)(s:SupA):Prop where
 disk:d=gDisk
 low:∃m,LowS s m∧mapOk m=true∧m.gen=s.gen∧m.blocks=s.blocks
 ok:supOk s=true
 blk:s.blocks=n
 siz:s.size=256
section
variable {P P' F F':Nat→Prop}{ad:Nat→Addr}{w w':World}{d S c sp n:Nat}{s:SupA}{G:GA}{l:List Nat}{D:DiskA}
structure KstR[GhoI](F:Nat→Prop)(w:World)(P:Nat→Prop)(n S d c sp:Nat)(s:SupA)(hh:Nat)(G:GA)(l:List Nat)(root dd:Nat)(ps:List PairS)(pgs pgs0:List Nat):Prop where
 gho:KstG n d s
 home:hh<2
 st:StR F w P S d c sp s (hh:Int) ((root:Nat):Int) ((ps.length:Nat):Int) G l
 lawn:LawnK n (s.gen+1) G l root dd ps pgs pgs0
theorem gho_form(d:Nat)(_:DryD D):∃i:GhoI,@gDisk i=d ∧ @gLow i=6∧∀j,@gBlk i j=(formD D).look j:=⟨⟨⟨d,6,(formD D).look⟩⟩,rfl,rfl,λ_=>rfl⟩
theorem formatK(hL:Env F ad w)(hP:∀k,P k→F k)(h:DkS w P d D)(hD:DryD D)(h16:16≤D.blocks)(hs:D.size=256)(q:Nat)(h3:3≤q)(h64:q≤64) :
  Calls Tryz.prog 10 #[.pointer (some ⟨d,0,none⟩),.int .i64 (q:Int)] w λe w'=>∃S c sp P' F',e=.returned (.tuple #[.pointer (some ⟨S,0,none⟩),.nilIface])∧(∃(_:GhoI) (G:GA) (l:List Nat),KstR F' w' P' D.blocks S d c sp (sup1A D) 0 G l 0 0 [] [] []∧G.cost=0)∧Nxt P P' F F' ad w w':=by
 obtain⟨i,i1,i2,i3⟩:=gho_form d hD;obtain⟨hW,_⟩:=form_well hD;refine (format_okC i1.symm (by omega) (λj _=>(i3 j).symm) hL hP h hD q h3 h64).mono ?_;rintro e w' ⟨S,c,sp,P',F',rfl,h1,h2⟩;refine⟨S,c,sp,P',F',rfl,⟨i,_,_,⟨⟨i1.symm,⟨map1A D,⟨i2,(i3 0).trans hW.sup0,(i3 1).trans hW.sup1,(i3 _).trans hW.map0,(i3 _).trans hW.map1⟩,hW.mok,rfl,rfl⟩,hW.ok,rfl,hs⟩,by omega,h1,LawnK.new h16 hD.b256 rfl hs _⟩,rfl⟩,h2⟩
theorem commitK[i0:GhoI]{hh root dd:Nat}{ps:List PairS}{pgs pgs0:List Nat}(hL:Env F ad w)(hP:∀k,P k→F k)(h:KstR F w P n S d c sp s hh G l root dd ps pgs pgs0)(hg:s.gen+1<1000000)(hlen:ps.length≤1000000)(hc:G.cost≤800000) :
  Calls Tryz.prog 16 #[.pointer (some ⟨S,0,none⟩)] w λe w'=>e=.returned .nilIface∧∃P' F',(∃(_:GhoI),KstR F' w' P' n S d c sp (nextS s root ps.length) (1-hh) (sealG G) (spCommit l) root dd ps pgs pgs)∧Nxt (plusR P S) (plusR P' S) F F' ad w w':=by
 have hn:=h.lawn.ctx.b256;have hnb:=h.lawn.blk;obtain⟨m0,hlow,hm0,hm1,hm2⟩:=h.gho.low;have h6:=hlow.low;obtain⟨C,hS,hI,hR,hcc,hLP⟩:=h.st.open h.gho.disk;have hroot:root=0∨2≤root∧root<n:=by
  rcases h.lawn.td.tree with ⟨h0,_⟩|⟨hd,hT⟩
  ·exact .inl h0
  ·obtain⟨r,hr⟩:=TrD.head _ _ _ _ _ _ hT;have hl:=h.lawn.td.lt root (by rw[hr];simp);exact .inr ⟨hl.1,by omega⟩
 have hroot0:root=0→ps.length=0:=λe=>by
  rcases h.lawn.td.tree with ⟨_,_,h2,_⟩|⟨hd,hT⟩
  ·rw[h2];rfl
  ·obtain⟨r,hr⟩:=TrD.head _ _ _ _ _ _ hT;have hl:=h.lawn.td.lt root (by rw[hr];simp);omega
 have hok:supOk (nextS s root ps.length)=true:=by
  obtain⟨a1,a2,a3,a4,a5,a6,a7⟩:=(supOk_iff s).1 h.gho.ok;exact (supOk_iff _).2 ⟨a1,a2,a3,a4,by show ps.length≤_;omega,by show root=0∨2≤root∧root<s.blocks;rw[h.gho.blk];exact hroot,hroot0⟩
 have hCb:C.disk.blocks=n:=hR.blocks.trans hnb;have hCs:C.disk.size=256:=hR.size.trans h.lawn.size;have hwt:WetD C.disk:=by
  obtain⟨sb,bvs,Pd,h1,_⟩:=hS.ca hL hP;exact⟨hI.off,hI.lit,waits h1,hI.lenL,hI.len⟩
 have hm:mapOk (mapOf (s.gen+1) s.blocks l)=true:=mapOf_ok (by have:=h.lawn.n16;rw[h.gho.blk];omega) (by rw[h.gho.blk];omega) (by rw[h.gho.blk];exact h.lawn.len) h.lawn.low;have hlk:∀q,q<2→C.disk.look q=supBlk s q:=λq hq=>by
  have hk:=(hR.look q (gBlk q) (.inr ⟨by omega,rfl⟩)).1;rw[hk];rcases (show q=0∨q=1 by omega) with rfl|rfl
  ·exact hlow.sup0
  ·exact hlow.sup1
 have hhome:=h.home;refine (commitOk h6 hL hP (hh:=hh) (q:=1-hh) ⟨h.home,rfl⟩ hS hI (by have:=hR.cost;omega) hwt (mapOf (s.gen+1) s.blocks l) hm rfl (by omega) rfl (mapOf_used _ _ _) (h.gho.siz.trans hCs.symm) hok (s1:=s) (by rw[hlk _ (by omega)];exact openS_blk h.gho.ok (by omega) (by omega))).mono ?_;rintro e w' ⟨rfl,P',F',C1,hLa,hS2,hN⟩;obtain⟨k1,k2,k3⟩:=commit_rel (nx:=nextS s root ps.length) h6 hI hR hm hLa rfl (show s.size=_ from h.gho.siz.trans hCs.symm) hok hh h.home;have hd:=h.gho.disk;have hlaw:=h.lawn.commit;have hblk:=h.gho.blk;have hsiz:=h.gho.siz;have hl1:=h.lawn.low;refine⟨rfl,P',F',⟨gComm (nextS s root ps.length) (mapOf (s.gen+1) s.blocks l),?_⟩,hN⟩;have hLP2 : @LowP (gComm (nextS s root ps.length) (mapOf (s.gen+1) s.blocks l)) d (spCommit l):=⟨hd,λi hi=>by
  have hi:i < @gLow i0:=hi;left
  unfold spCommit turnL;rw[List.getElem?_map,List.getElem?_map,hl1 i (by omega)];rfl⟩
 have hst:=@StO.st P' F' w' d (gComm (nextS s root ps.length) (mapOf (s.gen+1) s.blocks l)) S c sp (nextS s root ps.length) _ _ _ _ (sealG G) (spCommit l) hS2 k1 k2 (by show 0≤_;omega) hLP2;exact @KstR.mk (gComm (nextS s root ps.length) (mapOf (s.gen+1) s.blocks l)) F' w' P' n S d c sp (nextS s root ps.length) (1-hh) (sealG G) (spCommit l) root dd ps pgs pgs
  (@KstG.mk (gComm (nextS s root ps.length) (mapOf (s.gen+1) s.blocks l)) n d (nextS s root ps.length) hd ⟨mapOf (s.gen+1) s.blocks l,gComm_low h6 _ _,hm,rfl,rfl⟩ hok hblk hsiz) (by omega) hst hlaw
end
end
section
open Go.RowKit
attribute [local go_sem ↓] Go.wp_at_zero Go.wp_at_succ
section
variable {P P' F F':Nat→Prop}{ad:Nat→Addr}{w w':World}{S d c sp:Nat}{s:SupA}{home keys:Int}{root:Nat}{G G':GA}{l l':List Nat}
theorem StR.set1[GhoI](h:StR F w P S d c sp s home (root:Int) keys G l)(r:Int):StR F (w.setCell ⟨S,9,none⟩ (.int .i64 r)) P S d c sp s home r keys G l:=by
 obtain⟨h1,⟨a,cc,h2⟩,h3,h4⟩:=h;have m:Mods (λj=>j=S) w (w.setCell ⟨S,9,none⟩ (.int .i64 r)):=Mods.setCell (F:=λj=>j=S) (Mods.refl _ w) (p:=⟨S,9,none⟩) (.inr rfl) _;exact⟨h1.plus m (λk hk e=>by have e':k=S:=e;exact h3 (e' ▸ hk)) (λk e=>by have e':k=S:=e;rw[e'];exact h4) (λ_ _ h=>h),⟨a,cc,by simpa[stC] using h2.set 9 (.int .i64 r)⟩,h3,h4⟩
theorem set1_mods(r:Int):Mods (λj=>j=S) w (w.setCell ⟨S,9,none⟩ (.int .i64 r)):=Mods.setCell (F:=λj=>j=S) (Mods.refl _ w) (p:=⟨S,9,none⟩) (.inr rfl) _
def StPutD[GhoI](F P:Nat→Prop)(ad:Nat→Addr)(w:World)(S d c sp:Nat)(s:SupA)(home keys:Int)(G':GA)(l':List Nat)(i:Nat)(nw:Bool)(e:Ending)(w':World):Prop :=
 ∃P' F',e=.returned (.tuple #[.bool nw,.nilIface])∧StR F' w' P' S d c sp s home (i:Int) (if nw then keys+1 else keys) G' l'∧Nxt (plusR P S) (plusR P' S) F F' ad w w'
theorem stPutR[GhoI]{dd:Nat}{ps:List PairS}{pgs:List Nat}{i:Nat}{nw:Bool}(hL:Env F ad w)(hP:∀k,P k→F k)(h:StR F w P S d c sp s home (root:Int) keys G l)(hg:s.gen+1<18446744073709551616)(hkk:0≤keys∧keys<1000000)(key v:ByteArray)(hk:keyB key=true)(hv:v.size≤4096)(hc:CtxG G l)(hT:TD G (s.gen+1) root dd ps pgs)(hu:UseL l (λk=>k∈pgs))(hco:G.cost+300≤1000000)(hr:putR G l (s.gen+1) root key v=.inl (G',l',(i,nw))) :
  Calls Tryz.prog 15 #[.pointer (some ⟨S,0,none⟩),.string key,.string v] w (StPutD F P ad w S d c sp s home keys G' l' i nw):=by
 have HAL:=oh (λop=>stAlive h op);have HPG:=oh (λW (m:Ext w W)=>stPager (h.at m) hg);have HPU:=oh (λW (m:Ext w W)=>insPutR_any (hL.mods m.ext) hP (h.at m).1 hg hc hT hu hk hv hco);have HRR:=oh hr;have HST:=oh h;have HN:=oh (λW (m:Ext w W)=>Nxt.ext hL hP m);have c9:Hid (∀W,Ext w W→W.cell? ⟨S,9,none⟩=some (.int .i64 (root:Int))):=oh (λW m=>by obtain⟨_,⟨a,cc,h2⟩,_,_⟩:=h.at m;exact h2.cell rfl);have HKK:=oh hkk;rw[hr] at HPU;clear hL hP h hg hk hv hc hT hu hco hkk hr;obtain⟨pg,hpg⟩:∃pg,pg=pgV c sp (s.gen+1):=⟨_,rfl⟩;rw[← hpg] at HPG HPU;clear hpg
 go_enter Tryz.func15, Tryz.ntmps15
 go_wp2_with fail;refine (HAL.out _).mono ?_;rintro e w1 ⟨rfl,rfl⟩;have zd:=c9.out _ (Mods.refl _ w).drew;go_wp2_with fail;go_region_held3 (λw'=>w'.cell? ⟨S,9,none⟩=some (.int .i64 (root:Int)))
  (first|(with_reducible exact zd)|(with_reducible exact z5)|(with_reducible exact z6)|fail)
  (first
   | (go_at_call 55;(with_reducible refine (HPG.out _ (Mods.refl _ w).drew).mono ?_);rintro e w5 ⟨rfl,m5⟩;have x5:=(Mods.refl _ w).drew.trans m5;have z5:=c9.out _ x5)
   | (go_at_call 54;((with_reducible refine (HPU.out _ x5).mono ?_);intro e w6 hq;obtain⟨P6,F6,hG6,n6,rfl⟩:∃P6 F6,PgR F6 w6 P6 c sp G' l'∧Nxt P P6 F F6 ad _ w6∧e=.returned (.tuple #[.int .i64 ((i:Nat):Int),.bool nw,.nilIface]):=(by obtain⟨P6,F6,G6,l6,hG6,n6,⟨i6,nw6,hr6,he⟩|⟨k6,f6,el6,hr6,_⟩⟩:=hq;(· simp only[Sum.inl.injEq,Prod.mk.injEq] at hr6;obtain⟨rfl,rfl,rfl,rfl⟩:=hr6;exact⟨P6,F6,hG6,n6,he⟩);(· cases hr6));have h6:=(HST.out.at x5).nxt n6 hG6;have n06:=(HN.out _ x5).trans n6;have z6:w6.cell? ⟨S,9,none⟩=some (.int .i64 (root:Int)):=(by obtain⟨_,⟨a,cc,h2⟩,_,_⟩:=h6;exact h2.cell rfl)))
   | fail)
 obtain⟨h7,⟨a,cc,hB6⟩,hn6,hf6⟩:=_root_.id h6;have s9:=hB6.cell (o:=9) (v:=.int .i64 (root:Int)) rfl;have s10:=hB6.cell (o:=10) (v:=.int .i64 keys) rfl;have sf:=hB6.frozen;have H6:=oh h6;have N06:=oh n06;have HSW:=oh HST.out.lt;obtain⟨k1,k2⟩:=HKK.out;clear h7 hB6 hn6 hf6 h6 n06 n6 hG6 z5 z6 zd x5 m5 hq;cases nw with
 | true =>
  go_wp2_with fail;go_ret2
  exact⟨P6,F6,rfl,H6.out.set (i:Int) (keys+1),N06.out.withS HSW.out H6.out.2.2.2 (set2_mods _ _)⟩
 | false =>
  go_wp2_with fail;go_ret2
  exact⟨P6,F6,rfl,H6.out.set1 (i:Int),N06.out.withS HSW.out H6.out.2.2.2 (set1_mods _)⟩
end
end
section
open Go.RowKit
theorem withP_length{key v:ByteArray}:∀{ps:List PairS},SortedP ps→(withP key v true ps).length=if (findP key ps).isNone=true then ps.length+1 else ps.length
 | [],_=>rfl
 | x :: ps,hs=>by
  have hp:=List.pairwise_cons.1 hs;unfold withP;by_cases h1:ltS x.1 key=true
  ·rw[if_pos h1];have he:findP key (x :: ps)=findP key ps:=by
    unfold findP;rw[List.find?_cons_of_neg (by simpa using ltS_ne h1)]
   rw[he,List.length_cons,withP_length hp.2];split <;> simp
  ·rw[if_neg h1];by_cases h2:x.1=key
   ·rw[if_pos h2];have he:findP key (x :: ps)=some x.2:=by
     unfold findP;rw[List.find?_cons_of_pos (by simpa using h2)];rfl
    rw[he];simp
   ·rw[if_neg h2];have h3:ltS key x.1=true:=by
     rcases ltS_tri key x.1 with h|h|h
     ·exact h
     ·exact absurd h.symm h2
     ·exact absurd h h1
    have he:findP key (x :: ps)=none:=by
     unfold findP;rw[List.find?_eq_none.2 (λy hy=>?_)]
     ·rfl
     ·rcases List.mem_cons.1 hy with rfl|hy
      ·simpa using h2
      ·have:=ltS_trans h3 (hp.1 y hy);simpa using (ltS_ne this).symm
    rw[he];simp
section
variable {P P' F F':Nat→Prop}{ad:Nat→Addr}{w w':World}{d S c sp n:Nat}{s:SupA}{G:GA}{l:List Nat}
def PutK[GhoI](F P:Nat→Prop)(ad:Nat→Addr)(w:World)(n S d c sp:Nat)(s:SupA)(hh:Nat)(G:GA)(key v:ByteArray)(ps:List PairS)(pgs pgs0:List Nat)(e:Ending)(w':World):Prop :=
 e=.returned (.tuple #[.bool (findP key ps).isNone,.nilIface])∧∃P' F' G' l' root' dd' pgs',KstR F' w' P' n S d c sp s hh G' l' root' dd' (withP key v true ps) pgs' pgs0∧Nxt (plusR P S) (plusR P' S) F F' ad w w'∧G'.cost≤G.cost+61 ∧
  ((2≤ps.length→∀i∈pgs,FatP (G.view i))→2≤(withP key v true ps).length→∀i∈pgs',FatP (G'.view i))
theorem putK[GhoI]{hh root dd:Nat}{ps:List PairS}{pgs pgs0:List Nat}{key v:ByteArray}(hL:Env F ad w)(hP:∀k,P k→F k)(h:KstR F w P n S d c sp s hh G l root dd ps pgs pgs0)(hg:s.gen+1<1000000)(hlen:ps.length<900000)(hc:G.cost≤800000)
  (hkb:keyB key=true) (hv:v.size≤400) (hroom:(ndV G.size v:Nat)+(dd:Int)+1<phiL l) :
  Calls Tryz.prog 15 #[.pointer (some ⟨S,0,none⟩),.string key,.string v] w (PutK F P ad w n S d c sp s hh G key v ps pgs pgs0):=by
 rcases h.lawn.put hkb hv with ⟨_,a⟩|⟨G',l',root',d',pgs',q1,q2,q3,q4,q5,q6⟩
 ·omega
 refine (stPutR hL hP h.st (by omega) (by omega) key v hkb (by omega) h.lawn.ctx h.lawn.td h.lawn.use (by omega) q1).mono ?_;rintro e w' ⟨P',F',rfl,h1,h2⟩;refine⟨rfl,P',F',G',l',root',d',pgs',⟨h.gho,h.home,?_,q2⟩,h2,q3,q5⟩;rw[withP_length h.lawn.td.sorted];cases hn:(findP key ps).isNone with
 | true =>
  rw[hn] at h1;simp only[if_true] at h1 ⊢;exact_mod_cast h1
 | false =>
  rw[hn] at h1;simpa using h1
end
abbrev PgE:=PageA × (Option Addr × Nat × Nat)
end
section
open Go.RowKit
attribute [local go_sem ↓] Go.wp_at_zero Go.wp_at_succ
end
section
open Go.RowKit
end
section
open Go.RowKit
attribute [local go_sem ↓] Go.wp_at_zero Go.wp_at_succ
theorem encP_ok:EncOk encP 2:=⟨λ_=>rfl,by intro x u hu;simp[encP] at hu;rcases hu with rfl|rfl <;> rfl⟩
theorem Tryz.mkP:(Tryz.prog.info? 38).map (λi=>(i.zero,i.size,i.bytes))=some (some (.agg #[.string ⟨#[]⟩,.string ⟨#[]⟩]),2,32):=by kernel_rfl
theorem Tryz.elP:ElT Tryz.prog 22 38 (.agg #[.string ⟨#[]⟩,.string ⟨#[]⟩]) 2 32:=⟨Tryz.underlying22,Tryz.mkP,rfl,by decide,by decide⟩
section
variable {F:Nat→Prop}{w w' wr w2:World}
def PairsRes(w:World)(l:List PairS)(e:Ending)(w':World):Prop:=∃v,e=.returned v∧Own NoF w' w.heap.size 38 2 encP v l∧Ext w w'
theorem with_any(l:List PairS)(lv:Value)(hl:Sl F w 2 encP lv l)(hlen:l.length≤1000)(key value:ByteArray)(over:Bool) :
  Calls Tryz.prog 51 #[lv,.string key,.string value,.bool over] w (PairsRes w (withP key value over l)):=by
 obtain⟨la,lc,rfl,h1,h2,h3,hll⟩:=hl;unfold maxLen at h2;have HLL:=oh hll;clear hll
 go_enter Tryz.func51, Tryz.ntmps51
 go_wp2_with fail;have HO0:Hid (Own NoF (w.alloc (.cells #[] 38)) w.heap.size 38 2 encP (.slice (some ⟨w.heap.size,0,none⟩) 0 0) []):=oh
  (Own.made (l:=([]:List PairS)) (cur:=#[]) (cap:=0) (heap_at (by simp)) (by omega) (λf=>f) (Nat.le_refl _) (by simp[maxLen]) (by simp) (by simp) (λ_=>rfl))
 have HM0:Hid (Ext w (w.alloc (.cells #[] 38))):=oh ((Mods.refl _ w).alloc _);go_loopg [9,10,11] l.length (λm v9 v10 v11 wr=>∃(k:Nat) (dn:Bool) (out:List PairS),k+m=l.length∧v11=.int .i64 (k:Int)∧v10=.bool dn∧Hid (Own NoF wr w.heap.size 38 2 encP v9 out∧Ext w wr∧WthI key value over l k dn out))
 case atStart=>exact⟨0,false,[],by omega,rfl,rfl,oh ⟨HO0.out,HM0.out,WthI.start⟩⟩
 case round =>
  obtain⟨k,dn,out,hkm,rfl,rfl,HS⟩:=hrel;by_cases hlt:k<l.length
  ·obtain⟨b,off,rfl,hb,hF,hc⟩:=Sl.at HLL.out HS.out.2.1 (λ_ _ f=>f.elim) k hlt;obtain⟨x,hx⟩:∃x,l[k]? = some x:=⟨_,List.getElem?_eq_getElem hlt⟩;have hx':l[k]=x:=by rw[List.getElem?_eq_getElem hlt] at hx;exact Option.some.inj hx
   rw[hx'] at hc;have c0:=hc 0 _ rfl;simp only[Nat.add_zero] at c0;have c1:=hc 1 _ rfl;have HX:=oh hx;have HOL:Hid (out.length≤k+1):=oh (by have:=HS.out.2.2.1;omega);clear hc hx hx';have i1:(0:Int)≤(k:Int):=by omega
   have i2:(k:Int)<(l.length:Int):=by omega
   have HSZ:Hid (w.heap.size≤wr.heap.size):=oh HS.out.2.1.size;cases dn with
   | true =>
    go_wp2_with (at_builtin;refine wpl_app2 Tryz.elP encP_ok rfl _ _ rfl w.heap.size _ _ out [x] rfl rfl (HS.out.1.ext ((Mods.refl _ _).alloc _)) (Sl.one (F:=NoF) (heap_at (by simp)) (λf=>f)) (by have:=HOL.out;simp only[List.length_cons,List.length_nil];omega) (by have:=hb;have:=HSZ.out;simp;omega) (λf=>f) ?_;intro a4 c4 w4 hO4 hm4 hat4);have HS4:Hid (Own NoF w4 w.heap.size 38 2 encP _ _∧Ext w w4∧WthI key value over l (k+1) true (out++[x])):=oh ⟨hO4,(HS.out.2.1.alloc _).trans' hm4 (λi hi e=>by have:=(HS.out.1.lt i e).1;omega),HS.out.2.2.pass HX.out⟩;clear hO4 hm4 hat4;go_wp2_with fail;go_roundg (gk-1)
    case measure=>omega
    case rel=>exact⟨k+1,true,_,by omega,by go_num,rfl,HS4⟩
   | false =>
    by_cases hl:ltS x.1 key=true
    ·have e1:Op.bytesLess x.1.toList key.toList=true:=hl;have HE:=oh hl;clear hl;go_wp2_with (at_builtin;refine wpl_app2 Tryz.elP encP_ok rfl _ _ rfl w.heap.size _ _ out [x] rfl rfl (HS.out.1.ext ((Mods.refl _ _).alloc _)) (Sl.one (F:=NoF) (heap_at (by simp)) (λf=>f)) (by have:=HOL.out;simp only[List.length_cons,List.length_nil];omega) (by have:=hb;have:=HSZ.out;simp;omega) (λf=>f) ?_;intro a4 c4 w4 hO4 hm4 hat4);have HS4:Hid (Own NoF w4 w.heap.size 38 2 encP _ _∧Ext w w4∧WthI key value over l (k+1) false (out++[x])):=oh ⟨hO4,(HS.out.2.1.alloc _).trans' hm4 (λi hi e=>by have:=(HS.out.1.lt i e).1;omega),HS.out.2.2.lt HX.out HE.out⟩;clear hO4 hm4 hat4;go_wp2_with fail;go_roundg (gk-1)
     case measure=>omega
     case rel=>exact⟨k+1,false,_,by omega,by go_num,rfl,HS4⟩
    ·have hl':ltS x.1 key=false:=by simpa using hl
     have e1:Op.bytesLess x.1.toList key.toList=false:=hl';have HE:=oh hl';clear hl hl';by_cases hk:x.1=key
     ·obtain⟨xk,xv⟩:=x;simp only at hk;subst hk;cases over with
      | true =>
       go_wp2_with (at_builtin;refine wpl_app2 Tryz.elP encP_ok rfl _ _ rfl w.heap.size _ _ out [(xk,value)] rfl rfl (HS.out.1.ext ((Mods.refl _ _).alloc _)) (Sl.one (F:=NoF) (heap_at (by simp)) (λf=>f)) (by have:=HOL.out;simp only[List.length_cons,List.length_nil];omega) (by have:=HSZ.out;simp;omega) (λf=>f) ?_;intro a4 c4 w4 hO4 hm4 hat4;have y0:=cellM hm4 (cellE ((Mods.refl _ wr).alloc (.cells #[.string xk,.string value] 38)) c0) (λe=>by have:=(HS.out.1.lt _ e).1;omega);have y1:=cellM hm4 (cellE ((Mods.refl _ wr).alloc (.cells #[.string xk,.string value] 38)) c1) (λe=>by have:=(HS.out.1.lt _ e).1;omega));have HS4:Hid (Own NoF w4 w.heap.size 38 2 encP _ _∧Ext w w4∧WthI xk value true l (k+1) true (out++[(xk,value)])):=oh ⟨hO4,(HS.out.2.1.alloc _).trans' hm4 (λi hi e=>by have:=(HS.out.1.lt i e).1;omega),HS.out.2.2.eqO HX.out rfl⟩;clear hO4 hm4 hat4;go_wp2_with fail;go_roundg (gk-1)
       case measure=>omega
       case rel=>exact⟨k+1,true,_,by omega,by go_num,rfl,HS4⟩
      | false =>
       go_wp2_with (at_builtin;refine wpl_app2 Tryz.elP encP_ok rfl _ _ rfl w.heap.size _ _ out [(xk,xv)] rfl rfl (HS.out.1.ext ((Mods.refl _ _).alloc _)) (Sl.one (F:=NoF) (heap_at (by simp)) (λf=>f)) (by have:=HOL.out;simp only[List.length_cons,List.length_nil];omega) (by have:=HSZ.out;simp;omega) (λf=>f) ?_;intro a4 c4 w4 hO4 hm4 hat4);have HS4:Hid (Own NoF w4 w.heap.size 38 2 encP _ _∧Ext w w4∧WthI xk value false l (k+1) true (out++[(xk,xv)])):=oh ⟨hO4,(HS.out.2.1.alloc _).trans' hm4 (λi hi e=>by have:=(HS.out.1.lt i e).1;omega),HS.out.2.2.eqN HX.out rfl⟩;clear hO4 hm4 hat4;go_wp2_with fail;go_roundg (gk-1)
       case measure=>omega
       case rel=>exact⟨k+1,true,_,by omega,by go_num,rfl,HS4⟩
     ·have hk2:ltS key x.1=true:=(not_ltS HE.out).resolve_right hk;have e2:Op.bytesLess key.toList x.1.toList=true:=hk2;have e3:¬ x.1.toList=key.toList:=λe=>hk (toList_inj e)
      have e4:¬ x.1=key:=hk;have HK:=oh hk;clear hk hk2;go_wp2_with (first|(at_builtin;refine wpl_app2 Tryz.elP encP_ok rfl _ _ rfl w.heap.size _ _ out [(key,value)] rfl rfl (HS.out.1.ext ((Mods.refl _ _).alloc _)) (Sl.one (F:=NoF) (heap_at (by simp)) (λf=>f)) (by have:=HOL.out;simp only[List.length_cons,List.length_nil];omega) (by have:=HSZ.out;simp;omega) (λf=>f) ?_;intro a4 c4 w4 hO4 hm4 hat4;have y0:=cellM hm4 (cellE ((Mods.refl _ wr).alloc (.cells #[.string key,.string value] 38)) c0) (λe=>by have:=(HS.out.1.lt _ e).1;omega);have y1:=cellM hm4 (cellE ((Mods.refl _ wr).alloc (.cells #[.string key,.string value] 38)) c1) (λe=>by have:=(HS.out.1.lt _ e).1;omega))|(at_builtin;refine wpl_app2 Tryz.elP encP_ok rfl _ _ rfl w.heap.size _ _ (out++[(key,value)]) [x] rfl rfl (hO4.ext ((Mods.refl _ _).alloc _)) (Sl.one (F:=NoF) (heap_at (by simp)) (λf=>f)) (by have:=HOL.out;simp only[List.length_append,List.length_cons,List.length_nil];omega) (by have:=hm4.size;have:=HSZ.out;simp at *;omega) (λf=>f) ?_;intro a5 c5 w5 hO5 hm5 hat5));have HS3:Hid (Own NoF w4 w.heap.size 38 2 encP _ (out++[(key,value)])∧Ext w w4):=oh ⟨hO4,(HS.out.2.1.alloc _).trans' hm4 (λi hi e=>by have:=(HS.out.1.lt i e).1;omega)⟩;have HS4:Hid (Own NoF w5 w.heap.size 38 2 encP (.slice a5 (out.length+1+1) c5) (out++[(key,value)]++[x])∧Ext w w5∧WthI key value over l (k+1) true (out++[(key,value)]++[x])):=oh ⟨by have e:=hO5;simp only[List.length_append,List.length_cons,List.length_nil,Nat.zero_add] at e;exact e,(HS3.out.2.alloc _).trans' hm5 (λi hi e=>by have:=(HS3.out.1.lt i e).1;omega),HS.out.2.2.gt HX.out HE.out HK.out⟩;clear hO5 hm5 hat5;go_wp2_with fail;go_roundg (gk-1)
      case measure=>omega
      case rel=>exact⟨k+1,true,_,by omega,by go_num,rfl,HS4⟩
  ·have HLE:Hid (l.length≤k):=oh (by omega);have HSZ:Hid (w.heap.size≤wr.heap.size):=oh HS.out.2.1.size;have HOL:Hid (out.length≤k+1):=oh (by have:=HS.out.2.2.1;omega);have hb:w.heap.size≤wr.heap.size:=HSZ.out;cases dn with
   | true =>
    go_wp2_with fail;go_ret;exact⟨_,rfl,by rw[← HS.out.2.2.done HLE.out];exact HS.out.1,HS.out.2.1⟩
   | false =>
    go_wp2_with (at_builtin;refine wpl_app2 Tryz.elP encP_ok rfl _ _ rfl w.heap.size _ _ out [(key,value)] rfl rfl (HS.out.1.ext ((Mods.refl _ _).alloc _)) (Sl.one (F:=NoF) (heap_at (by simp)) (λf=>f)) (by have:=HOL.out;simp only[List.length_cons,List.length_nil];omega) (by have:=HSZ.out;simp;omega) (λf=>f) ?_;intro a4 c4 w4 hO4 hm4 hat4);have HS4:Hid (Own NoF w4 w.heap.size 38 2 encP _ (withP key value over l)∧Ext w w4):=oh ⟨by rw[← HS.out.2.2.last HLE.out];exact hO4,(HS.out.2.1.alloc _).trans' hm4 (λi hi e=>by have:=(HS.out.1.lt i e).1;omega)⟩;clear hO4 hm4 hat4;go_wp2_with fail;go_ret;exact⟨_,rfl,HS4.out.1,HS4.out.2⟩
end
section
variable {F:Nat→Prop}{w w' wr w2:World}
def FoundP(o:Option ByteArray)(w:World)(e:Ending)(w':World):Prop:=e=.returned (.tuple #[.string (o.getD e0),.bool o.isSome])∧w=w'
theorem find11_any(l:List PairS)(lv:Value)(hl:Sl F w 2 encP lv l)(hlen:l.length≤100000)(key:ByteArray) :
  Calls Tryz.prog 50 #[lv,.string key] w (FoundP (findP key l) w):=by
 obtain⟨la,lc,rfl,h1,h2,h3,hll⟩:=hl;unfold maxLen at h2;have HLL:=oh hll;clear hll
 go_enter Tryz.func50, Tryz.ntmps50
 go_wp2_with fail;go_loopg [6] l.length (λm v6 wr=>wr=w∧∃(k:Nat),k+m=l.length∧v6=.int .i64 (k:Int)∧Hid (findP key (l.take k)=none))
 case atStart=>exact⟨rfl,0,by omega,rfl,oh rfl⟩
 case round =>
  obtain⟨rfl,k,hkm,rfl,HS⟩:=hrel;by_cases hlt:k<l.length
  ·obtain⟨b,off,rfl,hb,hF,hc⟩:=Sl.at HLL.out (Mods.refl F wr) (λ_ _ f=>f) k hlt;obtain⟨x,hx⟩:∃x,l[k]? = some x:=⟨_,List.getElem?_eq_getElem hlt⟩;have hx':l[k]=x:=by rw[List.getElem?_eq_getElem hlt] at hx;exact Option.some.inj hx
   rw[hx'] at hc;have c0:=hc 0 _ rfl;simp only[Nat.add_zero] at c0;have c1:=hc 1 _ rfl;have HX:=oh hx;clear hc hx hx';have i1:(0:Int)≤(k:Int):=by omega
   have i2:(k:Int)<(l.length:Int):=by omega
   by_cases hk:x.1=key
   ·subst hk;have HR:Hid (findP x.1 l=some x.2):=oh (by
     have e:l=l.take k++x :: l.drop (k+1):=by rw[← drop_of HX.out,List.take_append_drop]
     rw[e,findP_append,HS.out,findP_cons,if_pos rfl];rfl)
    go_wp2_with fail;go_ret2
    exact⟨by rw[HR.out];rfl,rfl⟩
   ·have e3:(x.1.toList == key.toList)=false:=beq_eq_false_iff_ne.2 (λe=>hk (toList_inj e));have HS2:Hid (findP key (l.take (k+1))=none):=oh (by rw[take_one l k x HX.out,findP_append,HS.out,findP_cons,if_neg hk];rfl);go_wp2_with fail;go_roundg (gk-1)
    case measure=>omega
    case rel=>exact⟨rfl,k+1,by omega,by go_num,HS2⟩
  ·have HT:Hid (findP key l=none):=oh (by have:=HS.out;rwa [List.take_of_length_le (by omega)] at this);go_wp2_with fail;go_ret2
   exact⟨by rw[HT.out];rfl,rfl⟩
end
def st17V(wv iv:Value)(g:Nat):Value:=.agg #[wv,iv,.int .u64 (g:Int)]
theorem Tryz.st17Size:(Tryz.prog.info? 35).map (·.size)=some 3:=by kernel_rfl
section
variable {F:Nat→Prop}{w:World}
theorem new17_any(w:World) : Calls Tryz.prog 11 #[] w λe w'=>e=.returned (st17V (.slice none 0 0) (.slice none 0 0) 1)∧Ext w w':=by
 go_enter Tryz.func11, Tryz.ntmps11
 go_wp2_with fail;have hb:=Blk.new w #[.slice none 0 0,.slice none 0 0,.int .u64 1] 35;refine bodyPost_ret (results_cell_row rfl _ _ w.heap.size 35 #[.slice none 0 0,.slice none 0 0,.int .u64 1] (0,0) _ rfl hb Tryz.underlying35 rfl Tryz.st17Size) rfl ?_;exact⟨rfl,(Mods.refl _ w).alloc _⟩
def Put17D(w:World)(wv iv:Value)(g:Nat)(key v:ByteArray)(ps:List PairS)(e:Ending)(w':World):Prop :=
 Ext w w'∧((keyB key=false∧e=.returned (.tuple #[st17V wv iv g,.bool false,.int .i64 2])) ∨
  (keyB key=true∧∃iv',e=.returned (.tuple #[st17V wv iv' g,.bool (findP key ps).isNone,.int .i64 0])∧Own NoF w' w.heap.size 38 2 encP iv' (withP key v true ps)))
theorem put17_any(wa:Option Addr)(wn wc:Nat)(iv:Value)(g:Nat)(key v:ByteArray)(hv:v.size≤4096)(ps:List PairS)(hi:Sl F w 2 encP iv ps)(hlen:ps.length≤1000) :
  Calls Tryz.prog 13 #[st17V (.slice wa wn wc) iv g,.string key,.string v] w (Put17D w (.slice wa wn wc) iv g key v ps):=by
 obtain⟨ia,ic,rfl, -, -, -⟩:=id hi;obtain⟨W0,hW0⟩:∃W,W=(w.alloc (.cells #[.slice wa wn wc,.slice ia ps.length ic,.int .u64 (g:Int)] 35)).alloc (.cells #[.slice none 0 0,.slice none 0 0,.int .u64 0] 35):=⟨_,rfl⟩;have hM:Ext w W0:=by rw[hW0];exact ((Mods.refl _ w).alloc _).alloc _
 have hB3:Blk W0 w.heap.size #[.slice wa wn wc,.slice ia ps.length ic,.int .u64 (g:Int)] 35:=by rw[hW0];exact (Blk.new w _ _).ext ((Mods.refl _ _).alloc _)
 have hB6:Blk W0 (w.heap.size+1) #[.slice none 0 0,.slice none 0 0,.int .u64 0] 35:=by rw[hW0];exact heap_at (by simp)
 have HK:=oh (λb (h:keyB key=b) W=>key07_t key W b h);have HFI:=oh (find11_any ps _ (hi.ext hM) (by omega) key);have HWI:=oh (with_any ps _ (hi.ext hM) hlen key v true);have HM:=oh hM;have c0:=hB3.cell (o:=0) rfl;have c1:=hB3.cell (o:=1) (v:=.slice ia ps.length ic) rfl;have c2:=hB3.cell (o:=2) (v:=.int .u64 (g:Int)) rfl;have HB3:=oh hB3;have HB6:=oh hB6;have r0:=hB6.cell (o:=0) (v:=.slice none 0 0) rfl;have r1:=hB6.cell (o:=1) (v:=.slice none 0 0) rfl;have r2:=hB6.cell (o:=2) (v:=.int .u64 0) rfl;have rf:=hB6.frozen;have cf:=hB3.frozen;obtain⟨nn,hn⟩:∃n,n=ps.length:=⟨_,rfl⟩;have hsz:w.heap.size<W0.heap.size:=hB3.lt;unfold st17V;clear hi hM hB3 hB6;have hv':¬ (4096:Int)<(v.size:Int):=by omega
 cases hk:keyB key with
 | false =>
  have HKK:=oh (HK.out _ hk);have HKB:=oh hk;clear HK hk
  go_enter Tryz.func13, Tryz.ntmps13
  go_wp2_with fail;rw[← hW0];clear hW0;refine (HKK.out _).mono ?_;rintro e w1 ⟨rfl,rfl⟩;go_wp2_with fail;refine bodyPost_ret (results_row_tt rfl _ _ (w.heap.size+1) 35 #[.slice wa wn wc,.slice ia ps.length ic,.int .u64 (g:Int)] _ rfl (by simpa using ((HB6.out.set 0 (.slice wa wn wc)).set 1 (.slice ia ps.length ic)).set 2 (.int .u64 (g:Int))) Tryz.underlying35 rfl Tryz.st17Size) rfl ?_;exact⟨Mods.set3 (F:=λ_=>False) HM.out (R:=w.heap.size+1) (.inl (by omega)) _ _ _,.inl ⟨HKB.out,rfl⟩⟩
 | true =>
  have HKK:=oh (HK.out _ hk);have HKB:=oh hk;clear HK hk
  go_enter Tryz.func13, Tryz.ntmps13
  go_wp2_with fail;rw[← hW0];clear hW0;refine (HKK.out _).mono ?_;rintro e w1 ⟨rfl,rfl⟩;go_wp2_with fail;refine HFI.out.mono ?_;rintro e w2 ⟨rfl,rfl⟩;go_wp2_with fail;refine HWI.out.mono ?_;rintro e w3 ⟨iv',rfl,hO,m3⟩;obtain⟨a',c',hvv, -⟩:=hO.form;subst hvv;have hC3:=HB3.out.ext m3;have hC6:=HB6.out.ext m3;have HC3:=oh hC3;have HC6:=oh hC6;have HO:=oh hO;have HM3:=oh (HM.out.trans m3);have c0:=hC3.cell (o:=0) rfl;have c1:=hC3.cell (o:=1) (v:=.slice ia ps.length ic) rfl;have c2:=hC3.cell (o:=2) (v:=.int .u64 (g:Int)) rfl;have r0:=hC6.cell (o:=0) (v:=.slice none 0 0) rfl;have r1:=hC6.cell (o:=1) (v:=.slice none 0 0) rfl;have r2:=hC6.cell (o:=2) (v:=.int .u64 0) rfl;have rf:=hC6.frozen;have cf:=hC3.frozen;clear hO m3 hC3 hC6 hn;go_wp2_with fail;obtain⟨iw,hiw⟩:∃v',v'=Value.slice a' (withP key v true ps).length c':=⟨_,rfl⟩;have m1:Mods (λk=>k=w.heap.size) w3 (w3.setCell ⟨w.heap.size,1,none⟩ iw):=Mods.setCell (F:=λk=>k=w.heap.size) (Mods.refl _ w3) (p:=⟨w.heap.size,1,none⟩) (.inr rfl) _;have mQ:Mods (λk=>k=w.heap.size∨k=w.heap.size+1) w3 ((((w3.setCell ⟨w.heap.size,1,none⟩ iw).setCell ⟨w.heap.size+1,0,none⟩ (.slice wa wn wc)).setCell ⟨w.heap.size+1,1,none⟩ iw).setCell ⟨w.heap.size+1,2,none⟩ (.int .u64 (g:Int))):=Mods.set3 (m1.mono (λk h=>.inl h)) (R:=w.heap.size+1) (.inr (.inr rfl)) _ _ _;have hb:=(((HC6.out.mods m1 (λe=>by omega)).set 0 (.slice wa wn wc)).set 1 iw).set 2 (.int .u64 (g:Int));have hz:w.heap.size+2≤W0.heap.size:=by have:=HB6.out.lt;omega
  rw[← hiw] at HO ⊢;refine bodyPost_ret (results_row_tt rfl _ _ (w.heap.size+1) 35 #[.slice wa wn wc,iw,.int .u64 (g:Int)] _ rfl (by simpa using hb) Tryz.underlying35 rfl Tryz.st17Size) rfl ?_;refine⟨Mods.set3 (F:=λ_=>False) (Mods.setCell (F:=λ_=>False) HM3.out (p:=⟨w.heap.size,1,none⟩) (.inl (Nat.le_refl _)) _) (R:=w.heap.size+1) (.inl (by omega)) _ _ _,.inr ⟨HKB.out,iw,rfl,?_⟩⟩;exact (HO.out.mods mQ (λq hq h=>by have:=(HO.out.lt q hq).1;omega)).rebase (by omega)
theorem commit17_any(wv:Value)(ia:Option Addr)(n ic g:Nat)(hg:g+1<18446744073709551616) :
  Calls Tryz.prog 17 #[st17V wv (.slice ia n ic) g] w λe w'=>e=.returned (st17V (.slice ia n ic) (.slice ia n ic) (g+1))∧Ext w w':=by
 unfold st17V;have e1:((g+1:Nat):Int)=(g:Int)+1:=by omega
 have wg:IntKind.u64.wrap ((g:Int)+1)=(g:Int)+1:=by unfold IntKind.wrap;simp[IntKind.bits,IntKind.signed];omega
 have HE1:=oh e1;clear e1
 go_enter Tryz.func17, Tryz.ntmps17
 go_wp2_with fail;refine bodyPost_ret (results_cell_row rfl _ _ (w.heap.size+1) 35 #[.slice ia n ic,.slice ia n ic,.int .u64 ((g:Int)+1)] (0,0) _ rfl (heap_at (by simp)) Tryz.underlying35 rfl Tryz.st17Size) rfl ?_;exact⟨by rw[HE1.out],((Mods.refl _ w).alloc _).alloc _⟩
end
end
end Go.Proofs.YteabpacpngaoaaaGreatDoor
