import Derived.Test.YteabpacpngaoaaaGreatDoorB39
import Derived.BigQuiet
namespace Go.Proofs.YteabpacpngaoaaaGreatDoor
open Lib renaming hid→oh
section
open Go.RowKit
attribute [local go_sem ↓] Go.wp_at_zero Go.wp_at_succ
def PutRP[GhoI](F P:Nat→Prop)(ad:Nat→Addr)(w:World)(c s:Nat)(G:GA)(l:List Nat)(r:StA (Nat × Bool))(e:Ending)(w':World):Prop :=
  ∃(P' F':Nat→Prop) (G':GA) (l':List Nat),PgR F' w' P' c s G' l'∧Nxt P P' F F' ad w w' ∧
    ((∃ i nw, r = .inl (G', l', (i, nw)) ∧ e = .returned (.tuple #[.int .i64 ((i : Nat) : Int), .bool nw, .nilIface])) ∨
     (∃k f el,r=.inr k∧FrG G l G' l'∧e=.returned (.tuple #[.int .i64 0,.bool false,faultV f])∧ErrC F' ad w' (faultV f) el k))
def putS(G:GA)(l:List Nat)(gen root:Nat)(key v:ByteArray):StA OutA:=if root=0 then leafA G l gen 0 leaf0 key v else putA gen key v 16 G l root
theorem putR_eq{G:GA}{l:List Nat}{gen root:Nat}{key v:ByteArray}(hk:keyB key=true)(hv:v.size≤4096):putR G l gen root key v=match putS G l gen root key v with
  | .inr k=>.inr k
  | .inl (G1,l1,o)=>if o.two=false then .inl (G1,l1,(o.id0,o.news)) else match downI G1 l1 0 (rootA o) with
   | none=>.inr (downK G1 (rootA o))
   | some i=>.inl (downG G1 l1 gen 0 (rootA o),downL G1 l1 0 (rootA o),(i,o.news)):=by
 unfold putR;rw[show putCheck key v=none by unfold putCheck;rw[if_neg (by rw[hk];simp),if_neg (by omega)]];rfl
section
variable {G G1:GA}{l l1:List Nat}{gen root d:Nat}{ps:List PairS}{pgs:List Nat}
theorem putS_mid{key v:ByteArray}(hc:CtxG G l)(hT:TD G gen root d ps pgs)(hu:UseL l (λk=>k∈pgs))(hkb:keyB key=true)(hv:v.size≤4096){o:OutA}(h:putS G l gen root key v=.inl (G1,l1,o)) :
  CtxG G1 l1∧FrG G l G1 l1∧G1.cost≤G.cost+60∧(o.two=true→keyB o.key=true):=by
 unfold putS at h;have hs:=hc.s256;rcases hT.tree with ⟨rfl,rfl,rfl,rfl⟩|⟨hd,hT2⟩
 ·rw[if_pos rfl] at h;rcases leafPut_tr (gen:=gen) (lo:=e0) (hi:=none) (n:=leaf0) (key:=key) (v:=v) (ps:=[]) (q:=[]) hc (.inl rfl) rfl rfl (by unfold weightN leaf0;simp[sumE,sumK];omega) .nil (λx hx=>by simp at hx) (inB_all key) hkb hv List.nodup_nil (λk hk=>by simp at hk) (λh=>absurd rfl h) with ⟨a1,a2⟩|⟨G2,l2,o2,pgs,a1,a2,a3,a4,a5⟩
  ·rw[a1] at h;cases h
  ·have hco:=leaf_cost hv hc.s256 hc.s1024 h;rw[a1] at h;injection h with h;injection h with h1 h2;injection h2 with h2 h3;subst h1 h2 h3;exact⟨a3.ctx,a3.upd.fr (λi hi=>by rcases hi with ⟨_,h⟩|h;exact absurd rfl h;simp at h),by omega,λh2=>a3.keys _ (by unfold outKeys;rw[if_pos h2];simp)⟩
 ·have hd7:=(hT.few hc.b256).2;have hroot:root≠0:=by
   obtain⟨r,hr⟩:=TrD.head _ _ _ _ _ _ hT2;have:=hT.lt root (by rw[hr];simp);omega
  rw[if_neg hroot] at h;have hco:=put_cost hv 16 G l root hc.s256 hc.s1024 h;rcases put_tr (gen:=gen) hkb hv d 16 G l root e0 none ps pgs hc hT2 hT.nodup hu (inB_all key) (by omega) with ⟨a1,a2⟩|⟨G2,l2,o2,pgs',a1,a2,a3,a4⟩
  ·rw[a1] at h;cases h
  ·rw[a1] at h;injection h with h;injection h with h1 h2;injection h2 with h2 h3;subst h1 h2 h3;exact⟨a3.ctx,a3.upd.fr (λi hi=>(hT.lt i hi).1),by omega,λh2=>a3.keys _ (by unfold outKeys;rw[if_pos h2];simp)⟩
end
section
variable {P P0 P' P1 P2 F F0 F' F1 F2:Nat→Prop}{ad:Nat→Addr}{w0 w w' w1 w2:World}{c s:Nat}{G:GA}{l:List Nat}
theorem Nxt.less(n1:Nxt P P1 F F1 ad w w1)(n2:Nxt P1 P2 F' F2 ad w1 w2)(h1:∀k,F k→F' k)(h2:∀k,F' k→F1 k):Nxt P P2 F F2 ad w w2 :=
 ⟨n1.stp.trans n2.stp,n2.sub,λk h=>n2.grow k (h1 k h),λk hk h=>n1.oldF k hk (h2 k (n2.oldF k (Nat.lt_of_lt_of_le hk n1.size) h)),n2.env⟩
def QSt[GhoI](F P:Nat→Prop)(ad:Nat→Addr)(w:World)(c s gen X:Nat)(G:GA)(l:List Nat)(r:StA OutA)(ev:Value)(wx:World):Prop :=
 ∃(P' F':Nat→Prop) (G':GA) (l':List Nat) (o:OutA),PgR F' wx P' c s G' l'∧Nxt P P' F F' ad w wx∧VarR F' P' w wx w.heap.size #[.pointer (some ⟨c,0,none⟩),.pointer (some ⟨s,0,none⟩),.int .u64 (gen:Int)] 120 ∧
  VarR F' P' w wx X (outC o) 169 ∧ ((r=.inl (G',l',o)∧ev=.nilIface)∨(∃k f el,r=.inr k∧FrG G l G' l'∧ev=faultV f∧ErrC F' ad wx (faultV f) el k))
theorem downI_no0{n:NodeA}(h:downI G l 0 n=none)(gen:Nat):downG G l gen 0 n=G∧downL G l 0 n=l:=by
 refine⟨by unfold downG;rw[h],?_⟩;unfold downI at h;unfold downL;split at h
 ·rename_i hd;rw[if_pos hd];unfold placeI at h;rw[if_neg (by simp)] at h;unfold placeL;rw[if_pos rfl];unfold spTake;rw[h]
 ·rename_i hd;rw[if_neg hd]
theorem Sl.ids{x y:Int}{b:Nat}(hb:b<w.heap.size)(hF:¬ F b)(h0:w.cell? ⟨b,0,none⟩=some (.int .i64 x))(h1:w.cell? ⟨b,1,none⟩=some (.int .i64 y)):Sl F w 1 encI (.slice (some ⟨b,0,none⟩) 2 2) [x,y]:=by
 refine⟨_,2,rfl,Nat.le_refl _,by simp[maxLen],by simp,.inr ⟨b,0,rfl,hb,hF,λi z hi j u hu=>?_⟩⟩;have hj:j=0∧u=.int .i64 z:=by
  cases j with
  | zero=>exact⟨rfl,by simpa[encI] using hu.symm⟩
  | succ j=>simp[encI] at hu
 obtain⟨rfl,rfl⟩:=hj;match i,hi with
 | 0,hi=>simp only[List.getElem?_cons_zero,Option.some.injEq] at hi;subst hi;exact h0
 | 1,hi=>simp only[List.getElem?_cons_succ,List.getElem?_cons_zero,Option.some.injEq] at hi;subst hi;exact h1
 | i+2,hi=>simp at hi
set_option maxRecDepth 100000 in
set_option maxHeartbeats 4000000 in
theorem insPutR_any[GhoI]{gen root d:Nat}{ps:List PairS}{pgs:List Nat}{key v:ByteArray}(hL:Env F ad w)(hP:∀k,P k→F k)(h:PgR F w P c s G l)(hgen:gen<18446744073709551616)(hc:CtxG G l)(hT:TD G gen root d ps pgs)(hu:UseL l (λk=>k∈pgs))(hkb:keyB key=true)(hv:v.size≤4096)(hco:G.cost+300≤1000000) :
  Calls Tryz.prog 54 #[pgV c s gen,.int .i64 (root:Int),.string key,.string v] w (PutRP F P ad w c s G l (putR G l gen root key v)):=by
 obtain⟨w1,hw1⟩:∃w1,w1=w.alloc (.cells #[.pointer (some ⟨c,0,none⟩),.pointer (some ⟨s,0,none⟩),.int .u64 (gen:Int)] 120):=⟨_,rfl⟩;have m0:Ext w w1:=by rw[hw1];exact (Mods.refl _ w).alloc _
 have hz:w1.heap.size=w.heap.size+1:=by rw[hw1];simp
 have hN:Nxt P P F (λk=>F k∨k=w.heap.size) ad w w1:=Nxt.new hL hP (Q:=λk=>k=w.heap.size) m0 (λk hk=>by omega) (λk hk=>by omega);have hB:VarR (λk=>F k∨k=w.heap.size) P w w1 w.heap.size #[.pointer (some ⟨c,0,none⟩),.pointer (some ⟨s,0,none⟩),.int .u64 (gen:Int)] 120:=⟨by rw[hw1];exact Blk.new w _ _,.inr rfl,λhp=>by have:=h.bd _ hp;omega,Nat.le_refl _⟩;have hG:=h.plusNew hP (Q:=λk=>k=w.heap.size) m0 (λk hk=>by omega);have HCK:=inCheck_any (c:=c) (s:=s) hN.env gen key v (.inr hv);rw[show checkK key v=none by unfold checkK;rw[if_neg (by rw[hkb];simp),if_neg (by omega)]] at HCK;have HPS:=oh (λ(G1:GA) (l1:List Nat) (o:OutA) (h:putS G l gen root key v=.inl (G1,l1,o))=>putS_mid hc hT hu hkb hv h);have HPR:=oh (putR_eq (G:=G) (l:=l) (gen:=gen) (root:=root) hkb hv);have HC:=oh hc;have HT:=oh hT;have HU:=oh hu;have HB1:=oh hB;have HN1:=oh hN;have HG1:=oh hG;have HFW:=oh (λk (hk:F k)=>hL.lt k hk);have HW1:=oh hw1;unfold pgV at HCK ⊢;have HCK:=oh HCK;clear hL hP h m0 hN hB hG hc hT hu hw1
 go_enter Tryz.func54, Tryz.ntmps54
 go_wp2_with fail;rw[← HW1.out];refine HCK.out.mono ?_;rintro e w2 ⟨ev,rfl,hE,hm2⟩;cases hE
 have hN2:=HN1.out.trans (Nxt.ext HN1.out.env HN1.out.sub hm2);have hz2:=hm2.size;obtain⟨g1,g2,g3⟩:=grow1 (w0:=w) hN2 (HG1.out.at hm2) outZc 169 (by omega);obtain⟨w3,hw3⟩:∃w3,w3=w2.alloc (.cells outZc 169):=⟨_,rfl⟩;obtain⟨X,hX⟩:∃X,X=w2.heap.size:=⟨_,rfl⟩;obtain⟨F3,hF3⟩:∃F3:Nat→Prop,F3=λk=>(F k∨k=w.heap.size)∨k=w2.heap.size:=⟨_,rfl⟩
 rw[← hF3,← hw3] at g1 g2 g3;rw[← hX] at g3;have HN3:=oh (hN2.trans g1);have HG3:=oh g2;have HX3:=oh g3;have HB3:=oh ((HB1.out.ext hm2).nxt g1);have HXZ:Hid (w.heap.size<X):=oh (by omega);have b0:=HB3.out.blk.cell (o:=0) rfl;have b1:=HB3.out.blk.cell (o:=1) rfl;have b2:=HB3.out.blk.cell (o:=2) rfl;have x0:=HX3.out.blk.cell (o:=0) rfl;have x1:=HX3.out.blk.cell (o:=1) rfl;have x2:=HX3.out.blk.cell (o:=2) rfl;have x3:=HX3.out.blk.cell (o:=3) rfl;have x4:=HX3.out.blk.cell (o:=4) rfl;have xf:=HX3.out.blk.frozen;have HW3:=oh hw3;have HXD:=oh hX;clear hN2 g1 g2 g3 hw3 hX hF3 hm2 hz2;go_upto_if 23 with fail
 rw[← HXD.out,← HW3.out];go_cut [13] (λv13 wx=>∃ev,v13=ev∧Hid (QSt F P ad w c s gen X G l (putS G l gen root key v) ev wx))
 case first =>
  by_cases hr:root=0
  ·subst hr;have hlo:LeafOk G l gen 0 leaf0 key v:=leafOk_of (ps:=[]) (q:=[]) HC.out (.inl rfl) rfl rfl (by unfold weightN leaf0;have:=HC.out.s256;simp[sumE,sumK];omega) .nil hkb hv List.nodup_nil (λk hk=>by simp at hk) (λh=>absurd rfl h) (by omega);have HLF:=insLeaf_any (w:=w3) leaf0 key v HN3.out.env HN3.out.sub HG3.out gen 0 hgen (.slice none 0 0) (.slice none 0 0) (.slice none 0 0) (Sl.nil _ _ _ _) (Sl.nil _ _ _ _) (Sl.nil _ _ _ _) hlo;have HPZ:Hid (putS G l gen 0 key v=leafA G l gen 0 leaf0 key v):=oh (by unfold putS;rw[if_pos rfl]);unfold pgV at HLF;rw[show ((0:Nat):Int)=0 from rfl] at HLF ⊢;have HLF:=oh HLF;clear hlo;go_wp2_with fail;refine HLF.out.mono ?_;rintro e w9 hq;obtain⟨P9,F9,G9,l9,o,ev,hG9,hN9,rfl,hr9⟩:=hq.q;have hX9:=HX3.out.nxt hN9;have HB9:=oh (HB3.out.nxt hN9);have x0:=hX9.blk.cell (o:=0) rfl;have x1:=hX9.blk.cell (o:=1) rfl;have x2:=hX9.blk.cell (o:=2) rfl;have x3:=hX9.blk.cell (o:=3) rfl;have x4:=hX9.blk.cell (o:=4) rfl;have xf:=hX9.blk.frozen;have mX:=Mods.set5 (F:=λk=>k=X) (Mods.refl _ w9) (R:=X) (.inr rfl) (.int .i64 (o.id0:Int)) (.int .i64 (o.id1:Int)) (.string o.key) (.bool o.two) (.bool o.news);have hmF:=hX9.mF mX;have HQ:Hid (QSt F P ad w c s gen X G l (putS G l gen 0 key v) ev (((((w9.setCell ⟨X,0,none⟩ (.int .i64 (o.id0:Int))).setCell ⟨X,1,none⟩ (.int .i64 (o.id1:Int))).setCell ⟨X,2,none⟩ (.string o.key)).setCell ⟨X,3,none⟩ (.bool o.two)).setCell ⟨X,4,none⟩ (.bool o.news))):=oh (by
    refine⟨P9,F9,G9,l9,o,hG9.var hX9 mX,(HN3.out.trans hN9).var hX9 mX,HB9.out.other mX (by have:=HXZ.out;omega),⟨hX9.blk.set5 _ _ _ _ _,hX9.f,hX9.p,hX9.new⟩,?_⟩;rw[HPZ.out];rcases hr9 with h9|⟨k,f9,el,h1,h2,h3,h4⟩
    ·exact .inl h9
    ·exact .inr ⟨k,f9,el,h1,h2,h3,h4.mods hmF⟩)
   clear hq hG9 hN9 hr9 hX9 mX hmF;go_wp2_with fail;go_meet;exact⟨ev,rfl,HQ⟩
  ·have hri:¬ (root:Int)=0:=by omega
   have hT2:1≤d∧TrD G gen d e0 none root ps pgs:=by
    rcases HT.out.tree with ⟨h,_⟩|h
    ·exact absurd h hr
    ·exact h
   have hd7:=(HT.out.few HC.out.b256).2;have HLF:=insPut_any (w:=w3) hgen hkb hv d 16 root e0 none ps pgs 1 HN3.out.env HN3.out.sub HG3.out HC.out hT2.2 HT.out.nodup HU.out (inB_all key) (by omega) (by omega) (by omega) hco;have HPZ:Hid (putS G l gen root key v=putA gen key v 16 G l root):=oh (by unfold putS;rw[if_neg hr]);unfold pgV at HLF;rw[show ((1:Nat):Int)=1 from rfl] at HLF;have HLF:=oh HLF;clear hT2 hd7 hr;go_wp2_with fail;refine HLF.out.mono ?_;rintro e w9 hq;obtain⟨P9,F9,G9,l9,o,ev,hG9,hN9,rfl,hr9⟩:=hq.q;have hX9:=HX3.out.nxt hN9;have HB9:=oh (HB3.out.nxt hN9);have x0:=hX9.blk.cell (o:=0) rfl;have x1:=hX9.blk.cell (o:=1) rfl;have x2:=hX9.blk.cell (o:=2) rfl;have x3:=hX9.blk.cell (o:=3) rfl;have x4:=hX9.blk.cell (o:=4) rfl;have xf:=hX9.blk.frozen;have mX:=Mods.set5 (F:=λk=>k=X) (Mods.refl _ w9) (R:=X) (.inr rfl) (.int .i64 (o.id0:Int)) (.int .i64 (o.id1:Int)) (.string o.key) (.bool o.two) (.bool o.news);have hmF:=hX9.mF mX;have HQ:Hid (QSt F P ad w c s gen X G l (putS G l gen root key v) ev (((((w9.setCell ⟨X,0,none⟩ (.int .i64 (o.id0:Int))).setCell ⟨X,1,none⟩ (.int .i64 (o.id1:Int))).setCell ⟨X,2,none⟩ (.string o.key)).setCell ⟨X,3,none⟩ (.bool o.two)).setCell ⟨X,4,none⟩ (.bool o.news))):=oh (by
    refine⟨P9,F9,G9,l9,o,hG9.var hX9 mX,(HN3.out.trans hN9).var hX9 mX,HB9.out.other mX (by have:=HXZ.out;omega),⟨hX9.blk.set5 _ _ _ _ _,hX9.f,hX9.p,hX9.new⟩,?_⟩;rw[HPZ.out];rcases hr9 with h9|⟨k,f9,el,h1,h2,h3,h4⟩
    ·exact .inl h9
    ·exact .inr ⟨k,f9,el,h1,h2,h3,h4.mods hmF⟩)
   clear hq hG9 hN9 hr9 hX9 mX hmF;go_wp2_with fail;go_meet;exact⟨ev,rfl,HQ⟩
 obtain⟨ev,rfl,HQ⟩:=hcut;obtain⟨w4,hw4⟩:∃w4,w4=wc:=⟨_,rfl⟩;rw[← hw4] at HQ ⊢;obtain⟨P4,F4,G4,l4,o,hG4,hN4,hB4,hX4,hr⟩:=HQ.out;have HG4:=oh hG4;have HN4:=oh hN4;have HB4:=oh hB4;have HX4:=oh hX4;have b0:=hB4.blk.cell (o:=0) (v:=.pointer (some ⟨c,0,none⟩)) rfl;have b1:=hB4.blk.cell (o:=1) (v:=.pointer (some ⟨s,0,none⟩)) rfl;have b2:=hB4.blk.cell (o:=2) (v:=.int .u64 (gen:Int)) rfl;have x0:=hX4.blk.cell (o:=0) (v:=.int .i64 (o.id0:Int)) rfl;have x1:=hX4.blk.cell (o:=1) (v:=.int .i64 (o.id1:Int)) rfl;have x2:=hX4.blk.cell (o:=2) (v:=.string o.key) rfl;have x3:=hX4.blk.cell (o:=3) (v:=.bool o.two) rfl;have x4:=hX4.blk.cell (o:=4) (v:=.bool o.news) rfl;clear hG4 hN4 hB4 hX4 hw4 xf HQ;rcases hr with ⟨hs,rfl⟩|⟨k,f4,el,hs,hfr,rfl,hE⟩
 ·have HS:=oh hs;have HPM:=oh (HPS.out _ _ _ hs);obtain⟨tw,htw⟩:∃tw,o.two=tw:=⟨_,rfl⟩;rw[htw] at x3;have HTW:=oh htw;clear hs htw;cases tw with
  | false =>
   go_wp2_with fail;go_quiet (fail)
   go_wp2_with fail;refine bodyPost_ret (v:=.tuple #[.int .i64 (o.id0:Int),.bool o.news,.nilIface]) (by simp[results,Tryz.results54,go_sem]) rfl ?_;exact⟨P4,F4,G4,l4,HG4.out.at ((Mods.refl _ _).drewN _),HN4.out.trans (Nxt.ext HN4.out.env HN4.out.sub ((Mods.refl _ _).drewN _)),.inl ⟨o.id0,o.news,by rw[HPR.out,HS.out];simp only;rw[if_pos HTW.out],rfl⟩⟩
  | true =>
   obtain⟨w5,hw5⟩:∃w5,w5=(w4.alloc (.cells #[.string o.key] 9)).drew:=⟨_,rfl⟩;have m5:Ext w4 w5:=by rw[hw5];exact ((Mods.refl _ _).alloc _).drew
   obtain⟨hc4,hf4,hco4,hk4⟩:=HPM.out;have hX5:=HX4.out.ext m5;have hne:∀k,P4 k→F4 k∧k≠X:=λk hk=>⟨HN4.out.sub k hk,λe=>HX4.out.p (e ▸ hk)⟩
   have hkx:=(keyB_iff _).1 (hk4 HTW.out);have hsl1:Sl (λk=>F4 k∧k≠X) w5 1 encS (.slice (some ⟨w4.heap.size,0,none⟩) 1 1) [o.key]:=by
    have h1:Sl (λk=>F4 k∧k≠X) (w4.alloc (.cells #[.string o.key] 9)) 1 encS (.slice (some ⟨w4.heap.size,0,none⟩) 1 1) [o.key]:=Sl.one (t := 9) (fz:=(0,0)) (heap_at rfl) (λf=>Nat.lt_irrefl _ (HN4.out.env.lt _ f.1));rw[hw5];exact h1.ext (Mods.refl _ _).drew
   have hsl2:Sl (λk=>F4 k∧k≠X) w5 1 encI (.slice (some ⟨X,0,none⟩) 2 2) [(o.id0:Int),(o.id1:Int)]:=Sl.ids hX5.blk.lt (λh=>h.2 rfl) (hX5.blk.cell (o:=0) rfl) (hX5.blk.cell (o:=1) rfl);have HDN:=down_any (w:=w5) ((HN4.out.env.mods m5.ext).anti (λk h=>h.1)) hne ((HG4.out.at m5).anti (λk h=>h.1)) gen 0 hgen (rootA o) (.slice none 0 0) (.slice (some ⟨w4.heap.size,0,none⟩) 1 1) (.slice (some ⟨X,0,none⟩) 2 2) (Sl.nil _ _ _ _) hsl1 hsl2
    (λhr=>by have h1:=weight_len (form_right hr);have h2:weightN (rootA o)≤100:=by { unfold weightN rootA;simp[sumE,sumK];omega };omega) (.inl rfl) (.inl rfl) (by omega) (by have:=hc4.len;omega) (by omega)
   unfold pgV at HDN;rw[show ((0:Nat):Int)=0 from rfl,show (rootA o).leaf=false from rfl,hw5] at HDN;have HDN:=oh HDN;have HNE:=oh hne;have HF4:=oh hf4;have b0a:=cell_alloc b0 (.cells #[.string o.key] 9);have b1a:=cell_alloc b1 (.cells #[.string o.key] 9);have b2a:=cell_alloc b2 (.cells #[.string o.key] 9);have x2a:=cell_alloc x2 (.cells #[.string o.key] 9);have ne0:=World.new_ne w4 _ b0;have ne1:=World.new_ne w4 _ b1;have ne2:=World.new_ne w4 _ b2;have ne3:=World.new_ne w4 _ x2;clear hc4 hf4 hco4 hk4 hX5 hne hkx hsl1 hsl2;rw[hw5] at m5;have M5:=oh m5;clear m5 hw5;go_wp2_with fail;go_region_held3 (λw'=>w'.cell? ⟨w.heap.size,0,none⟩=some (.pointer (some ⟨c,0,none⟩))∧w'.cell? ⟨w.heap.size,1,none⟩=some (.pointer (some ⟨s,0,none⟩))∧w'.cell? ⟨w.heap.size,2,none⟩=some (.int .u64 (gen:Int))∧w'.cell? ⟨X,2,none⟩=some (.string o.key))
    (first|(with_reducible exact⟨b0,b1,b2,x2⟩)|(with_reducible exact⟨b0a,b1a,b2a,x2a⟩)|(with_reducible exact⟨y0,y1,y2,y3⟩)|go_keep)
    (first
     | (go_at_call 93;refine (HDN.out).mono ?_;rintro e w9 ⟨P9,F9,hG9,hN9,hr9⟩;obtain⟨iv,ev,rfl⟩:=hr9.form;have hB9:=(HB4.out.ext M5.out);have y0:=cellP hN9.stp.mods (hB9.blk.cell (o:=0) (v:=.pointer (some ⟨c,0,none⟩)) rfl) HB4.out.p;have y1:=cellP hN9.stp.mods (hB9.blk.cell (o:=1) (v:=.pointer (some ⟨s,0,none⟩)) rfl) HB4.out.p;have y2:=cellP hN9.stp.mods (hB9.blk.cell (o:=2) (v:=.int .u64 (gen:Int)) rfl) HB4.out.p;have y3:=cellP hN9.stp.mods ((HX4.out.ext M5.out).blk.cell (o:=2) (v:=.string o.key) rfl) HX4.out.p)
     | fail)
   have hn9:=Nxt.less (HN4.out.trans (Nxt.ext HN4.out.env HN4.out.sub M5.out)) hN9 (λk hk=>⟨HN4.out.grow k hk,λe=>by have:=HFW.out k hk;have:=HXZ.out;omega⟩) (λk h=>h.1);have x4:=(hN9.blk (HX4.out.ext M5.out).blk HX4.out.p).cell (o:=4) (v:=.bool o.news) rfl;have HN9:=oh hn9;have HG9:=oh hG9;clear hN9 hG9 hn9 hB9 y0 y1 y2 y3 b0 b1 b2 x0 x1 x2 x3 b0a b1a b2a x2a ne0 ne1 ne2 ne3;rcases hr9 with ⟨i,hi,he⟩|⟨hno,f,el,he,hE⟩
   ·obtain⟨rfl,rfl⟩:iv=.int .i64 (i:Int)∧ev=.nilIface:=by simpa using he
    have HI:=oh hi;clear hi he;go_wp2_with fail;go_quiet (fail)
    go_wp2_with fail;refine bodyPost_ret (v:=.tuple #[.int .i64 (i:Int),.bool o.news,.nilIface]) (by simp[results,Tryz.results54,go_sem]) rfl ?_;exact⟨P9,F9,_,_,HG9.out.at ((Mods.refl _ _).drewN _),HN9.out.trans (Nxt.ext HN9.out.env HN9.out.sub ((Mods.refl _ _).drewN _)),.inl ⟨i,o.news,by rw[HPR.out,HS.out];simp only;rw[if_neg (by rw[HTW.out];simp),HI.out],rfl⟩⟩
   ·obtain⟨rfl,rfl⟩:iv=.int .i64 0∧ev=faultV f:=by simpa using he
    have HNO:=oh hno;have HE:=oh hE;clear hno hE he;go_wp2_with fail;refine (wrap_any HN9.out.env _ _ _ _ HE.out).mono ?_;rintro e w10 ⟨b,rfl,hE5,hm5⟩;have HE5:=oh hE5;have HM5:=oh hm5;clear hE5 hm5;go_wp2_with fail;refine bodyPost_ret (v:=.tuple #[.int .i64 0,.bool false,faultV b]) (by simp[results,Tryz.results54,go_sem]) rfl ?_;refine⟨P9,F9,_,_,HG9.out.at HM5.out,HN9.out.trans (Nxt.ext HN9.out.env HN9.out.sub HM5.out),.inr ⟨_,b,_,by rw[HPR.out,HS.out];simp only;rw[if_neg (by rw[HTW.out];simp),HNO.out],?_,rfl,HE5.out⟩⟩;rw[(downI_no0 HNO.out gen).1,(downI_no0 HNO.out gen).2];exact HF4.out
 ·have HS:=oh hs;have HE:=oh hE;have HFR:=oh hfr;clear hs hE hfr;go_wp2_with fail;refine (wrap_any HN4.out.env _ _ _ _ HE.out).mono ?_;rintro e w5 ⟨b,rfl,hE5,hm5⟩;have HE5:=oh hE5;have HM5:=oh hm5;clear hE5 hm5;go_wp2_with fail;refine bodyPost_ret (v:=.tuple #[.int .i64 0,.bool false,faultV b]) (by simp[results,Tryz.results54,go_sem]) rfl ?_;exact⟨P4,F4,G4,l4,HG4.out.at HM5.out,HN4.out.trans (Nxt.ext HN4.out.env HN4.out.sub HM5.out),.inr ⟨k,b,_,by rw[HPR.out,HS.out],HFR.out,rfl,HE5.out⟩⟩
end
end
section
open Go.RowKit
section
variable {n:Nat}{G:GA}{l:List Nat}{root d:Nat}{ps:List PairS}{pgs:List Nat}
theorem putR_cost{G':GA}{l':List Nat}{r:Nat × Bool}{gen:Nat}{key v:ByteArray}(hc:CtxG G l)(hT:TD G gen root d ps pgs)(hu:UseL l (λk=>k∈pgs))(hkb:keyB key=true)(hv:v.size≤4096)(h:putR G l gen root key v=.inl (G',l',r)):G'.cost≤G.cost+61:=by
 rw[putR_eq hkb hv] at h;cases hs:putS G l gen root key v with
 | inr k=>rw[hs] at h;cases h
 | inl x =>
  obtain⟨G1,l1,o⟩:=x;obtain⟨_,_,h3,_⟩:=putS_mid hc hT hu hkb hv hs;rw[hs] at h;simp only at h;split at h
  ·injection h with h;injection h with h _;subst h;omega
  ·split at h
   ·cases h
   ·injection h with h;injection h with h _;subst h;have:=(downG_lim G1 l1 gen 0 (rootA o)).2.2;omega
end
section
variable {G G':GA}{gen:Nat}
theorem Kids.each{T:TreeT}{lo:ByteArray}{hi:Option ByteArray}{kk:List ByteArray}{cc:List Int}{ps:List PairS}{q:List Nat}(h:Kids T lo hi kk cc ps q):∀c∈cc,∃(k:Nat) (lo':ByteArray) (hi':Option ByteArray) (l':List PairS) (q':List Nat),c=(k:Int)∧T lo' hi' k l' q'∧∀x∈q',x∈q:=by
 induction h with
 | @one lo hi c l q h =>
  intro c' hc;simp only[List.mem_singleton] at hc;exact⟨c,_,_,_,_,hc,h,λ_ hx=>hx⟩
 | @cons lo hi s c keys kids l1 l2 q1 q2 h1 _ _ ih =>
  intro c' hc;rcases List.mem_cons.1 hc with rfl|hc
  ·exact⟨c,_,_,_,_,rfl,h1,λ_ hx=>List.mem_append_left _ hx⟩
  ·obtain⟨k,lo',hi',l',q',e,t,hs⟩:=ih c' hc;exact⟨k,lo',hi',l',q',e,t,λx hx=>List.mem_append_right _ (hs x hx)⟩
end
def FatP(o:Option (PageA ⊕ (List Int × Nat))):Prop:=∀p n,o=some (.inl p)→decodeA p=.inl n→n.leaf=true→2≤n.entries.length
def InU(l:List Nat)(i:Nat):Prop:=l[i]? = some 1∨l[i]? = some 2
def Wr(G:GA)(l:List Nat)(G1:GA)(l1:List Nat):Prop:=∀i,2≤i→InU l1 i→(G1.view i=G.view i∧InU l i)∨FatP (G1.view i)
section
variable {G G1 G2:GA}{l l1 l2:List Nat}{gen:Nat}
theorem Wr.refl(G:GA)(l:List Nat):Wr G l G l:=λ_ _ h=>.inl ⟨rfl,h⟩
theorem Wr.trans(h:Wr G l G1 l1)(k:Wr G1 l1 G2 l2):Wr G l G2 l2:=λi h2 hu=>by
 rcases k i h2 hu with ⟨k1,k2⟩|k1
 ·rcases h i h2 k2 with ⟨h1,h3⟩|h1
  ·exact .inl ⟨k1.trans h1,h3⟩
  ·exact .inr (by rw[k1];exact h1)
 ·exact .inr k1
theorem cut_two{n a b:NodeA}{k:ByteArray}(h:cutA n=some (a,k,b))(hl:n.leaf=true)(hw:232<weightN n):2≤a.entries.length∧2≤b.entries.length:=by
 have hr:rightN n=true:=by
  unfold cutA at h;split at h
  ·rename_i h1;exact h1.1
  ·cases h
 have hf:=form_right hr;have hM:∀e∈n.entries,weightE e≤59:=λe he=>rightE_wt (rightN_ents hr e he)
 obtain⟨_,_,hww⟩:=apart_wtL (a:=0) hl hf;have hs:=sumE_le n.entries hM;have hlen:4≤n.entries.length:=by omega
 obtain⟨L,hL⟩:∃L,n.entries.length=L+2:=⟨n.entries.length-2,by omega⟩;have hel:∀k,k<n.entries.length→∃e,n.entries[k]? = some e∧weightE e≤59∧0≤weightE e∧sumE (n.entries.take (k+1))=sumE (n.entries.take k)+weightE e:=λk hk=>by
  refine⟨n.entries[k],List.getElem?_eq_getElem hk,hM _ (List.getElem_mem hk),?_,sumE_snoc (List.getElem?_eq_getElem hk)⟩;have:=weightE_nonneg n.entries[k];omega
 have h0:sumE (n.entries.take 0)=0:=by simp[sumE]
 have hall:sumE (n.entries.take n.entries.length)=sumE n.entries:=by rw[List.take_length]
 obtain⟨x,a1,a2,a3,a4⟩:=near_zero (λa=>2 * sumE (n.entries.take a)-sumE n.entries) 59 1 L (by
  obtain⟨e,_,e2,e3,e4⟩:=hel 0 (by omega);have:=sumE_take_le n.entries 1;simp only[Nat.zero_add] at e4;show 2 * sumE (n.entries.take 1)-sumE n.entries≤59;omega) (by
  obtain⟨e,_,e2,e3,e4⟩:=hel (1+L) (by omega);rw[show 1+L+1=n.entries.length by omega,hall] at e4;have:=sumE_nonneg (n.entries.take (1+L));show -59≤2 * sumE (n.entries.take (1+L))-sumE n.entries;omega) (λk k1 k2=>by
  obtain⟨e,_,e2,e3,e4⟩:=hel k (by omega);show 2 * sumE (n.entries.take (k+1))-sumE n.entries-(2 * sumE (n.entries.take k)-sumE n.entries)≤2 * 59;omega)
 have hp:PlaceN n x:=⟨λ_=>by omega,λhc=>(by rw[hl] at hc;cases hc)⟩;have hu:=unlike_eq hf hp;obtain⟨w1,w2,_⟩:=apart_wtL (a:=x) hl hf;obtain⟨y,b1,b2,b3,b4⟩:=cut_best hr hf hp (M:=59) (by split at hu <;> omega);obtain⟨v1,v2,_⟩:=apart_wtL (a:=y) hl hf;rw[cutA_at,b2] at h;have h:apartA n y=(a,k,b):=Option.some.inj h;have hA:a.entries=n.entries.take y:=by
  have:a=(apartA n y).1:=by rw[h]
  rw[this,apart_leafA hl]
 have hB:b.entries=n.entries.drop y:=by
  have:b=(apartA n y).2.2:=by rw[h]
  rw[this,apart_leafB hl]
 have s1:=sumE_le (n.entries.take y) (λe he=>hM e (List.mem_of_mem_take he));have s2:=sumE_le (n.entries.drop y) (λe he=>hM e (List.mem_of_mem_drop he));have s3:=sumE_split n.entries y;rw[hA,hB];omega
theorem cut_leaf{n a b:NodeA}{k:ByteArray}(h:cutA n=some (a,k,b)):a.leaf=n.leaf∧b.leaf=n.leaf:=by
 rw[cutA_at] at h;obtain⟨y,_,hy⟩:=Option.map_eq_some_iff.1 h;have hA:a=(apartA n y).1:=by rw[hy]
 have hB:b=(apartA n y).2.2:=by rw[hy]
 rw[hA,hB,apart_kindA,apart_kindB];exact⟨rfl,rfl⟩
theorem give_in{id j:Nat}(h2:2≤j)(hu:InU (spGive l id).1 j):j≠id∧InU l j:=by
 unfold spGive at hu;by_cases e:j=id
 ·subst e;exfalso;by_cases hlt:j<l.length
  ·have:spCheck l (j:Int)=none:=by unfold spCheck;rw[if_neg (by omega)]
   rw[this] at hu;simp only[Int.toNat_natCast] at hu;split at hu
   ·unfold InU at hu;rw[List.getElem?_set_self hlt] at hu;simp at hu
   ·rename_i n2;split at hu
    ·unfold InU at hu;rw[List.getElem?_set_self hlt] at hu;simp at hu
    ·rename_i n1;exact hu.elim n1 n2
  ·have:spCheck l (j:Int)≠none:=by unfold spCheck;rw[if_pos (by omega)];simp
   cases hs:spCheck l (j:Int) with
   | none=>exact this hs
   | some er =>
    rw[hs] at hu;simp only at hu;unfold InU at hu;rw[List.getElem?_eq_none (by omega)] at hu;simp at hu
 ·refine⟨e,?_⟩;cases hs:spCheck l (id:Int) with
  | some er=>rw[hs] at hu;exact hu
  | none =>
   rw[hs] at hu;simp only[Int.toNat_natCast] at hu;unfold InU at hu ⊢;split at hu
   ·rw[List.getElem?_set_ne (λh=>e h.symm)] at hu;exact hu
   ·split at hu
    ·rw[List.getElem?_set_ne (λh=>e h.symm)] at hu;exact hu
    ·exact hu
theorem place_wr{old i:Nat}(hi:placeI l old=some i):∀j,2≤j→j≠i→InU (placeL l old) j→(placeG G l old).view j=G.view j∧InU l j:=by
 intro j h2 hj hu;have hset:InU (l.set i 2) j→InU l j:=λh=>by
  unfold InU at h ⊢;rw[List.getElem?_set_ne (λe=>hj e.symm)] at h;exact h
 unfold placeI at hi;unfold placeL at hu;unfold placeG;by_cases h0:old=0
 ·subst h0;rw[if_neg (by simp)] at hi;rw[if_pos rfl] at hu;rw[if_pos (.inl rfl)];unfold spTake at hu;rw[hi] at hu;exact⟨rfl,hset hu⟩
 ·by_cases hf:spFresh l old=true
  ·rw[if_neg h0,if_pos hf] at hu;rw[if_pos (.inr hf)];exact⟨rfl,hu⟩
  ·rw[if_neg (λh=>hf h.2)] at hi;rw[if_neg h0,if_neg hf,hi] at hu;rw[if_neg (by rintro (h|h);exact h0 h;exact hf h),if_neg (by rw[hi];simp)];obtain⟨e,hu⟩:=give_in h2 hu;rw[drop_view,if_neg e];exact⟨rfl,hset hu⟩
theorem downI_okK{old i:Nat}{n:NodeA}(h:downI G l old n=some i):downOk n G.size:=by
 unfold downI at h;split at h
 ·rename_i hd;exact hd
 ·cases h
theorem downG_size{gen:Nat}(G:GA)(l:List Nat)(old:Nat)(n:NodeA):(downG G l gen old n).size=G.size:=by
 unfold downG;split
 ·rfl
 ·show (placeG G l old).size=G.size;unfold placeG;split
  ·rfl
  ·split <;> rfl
theorem fat_node{n:NodeA}(hr:rightN n=true)(hn:n.leaf=true→2≤n.entries.length)(i gen:Nat):FatP (some (.inl ⟨kindA n,(i:Int),gen,bytesN n⟩)):=by
 intro p n' hp hd hl;have hp:(⟨kindA n,(i:Int),gen,bytesN n⟩:PageA)=p:=by injection hp with hp;injection hp
 subst hp;have:decodeA ⟨kindA n,(i:Int),gen,bytesN n⟩=.inl n:=by
  unfold decodeA;have hk:kindA n=3∨kindA n=2:=by unfold kindA;split <;> simp
  have hlf:decide (kindA n=3)=n.leaf:=by unfold kindA;cases n.leaf <;> rfl
  simp only;rw[if_pos hk,hlf,(getN_iff n.leaf (bytesN n) n).2 ⟨hr,rfl,rfl⟩]
 rw[this] at hd;injection hd with hd;subst hd;exact hn hl
theorem down_wr{old i:Nat}{n:NodeA}(hn:n.leaf=true→2≤n.entries.length)(hi:downI G l old n=some i):Wr G l (downG G l gen old n) (downL G l old n):=by
 have hok:=downI_okK hi;have hpl:placeI l old=some i:=by unfold downI at hi;rw[if_pos hok] at hi;exact hi
 have eG:downG G l gen old n=(placeG G l old).put ⟨kindA n,(i:Int),gen,bytesN n⟩:=by unfold downG;rw[hi]
 have eL:downL G l old n=placeL l old:=by unfold downL;rw[if_pos hok]
 rw[eG,eL];intro j h2 hu;rw[put_view];simp only[Int.toNat_natCast];by_cases e:j=i
 ·rw[if_pos e];exact .inr (fat_node hok.1 hn i gen)
 ·rw[if_neg e];exact .inl (place_wr hpl j h2 e hu)
theorem down_old{old i:Nat}{n:NodeA}(hn:n.leaf=true→2≤n.entries.length)(h2:2≤old)(hi:downI G l old n=some i)(hu:InU (downL G l old n) old):FatP ((downG G l gen old n).view old):=by
 have hok:=downI_okK hi;have hpl:placeI l old=some i:=by unfold downI at hi;rw[if_pos hok] at hi;exact hi
 have eG:downG G l gen old n=(placeG G l old).put ⟨kindA n,(i:Int),gen,bytesN n⟩:=by unfold downG;rw[hi]
 have eL:downL G l old n=placeL l old:=by unfold downL;rw[if_pos hok]
 rw[eL] at hu;rw[eG,put_view];simp only[Int.toNat_natCast];by_cases e:old=i
 ·rw[if_pos e];exact fat_node hok.1 hn i gen
 ·exfalso;unfold placeI at hpl;unfold placeL at hu;by_cases hf:spFresh l old=true
  ·rw[if_pos ⟨by omega,hf⟩] at hpl;exact e (Option.some.inj hpl)
  ·rw[if_neg (λh=>hf h.2)] at hpl;rw[if_neg (by omega),if_neg hf,hpl] at hu;exact (give_in h2 hu).1 rfl
theorem settle_old{old:Nat}{n:NodeA}{o:OutA}(h256:256≤G.size)(hn:n.leaf=true→2≤n.entries.length)(h2:2≤old)(h:settleA G l gen old n=.inl (G1,l1,o))(hu:InU l1 old):FatP (G1.view old):=by
 unfold settleA at h;split at h
 ·split at h
  ·rename_i i hi;simp only[Sum.inl.injEq,Prod.mk.injEq] at h;obtain⟨rfl,rfl,_⟩:=h;exact down_old hn h2 hi hu
  ·cases h
 ·rename_i hw;split at h
  ·cases h
  ·rename_i a k b hc;have hl:=cut_leaf hc;split at h
   ·split at h
    ·cases h
    ·rename_i i hi;split at h
     ·cases h
     ·rename_i j hj;simp only[Sum.inl.injEq,Prod.mk.injEq] at h;obtain⟨rfl,rfl,_⟩:=h;have hh:n.leaf=true→2≤a.entries.length∧2≤b.entries.length:=λhlf=>cut_two hc hlf (by omega)
      rcases down_wr (gen:=gen) (λe=>(hh (hl.2 ▸ e)).2) hj old h2 hu with ⟨w1,w2⟩|w1
      ·rw[w1];exact down_old (λe=>(hh (hl.1 ▸ e)).1) h2 hi w2
      ·exact w1
   ·cases h
theorem settle_wr{old:Nat}{n:NodeA}{o:OutA}(h256:256≤G.size)(hn:n.leaf=true→2≤n.entries.length)(h:settleA G l gen old n=.inl (G1,l1,o)):Wr G l G1 l1:=by
 unfold settleA at h;split at h
 ·split at h
  ·rename_i i hi;simp only[Sum.inl.injEq,Prod.mk.injEq] at h;obtain⟨rfl,rfl,_⟩:=h;exact down_wr hn hi
  ·cases h
 ·rename_i hw;split at h
  ·cases h
  ·rename_i a k b hc;have hl:=cut_leaf hc;split at h
   ·split at h
    ·cases h
    ·rename_i i hi;split at h
     ·cases h
     ·rename_i j hj;simp only[Sum.inl.injEq,Prod.mk.injEq] at h;obtain⟨rfl,rfl,_⟩:=h;have h2:n.leaf=true→2≤a.entries.length∧2≤b.entries.length:=λhlf=>cut_two hc hlf (by omega)
      exact (down_wr (gen:=gen) (λe=>(h2 (hl.1 ▸ e)).1) hi).trans (down_wr (λe=>(h2 (hl.2 ▸ e)).2) hj)
   ·cases h
theorem chPuts_at(v:List UInt8)(n:Nat)(ids:List Nat):∀(k:Nat) (G:GA),k≤ids.length→∀j,(j∈ids.take k→FatP ((chPuts gen v n ids k G).view j))∧(j ∉ ids.take k→(chPuts gen v n ids k G).view j=G.view j)
 | 0,G,_,j=>⟨λh=>by simp at h,λ_=>rfl⟩
 | k+1,G,hk,j=>by
  obtain⟨h1,h2⟩:=chPuts_at v n ids k G (by omega) j;have hkl:k<ids.length:=by omega
  have he:(chPage gen v n ids k).id.toNat=ids[k]:=by
   show (((ids.getD k 0:Nat):Int)).toNat=_;rw[Int.toNat_natCast];simp[List.getD,hkl]
  rw[chPuts,put_view,he,List.take_succ_eq_append_getElem hkl];by_cases e:j=ids[k]
  ·rw[if_pos e];refine⟨λ_ p n' hp hd _=>?_,λh=>absurd (List.mem_append.2 (.inr (by simp[e]))) h⟩;have hp:chPage gen v n ids k=p:=by injection hp with hp;injection hp
   subst hp;unfold decodeA at hd;rw[if_neg (by show ¬ ((4:Int)=3∨(4:Int)=2);omega)] at hd;cases hd
  ·rw[if_neg e];refine⟨λh=>?_,λh=>h2 (λhm=>h (List.mem_append.2 (.inl hm)))⟩;rcases List.mem_append.1 h with h|h
   ·exact h1 h
   ·exact absurd (List.mem_singleton.1 h) e
theorem entry_wr{key v:ByteArray}{e:EntryA}(h:entryP G l gen key v=.inl (G1,l1,e)):Wr G l G1 l1:=by
 unfold entryP at h;split at h
 ·simp only[Sum.inl.injEq,Prod.mk.injEq] at h;obtain⟨rfl,rfl,_⟩:=h;exact Wr.refl _ _
 ·split at h
  ·rename_i ids l2 ht;simp only[Sum.inl.injEq,Prod.mk.injEq] at h;obtain⟨rfl,rfl,_⟩:=h;have hT:=takeA_taken _ _ _ _ ht;intro j _ hu;obtain⟨k1,k2⟩:=chPuts_at (gen:=gen) v.data.toList (G.size-28) ids ids.length G (Nat.le_refl _) j;rw[List.take_length] at k1 k2;by_cases hj:j∈ids
   ·exact .inr (k1 hj)
   ·refine .inl ⟨k2 hj,?_⟩;unfold InU at hu ⊢;rw[hT.far j hj] at hu;exact hu
  ·cases h
theorem give_wr:∀(ids:List Nat) (G:GA) (l:List Nat),Wr G l (giveG G ids) (giveL l ids)
 | [],G,l=>Wr.refl G l
 | x :: ids,G,l=>by
  refine Wr.trans (G1:=G.drop x) (l1:=(spGive l x).1) (λj h2 hu=>?_) (give_wr ids (G.drop x) (spGive l x).1);obtain⟨e,hu2⟩:=give_in h2 hu;exact .inl ⟨by rw[drop_view,if_neg e],hu2⟩
theorem withE_len(n:NodeA)(key:ByteArray)(e:EntryA):n.entries.length≤(withE n key e).entries.length∧(entIs key n.entries=false→n.entries.length+1≤(withE n key e).entries.length):=by
 unfold withE;simp only[List.length_append,List.length_take,List.length_drop,List.length_cons,List.length_nil];refine⟨by split <;> omega,λh=>?_⟩;rw[if_neg (by rw[h];simp)];omega
theorem Ents.fat{es:List EntryA}{ps:List PairS}{q:List Nat}(h:Ents G gen es ps q):∀i∈q,FatP (G.view i):=by
 induction h with
 | nil=>intro i hi;simp at hi
 | @cons e0 x0 ids es0 l0 q0 _ h2 _ ih =>
  intro i hi;rcases List.mem_append.1 hi with hi|hi
  ·rcases h2 with ⟨_,_,rfl⟩|⟨_,h⟩
   ·simp at hi
   ·obtain⟨g,_,hp⟩:=h.page;obtain⟨k,hk,rfl⟩:=List.getElem_of_mem hi;have:=hp k hk;rw[show ids.getD k 0=ids[k] by simp[List.getD,hk]] at this;intro p n e hd _;rw[this] at e;injection e with e;injection e with e;subst e;unfold decodeA at hd;rw[if_neg (by show ¬ ((4:Int)=3∨(4:Int)=2);omega)] at hd;cases hd
  ·exact ih i hi
theorem giveG_size(ids:List Nat)(G:GA):(giveG G ids).size=G.size:=(giveG_same ids G).2.1
theorem entry_size{key v:ByteArray}{e:EntryA}(h:entryP G l gen key v=.inl (G1,l1,e)):G1.size=G.size:=by
 unfold entryP at h;split at h
 ·injection h with h;obtain⟨rfl,_⟩:=Prod.mk.inj h;rfl
 ·split at h
  ·injection h with h;obtain⟨rfl,_⟩:=Prod.mk.inj h;exact (chPuts_same _ _ _ _ _ _).2.1
  ·cases h
theorem settle_size{old:Nat}{n:NodeA}{o:OutA}(h:settleA G l gen old n=.inl (G1,l1,o)):G1.size=G.size:=by
 unfold settleA at h;split at h
 ·split at h
  ·injection h with h;obtain⟨rfl,_⟩:=Prod.mk.inj h;exact downG_size _ _ _ _
  ·cases h
 ·split at h
  ·cases h
  ·split at h
   ·split at h
    ·cases h
    ·split at h
     ·cases h
     ·injection h with h;obtain⟨rfl,_⟩:=Prod.mk.inj h;exact (downG_size _ _ _ _).trans (downG_size _ _ _ _)
   ·cases h
theorem leaf_size{id:Nat}{n:NodeA}{key v:ByteArray}{o:OutA}(h:leafA G l gen id n key v=.inl (G1,l1,o)):G1.size=G.size:=by
 unfold leafA at h;split at h
 ·cases h
 ·rename_i G2 l2 e he;split at h
  ·cases h
  ·rename_i G3 l3 o3 hs;simp only[Sum.inl.injEq,Prod.mk.injEq] at h;obtain⟨rfl,_⟩:=h;exact (settle_size hs).trans ((entry_size he).trans (giveG_size _ _))
theorem leaf_wr{id:Nat}{n:NodeA}{key v:ByteArray}{o:OutA}(h256:256≤G.size)(hn:2≤n.entries.length∨(1≤n.entries.length∧o.news=true))(h:leafA G l gen id n key v=.inl (G1,l1,o)):Wr G l G1 l1∧(2≤id→InU l1 id→FatP (G1.view id)):=by
 unfold leafA at h;split at h
 ·cases h
 ·rename_i G2 l2 e he;split at h
  ·cases h
  ·rename_i G3 l3 o3 hs;simp only[Sum.inl.injEq,Prod.mk.injEq] at h;obtain⟨rfl,rfl,h⟩:=h;have hw:=withE_len n key e;have hn2:2≤(withE n key e).entries.length:=by
    rcases hn with hn|⟨hn,hnw⟩
    ·omega
    ·have:entIs key n.entries=false:=by rw[← h] at hnw;simpa using hnw
     have:=hw.2 this;omega
   have hsz:G2.size=G.size:=(entry_size he).trans (giveG_size _ _);exact⟨((give_wr _ G l).trans (entry_wr he)).trans (settle_wr (by omega) (λ_=>hn2) hs),λh2 hu=>settle_old (by omega) (λ_=>hn2) h2 hs hu⟩
theorem joinA_leaf(n:NodeA)(i:Nat)(o:OutA):(joinA n i o).leaf=n.leaf:=by unfold joinA;split <;> rfl
theorem put_wr{key v:ByteArray}:∀(f d:Nat) (G:GA) (l:List Nat) (id:Nat) (lo:ByteArray) (hi:Option ByteArray) (ps:List PairS) (q:List Nat) (G1:GA) (l1:List Nat) (o:OutA),CtxG G l→TrD G gen d lo hi id ps q→(∀i∈q,FatP (G.view i))∨(d=1∧o.news=true)→putA gen key v f G l id=.inl (G1,l1,o)→G1.size=G.size∧Wr G l G1 l1∧(d=1→InU l1 id→FatP (G1.view id))
 | 0,_,_,_,_,_,_,_,_,_,_,_,_,_,_,h=>by unfold putA at h;cases h
 | f+1,0,_,_,_,_,_,_,_,_,_,_,_,hT,_,_=>hT.elim
 | f+1,d+1,G,l,id,lo,hi,ps,q,G1,l1,o,hc,hT,hF,h=>by
  obtain⟨n,q,hp,hr,rfl,hb⟩:=hT;have hld:=(pg_load hp).1;rw[putA,hld] at h;simp only at h;by_cases hl:n.leaf=true
  ·rw[if_pos hl] at h;refine⟨leaf_size h,(leaf_wr hc.s256 ?_ h).imp_right (λw _=>w hp.lo)⟩;rcases hF with hF|⟨_,hnw⟩
   ·obtain⟨p,h1,_,h3⟩:=hp.page;exact .inl (hF id List.mem_cons_self p n h1 h3 hl)
   ·refine .inr ⟨?_,hnw⟩;rcases hb with ⟨_,_,hne,he,_⟩|⟨h2,_⟩
    ·have:=he.len;rcases Nat.eq_zero_or_pos n.entries.length with h0|h0
     ·exact absurd (List.length_eq_zero_iff.1 (by omega)) hne
     ·exact h0
    ·rw[h2] at hl;cases hl
  ·rw[if_neg hl] at h;rcases hb with ⟨h2,_⟩|⟨h2,hk⟩
   ·exact absurd h2 hl
   ·have hd:¬ d=0:=λe=>by subst e;exact hk.pos
    have hF2:∀i∈id :: q,FatP (G.view i):=by
     rcases hF with hF|⟨h1,_⟩
     ·exact hF
     ·omega
    have hkid:n.kids.getD (kidAt key n.keys) 0∈n.kids:=by
     have hlen:=hk.len;have hka:kidAt key n.keys≤n.keys.length:=List.findIdx_le_length;have:kidAt key n.keys<n.kids.length:=by omega
     rw[show n.kids.getD (kidAt key n.keys) 0=n.kids[kidAt key n.keys] by simp[List.getD,this]];exact List.getElem_mem _
    obtain⟨k,lo',hi',l',q',e,t,hsub⟩:=hk.each _ hkid;rw[e,Int.toNat_natCast] at h;split at h
    ·cases h
    ·rename_i G2 l2 o2 hp2;split at h
     ·cases h
     ·rename_i G3 l3 o3 hs;simp only[Sum.inl.injEq,Prod.mk.injEq] at h;obtain⟨rfl,rfl,_⟩:=h;obtain⟨z1,w1,_⟩:=put_wr f d G l k lo' hi' l' q' G2 l2 o2 hc t (.inl (λi hi=>hF2 i (List.mem_cons_of_mem _ (hsub i hi)))) hp2;exact⟨(settle_size hs).trans z1,w1.trans (settle_wr (by have:=hc.s256;omega) (λhlf=>by rw[joinA_leaf,h2] at hlf;cases hlf) hs),λe=>absurd (show d=0 by omega) hd⟩
theorem with_one{x:PairS}{key v:ByteArray}(h:2≤(withP key v true [x]).length):(findP key [x]).isNone=true:=by
 unfold withP at h;split at h
 ·rename_i h1;have:x.1≠key:=ltS_ne h1;unfold findP;simp[this]
 ·split at h
  ·simp at h
  ·rename_i h2;unfold findP;simp[h2]
theorem putR_fat{root d r':Nat}{ps:List PairS}{pgs pgs':List Nat}{key v:ByteArray}{nw:Bool}(hc:CtxG G l)(hT:TD G gen root d ps pgs)(hin:∀i,6≤i→InU l i→i∈pgs)(hF:2≤ps.length→∀i∈pgs,FatP (G.view i))
  (hkb:keyB key=true) (hv:v.size≤4096) (hnw:nw=(findP key ps).isNone) (h:putR G l gen root key v=.inl (G1,l1,(r',nw))) (h6:∀i∈pgs',6≤i∧InU l1 i) (h2:2≤(withP key v true ps).length):∀i∈pgs',FatP (G1.view i):=by
 have key0:Wr G l G1 l1∧(2≤ps.length∨(ps.length=1∧∀i∈pgs,InU l1 i→FatP (G1.view i))):=by
  rcases hT.tree with ⟨rfl,rfl,rfl,rfl⟩|⟨hd,hT2⟩
  ·have:=withP_len key v true [];simp at this h2;omega
  ·have hne:=TrD.ne _ _ _ _ _ _ hT2;have hlen:2≤ps.length∨ps.length=1:=by
    have:=List.length_pos_iff.2 hne;omega
   have hroot:root≠0:=by
    obtain⟨r,hr⟩:=TrD.head _ _ _ _ _ _ hT2;have:=hT.lt root (by rw[hr];simp);omega
   have hchk:putCheck key v=none:=by unfold putCheck;rw[if_neg (by rw[hkb];simp),if_neg (by omega)]
   unfold putR at h;rw[hchk] at h;simp only at h;rw[if_neg hroot] at h;split at h
   ·cases h
   ·rename_i G2 l2 o hp;have hside:(∀i∈pgs,FatP (G.view i))∨(d=1∧o.news=true):=by
     rcases hlen with hl|hl
     ·exact .inl (hF hl)
     ·refine .inr ⟨?_,?_⟩
      ·have:=(TrD.count _ _ _ _ _ _ hT2).2.1;rw[hl] at this;rcases Nat.lt_or_ge 1 d with hlt|hge
       ·have:2 ^ 1≤2 ^ (d-1):=Nat.pow_le_pow_right (by omega) (by omega);omega
       ·omega
      ·obtain⟨x,rfl⟩:∃x,ps=[x]:=List.length_eq_one_iff.1 hl;have hnn:=with_one h2;have:o.news=nw:=by
        split at h
        ·injection h with h;simp only[Prod.mk.injEq] at h;exact h.2.2.2
        ·split at h
         ·cases h
         ·injection h with h;simp only[Prod.mk.injEq] at h;exact h.2.2.2
       rw[this,hnw];exact hnn
    obtain⟨z1,w1,w3⟩:=put_wr 16 d G l root e0 none ps pgs G2 l2 o hc hT2 hside hp;have hw:Wr G2 l2 G1 l1:=by
     split at h
     ·injection h with h;simp only[Prod.mk.injEq] at h;obtain⟨rfl,rfl,_⟩:=h;exact Wr.refl _ _
     ·split at h
      ·cases h
      ·rename_i i hi;injection h with h;simp only[Prod.mk.injEq] at h;obtain⟨rfl,rfl,_⟩:=h;exact down_wr (λhlf=>by cases hlf) hi
    refine⟨w1.trans hw,hlen.imp id (λhl=>⟨hl,λi hi hu=>?_⟩)⟩;have hd1:d=1:=by
     have:=(TrD.count _ _ _ _ _ _ hT2).2.1;rw[hl] at this;rcases Nat.lt_or_ge 1 d with hlt|hge
     ·have:2 ^ 1≤2 ^ (d-1):=Nat.pow_le_pow_right (by omega) (by omega);omega
     ·omega
    subst hd1;obtain⟨n,q,hpn,hr,rfl,hb⟩:=hT2;have hfq:FatP (G.view i)∨i=root:=by
     rcases List.mem_cons.1 hi with e|hi
     ·exact .inr e
     ·rcases hb with ⟨_,_,_,he,_⟩|⟨_,hk⟩
      ·exact .inl (he.fat i hi)
      ·exact hk.pos.elim
    rcases (w1.trans hw) i (hT.lt i hi).1 hu with ⟨x1,_⟩|x1
    ·rcases hfq with hfq|rfl
     ·rw[x1];exact hfq
     ·rcases hw i (hT.lt i hi).1 hu with ⟨y1,y2⟩|y1
      ·rw[y1];exact w3 rfl y2
      ·exact y1
    ·exact x1
 intro i hi;obtain⟨i6,iu⟩:=h6 i hi;rcases key0.1 i (by omega) iu with ⟨w1,w2⟩|w1
 ·rcases key0.2 with hl|hl
  ·rw[w1];exact hF hl i (hin i i6 w2)
  ·exact hl.2 i (hin i i6 w2) iu
 ·exact w1
end
theorem sumR_congr{f g:Nat→Int}:∀n,(∀i,i<n→f i=g i)→sumR f n=sumR g n
 | 0,_=>rfl
 | n+1,h=>by rw[sumR,sumR,sumR_congr n (λi hi=>h i (by omega)),h n (by omega)]
theorem sumR_ones:∀n,sumR (λ_=>1) n=n
 | 0=>rfl
 | n+1=>by rw[sumR,sumR_ones n];omega
def layK(pgs pgs0:List Nat)(i:Nat):Nat:=if i<6 then 1 else if i∈pgs then (if i∈pgs0 then 1 else 2) else if i∈pgs0 then 3 else 0
structure LawnK(n g:Nat)(G:GA)(l:List Nat)(root d:Nat)(ps:List PairS)(pgs pgs0:List Nat):Prop where
 ctx:CtxG G l
 td:TD G g root d ps pgs
 blk:G.blocks=n
 size:G.size=256
 len:l.length=n
 n16:16≤n
 lay:∀i,i<n→l[i]? = some (layK pgs pgs0 i)
 hi:∀i∈pgs,6≤i
 hi0:∀i∈pgs0,6≤i∧i<n
 nd0:pgs0.Nodup
 val:∀x∈ps,x.2.size≤400
section
variable {n g:Nat}{G:GA}{l:List Nat}{root d:Nat}{ps:List PairS}{pgs pgs0:List Nat}
theorem LawnK.low(h:LawnK n g G l root d ps pgs pgs0):∀i,i<6→l[i]? = some 1:=λi hi=>by
 rw[h.lay i (by have:=h.n16;omega)];unfold layK;rw[if_pos hi]
theorem LawnK.use(h:LawnK n g G l root d ps pgs pgs0):UseL l (λk=>k∈pgs):=λi hi=>by
 have hb:=h.td.lt i hi;have h6:=h.hi i hi;have:=h.lay i (by have:=h.blk;omega);unfold layK at this;rw[if_neg (by omega),if_pos hi] at this;by_cases h0:i∈pgs0
 ·rw[if_pos h0] at this;exact .inl this
 ·rw[if_neg h0] at this;exact .inr this
theorem LawnK.phi(h:LawnK n g G l root d ps pgs pgs0):phiL l+(pgs.length:Int)+(pgs0.length:Int)+12=(n:Int):=by
 have e:=phi_sum l l.length (Nat.le_refl _);rw[List.take_length,h.len] at e;have hp:∀i∈pgs,i<n:=λi hi=>by have:=h.td.lt i hi;rw[h.blk] at this;exact this.2
 have h6:sumR (λi=>if i∈List.range 6 then 1 else 0) n=((List.range 6).length:Nat):=sumR_in _ n List.nodup_range (λi hi=>by have:=List.mem_range.1 hi;have:=h.n16;omega);have e1:=sumR_in pgs n h.td.nodup hp;have e2:=sumR_in pgs0 n h.nd0 (λi hi=>(h.hi0 i hi).2);have hs:sumR (λi=>wtL l[i]? + (if i∈pgs then 1 else 0)+(if i∈pgs0 then 1 else 0)+((if i∈List.range 6 then 1 else 0)+(if i∈List.range 6 then 1 else 0))) n=sumR (λ_=>1) n:=sumR_congr n (λi hi=>by
  rw[h.lay i hi];unfold wtL layK;by_cases i6:i<6
  ·have a1:i ∉ pgs:=λhm=>by have:=h.hi i hm;omega
   have a2:i ∉ pgs0:=λhm=>by have:=(h.hi0 i hm).1;omega
   simp[i6,a1,a2]
  ·by_cases a1:i∈pgs
   ·by_cases a2:i∈pgs0 <;> simp[i6,a1,a2]
   ·by_cases a2:i∈pgs0 <;> simp[i6,a1,a2])
 rw[sumR_add,sumR_add,sumR_add,sumR_add,sumR_ones,← e,e1,e2,h6,List.length_range] at hs;omega
theorem LawnK.put(h:LawnK n g G l root d ps pgs pgs0){key v:ByteArray}(hkb:keyB key=true)(hv:v.size≤400) :
  (putR G l g root key v=.inr 3∧phiL l≤(ndV G.size v:Nat)+d+1) ∨
  ∃G' l' root' d' pgs',putR G l g root key v=.inl (G',l',(root',(findP key ps).isNone))∧LawnK n g G' l' root' d' (withP key v true ps) pgs' pgs0∧G'.cost≤G.cost+61∧2≤root' ∧
   ((2≤ps.length→∀i∈pgs,FatP (G.view i))→2≤(withP key v true ps).length→∀i∈pgs',FatP (G'.view i))∧Upd G l (λk=>k∈pgs) G' l' (λk=>k∈pgs'):=by
 rcases putR_tr h.ctx h.td h.use hkb (show v.size≤4096 by omega) with a|⟨G',l',root',d',pgs',a1,a2,a3,a4,a5,a6,a7⟩
 ·exact .inl a
 ·have hll:∀i∈pgs',i<n:=λi hi=>by have:=(a3.lt i hi).2;rw[a2.bl,h.blk] at this;exact this
  have hzero:∀i,i<n→l[i]? = some 0→6≤i∧i ∉ pgs∧i ∉ pgs0:=λi hi h0=>by
   have hl:=h.lay i hi;rw[h0] at hl;unfold layK at hl;by_cases h6:i<6
   ·rw[if_pos h6] at hl;simp at hl
   ·rw[if_neg h6] at hl;by_cases h1:i∈pgs
    ·rw[if_pos h1] at hl;split at hl <;> simp at hl
    ·rw[if_neg h1] at hl;by_cases h2:i∈pgs0
     ·rw[if_pos h2] at hl;simp at hl
     ·exact⟨by omega,h1,h2⟩
  have h6':∀i∈pgs',6≤i:=λi hi=>by
   rcases a2.inn i hi with ⟨b1,_⟩|⟨b1,_⟩
   ·exact h.hi i b1
   ·exact (hzero i (hll i hi) b1).1
  refine .inr ⟨G',l',root',d',pgs',a1,⟨a5,a3,by rw[a2.bl,h.blk],by rw[a2.sz,h.size],by rw[a2.len,h.len],h.n16,λi hi=>?_,h6',h.hi0,h.nd0,λx hx=>?_⟩,putR_cost h.ctx h.td h.use hkb (by omega) a1,a6,λhF h2=>?_,a2⟩
  ·have hl:=h.lay i hi;unfold layK at hl ⊢;by_cases i6:i<6
   ·rw[if_pos i6] at hl ⊢;rw[(a2.rest i (λhm=>by have:=h.hi i hm;omega) (λhm=>by have:=h6' i hm;omega)).1];exact hl
   ·rw[if_neg i6] at hl ⊢;by_cases h2:i∈pgs'
    ·rw[if_pos h2];rcases a2.inn i h2 with ⟨b1,b2⟩|⟨b1,b2⟩
     ·rw[b2,hl,if_pos b1]
     ·rw[if_neg (hzero i hi b1).2.2];exact b2
    ·rw[if_neg h2];by_cases h1:i∈pgs
     ·rw[if_pos h1] at hl;by_cases h0:i∈pgs0
      ·rw[if_pos h0] at hl ⊢;rcases a2.gone i h1 h2 with ⟨b1,_⟩|⟨_,b2⟩
       ·rw[hl] at b1;cases b1
       ·exact b2
      ·rw[if_neg h0] at hl ⊢;rcases a2.gone i h1 h2 with ⟨_,b2⟩|⟨b1,_⟩
       ·exact b2
       ·rw[hl] at b1;cases b1
     ·rw[(a2.rest i h1 h2).1,hl,if_neg h1]
  ·rcases mem_withP hx with rfl|hx
   ·exact hv
   ·exact h.val x hx
  ·refine putR_fat h.ctx h.td (λi i6 hu=>?_) hF hkb (by omega) rfl a1 (λi hi=>⟨h6' i hi,a4 i hi⟩) h2;have hi:i<n:=by
    rw[← h.len];rcases hu with e|e <;> exact (List.getElem?_eq_some_iff.1 e).1
   have hl:=h.lay i hi;unfold layK at hl;rw[if_neg (by omega)] at hl;by_cases h1:i∈pgs
   ·exact h1
   ·rw[if_neg h1] at hl;unfold InU at hu;rw[hl] at hu;split at hu <;> simp at hu
theorem LawnK.commit(h:LawnK n g G l root d ps pgs pgs0):LawnK n (g+1) (sealG G) (spCommit l) root d ps pgs pgs:=by
 have hlay:∀i,i<n→(spCommit l)[i]? = some (layK pgs pgs i):=λi hi=>by
  unfold spCommit turnL;rw[List.getElem?_map,List.getElem?_map,h.lay i hi];simp only[Option.map_some];unfold layK;by_cases i6:i<6
  ·simp[i6]
  ·by_cases h1:i∈pgs
   ·by_cases h0:i∈pgs0 <;> simp[i6,h1,h0]
   ·by_cases h0:i∈pgs0 <;> simp[i6,h1,h0]
 have hlen:(spCommit l).length=n:=by unfold spCommit turnL;simp[h.len]
 have h16:=h.n16;have hb:=h.ctx.b256;refine⟨⟨⟨?_,?_⟩,?_,hb,h.ctx.s256,h.ctx.s1024⟩,h.td.mono (by omega) rfl rfl (λ_ _=>rfl),h.blk,h.size,hlen,h16,hlay,h.hi,λi hi=>⟨h.hi i hi,by have:=(h.td.lt i hi).2;rw[h.blk] at this;exact this⟩,h.td.nodup,h.val⟩
 ·rw[hlay 0 (by omega)];rfl
 ·rw[hlay 1 (by omega)];rfl
 ·rw[hlen];exact h.blk.symm
end
theorem LawnK.new[GhoI]{n:Nat}(h16:16≤n)(h256:n≤256){D:DiskA}(hb:D.blocks=n)(hs:D.size=256)(g:Nat):LawnK n g (lowG (mountG (formD D))) (mountL n [0,1,2,3,4,5]) 0 0 [] [] []:=by
 refine⟨⟨⟨by rw[mountL_get _ (by omega),if_pos (by simp)],by rw[mountL_get _ (by omega),if_pos (by simp)]⟩,?_,?_,?_,?_⟩,TD.none _ _,hb,hs,mountL_len _ _,h16,λi hi=>?_,λi hi=>by simp at hi,λi hi=>by simp at hi,List.nodup_nil,λx hx=>by simp at hx⟩
 ·rw[mountL_len];exact hb.symm
 ·show D.blocks≤256;omega
 ·show 256≤D.size;omega
 ·show D.size≤1024;omega
 ·rw[mountL_get _ hi];unfold layK;by_cases h6:i<6
  ·rw[if_pos h6,if_pos (by simp;omega)]
  ·rw[if_neg h6,if_neg (by simp;omega),if_neg (by simp),if_neg (by simp)]
end
end Go.Proofs.YteabpacpngaoaaaGreatDoor
