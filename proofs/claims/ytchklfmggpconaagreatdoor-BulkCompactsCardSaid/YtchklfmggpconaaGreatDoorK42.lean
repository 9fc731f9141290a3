import Derived.Test.YtchklfmggpconaaGreatDoorK41
import Derived.BigQuiet
namespace Go.Proofs.YtchklfmggpconaaGreatDoor
open Lib renaming hid->oh
set_option maxHeartbeats 4000000
set_option maxRecDepth 100000
section
open Go.RowKit
attribute [local go_sem ↓] Go.wp_at_zero Go.wp_at_succ
def zR8(F P:Nat->Prop)(ad:Nat->Addr)(w:World)(c s:Nat)(G:GA)(l:List Nat)(r:StA (Nat × Bool))(e:Ending)(w':World):Prop :=
  ∃(P' F':Nat->Prop) (G':GA) (l':List Nat),yS F' w' P' c s G' l'/\zR P P' F F' ad w w' /\
    ((∃ i nw, r = .inl (G', l', (i, nw)) /\ e = .returned (.tuple #[.int .i64 ((i : Nat) : Int), .bool nw, .nilIface])) \/
     (∃k f el,r=.inr k/\FrG G l G' l'/\e=.returned (.tuple #[.int .i64 0,.bool false,zQ f])/\qQ F' ad w' (zQ f) el k))
def zG1(G:GA)(l:List Nat)(gen root:Nat)(key v:ByteArray):StA zBY:=if root=0 then zCk G l gen 0 zEu key v else zC4 gen key v 16 G l root
theorem zN1{G:GA}{l:List Nat}{gen root:Nat}{key v:ByteArray}(hk:qC key=true)(hv:v.size<=4096):zIW G l gen root key v=match zG1 G l gen root key v with
  | .inr k=>.inr k
  | .inl (G1,l1,o)=>if o.two=false then .inl (G1,l1,(o.id0,o.news)) else match qW G1 l1 0 (zCF o) with
   | none=>.inr (zAp G1 (zCF o))
   | some i=>.inl (yD G1 l1 gen 0 (zCF o),yO G1 l1 0 (zCF o),(i,o.news)):=by
 unfold zIW;rw[show zEG key v=none by unfold zEG;rw[if_neg (by rw[hk];simp),if_neg (by omega)]];rfl
section
variable {G G1:GA}{l l1:List Nat}{gen root d:Nat}{ps:List zE}{pgs:List Nat}
theorem zLr{key v:ByteArray}(hc:zAK G l)(hT:TD G gen root d ps pgs)(hu:vX l (λk=>k∈pgs))(hkb:qC key=true)(hv:v.size<=4096){o:zBY}(h:zG1 G l gen root key v=.inl (G1,l1,o)) :
  zAK G1 l1/\FrG G l G1 l1/\G1.cost<=G.cost+60/\(o.two=true->qC o.key=true):=by
 unfold zG1 at h;have hs:=hc.s256;rcases hT.tree with ⟨rfl,rfl,rfl,rfl⟩|⟨hd,hT2⟩
 .rw[if_pos rfl] at h;rcases zFI (gen:=gen) (lo:=e0) (hi:=none) (n:=zEu) (key:=key) (v:=v) (ps:=[]) (q:=[]) hc (.inl rfl) rfl rfl (by unfold zD zEu;simp[zY,yA];omega) .nil (λx hx=>by simp at hx) (zCa key) hkb hv rM (λk hk=>by simp at hk) (λh=>absurd rfl h) with ⟨a1,a2⟩|⟨G2,l2,o2,pgs,a1,a2,a3,a4,a5⟩
  .rw[a1] at h;cases h
  .have hco:=zJP hv hc.s256 hc.s1024 h;rw[a1] at h;injection h with h;injection h with h1 h2;injection h2 with h2 h3;subst h1 h2 h3;exact⟨a3.ctx,a3.upd.fr (λi hi=>by rcases hi with ⟨_,h⟩|h;exact absurd rfl h;simp at h),by omega,λh2=>a3.keys _ (by unfold vS;rw[if_pos h2];simp)⟩
 .have hd7:=(hT.few hc.b256).2;have hroot:root≠0:=by
   obtain⟨r,hr⟩:=vJ.head _ _ _ _ _ _ hT2;have:=hT.lt root (by rw[hr];simp);omega
  rw[if_neg hroot] at h;have hco:=zH9 hv 16 G l root hc.s256 hc.s1024 h;rcases zKB (gen:=gen) hkb hv d 16 G l root e0 none ps pgs hc hT2 hT.nodup hu (zCa key) (by omega) with ⟨a1,a2⟩|⟨G2,l2,o2,pgs',a1,a2,a3,a4⟩
  .rw[a1] at h;cases h
  .rw[a1] at h;injection h with h;injection h with h1 h2;injection h2 with h2 h3;subst h1 h2 h3;exact⟨a3.ctx,a3.upd.fr (λi hi=>(hT.lt i hi).1),by omega,λh2=>a3.keys _ (by unfold vS;rw[if_pos h2];simp)⟩
end
section
variable {P P0 P' P1 P2 F F0 F' F1 F2:Nat->Prop}{ad:Nat->Addr}{w0 w w' w1 w2:World}{c s:Nat}{G:GA}{l:List Nat}
theorem zR.less(n1:zR P P1 F F1 ad w w1)(n2:zR P1 P2 F' F2 ad w1 w2)(h1:∀k,F k->F' k)(h2:∀k,F' k->F1 k):zR P P2 F F2 ad w w2 :=
 ⟨n1.stp.trans n2.stp,n2.sub,λk h=>n2.grow k (h1 k h),λk hk h=>n1.oldF k hk (h2 k (n2.oldF k (uH hk n1.size) h)),n2.env⟩
def QSt(F P:Nat->Prop)(ad:Nat->Addr)(w:World)(c s gen X:Nat)(G:GA)(l:List Nat)(r:StA zBY)(ev:Value)(wx:World):Prop :=
 ∃(P' F':Nat->Prop) (G':GA) (l':List Nat) (o:zBY),yS F' wx P' c s G' l'/\zR P P' F F' ad w wx/\jN F' P' w wx w.heap.size (gP c s gen) 31 /\
  jN F' P' w wx X (zIX o) 113 /\ ((r=.inl (G',l',o)/\ev=.nilIface)\/(∃k f el,r=.inr k/\FrG G l G' l'/\ev=zQ f/\qQ F' ad wx (zQ f) el k))
theorem zJR{n:zF}(h:qW G l 0 n=none)(gen:Nat):yD G l gen 0 n=G/\yO G l 0 n=l:=by
 refine⟨by unfold yD;rw[h],?_⟩;unfold qW at h;unfold yO;split at h
 .rename_i hd;rw[if_pos hd];unfold zAU at h;rw[if_neg (by simp)] at h;unfold zAI;rw[if_pos rfl];unfold zAs;rw[h]
 .rename_i hd;rw[if_neg hd]
theorem Sl.ids{x y:Int}{b:Nat}(hb:b<w.heap.size)(hF:¬ F b)(h0:w.cell? ⟨b,0,none⟩=some (.int .i64 x))(h1:w.cell? ⟨b,1,none⟩=some (.int .i64 y)):Sl F w 1 yB (.slice (some ⟨b,0,none⟩) 2 2) [x,y]:=by
 refine⟨_,2,rfl,uJ _,by simp[maxLen],by simp,.inr ⟨b,0,rfl,hb,hF,λi z hi j u hu=>?_⟩⟩;have hj:j=0/\u=.int .i64 z:=by
  cases j with
  | zero=>exact⟨rfl,by simpa[yB] using hu.symm⟩
  | succ j=>simp[yB] at hu
 obtain⟨rfl,rfl⟩:=hj;match i,hi with
 | 0,hi=>simp only[tS,Option.some.injEq] at hi;subst hi;exact h0
 | 1,hi=>simp only[rA,tS,Option.some.injEq] at hi;subst hi;exact h1
 | i+2,hi=>simp at hi
theorem zLs{gen root d:Nat}{ps:List zE}{pgs:List Nat}{key v:ByteArray}(hL:yW F ad w)(hP:∀k,P k->F k)(h:yS F w P c s G l)(hgen:gen<18446744073709551616)(hc:zAK G l)(hT:TD G gen root d ps pgs)(hu:vX l (λk=>k∈pgs))(hkb:qC key=true)(hv:v.size<=4096)(hco:G.cost+300<=1000000) :
  Calls Tryz.prog 26 #[qR c s gen,.int .i64 (root:Int),.string key,.string v] w (zR8 F P ad w c s G l (zIW G l gen root key v)):=by
 obtain⟨w1,hw1⟩:∃w1,w1=w.alloc (gP c s gen):=⟨_,rfl⟩;have m0:zJ w w1:=by rw[hw1];exact (zA.refl _ w).alloc _
 have hz:w1.heap.size=w.heap.size+1:=by rw[hw1];simp
 have hN:zR P P F (λk=>F k\/k=w.heap.size) ad w w1:=zR.new hL hP (Q:=λk=>k=w.heap.size) m0 (λk hk=>by omega) (λk hk=>by omega);have hB:jN (λk=>F k\/k=w.heap.size) P w w1 w.heap.size (gP c s gen) 31:=⟨by rw[hw1];exact zL.new w _ _,.inr rfl,λhp=>by have:=h.bd _ hp;omega,uJ _⟩;have hG:=h.plusNew hP (Q:=λk=>k=w.heap.size) m0 (λk hk=>by omega);have HCK:=zLe (c:=c) (s:=s) hN.env gen key v (.inr hv);rw[show zDs key v=none by unfold zDs;rw[if_neg (by rw[hkb];simp),if_neg (by omega)]] at HCK;have HPS:=oh (λ(G1:GA) (l1:List Nat) (o:zBY) (h:zG1 G l gen root key v=.inl (G1,l1,o))=>zLr hc hT hu hkb hv h);have HPR:=oh (zN1 (G:=G) (l:=l) (gen:=gen) (root:=root) hkb hv);have HC:=oh hc;have HT:=oh hT;have HU:=oh hu;have HB1:=oh hB;have HN1:=oh hN;have HG1:=oh hG;have HFW:=oh (λk (hk:F k)=>hL.lt k hk);have HW1:=oh hw1;unfold qR at HCK ⊢;have HCK:=oh HCK;clear hL hP h m0 hN hB hG hc hT hu hw1
 go_enter Tryz.func26, Tryz.ntmps26
 go_wp2_with fail;rw[<- HW1.out];refine HCK.out.mono ?_;rintro e w2 ⟨ev,rfl,hE,hm2⟩;cases hE
 have hN2:=HN1.out.trans (zR.ext HN1.out.env HN1.out.sub hm2);have hz2:=hm2.size;obtain⟨g1,g2,g3⟩:=zN0 (w0:=w) hN2 (HG1.out.at hm2) zAD 113 (by omega);obtain⟨w3,hw3⟩:∃w3,w3=w2.alloc (.cells zAD 113):=⟨_,rfl⟩;obtain⟨X,hX⟩:∃X,X=w2.heap.size:=⟨_,rfl⟩;obtain⟨F3,hF3⟩:∃F3:Nat->Prop,F3=λk=>(F k\/k=w.heap.size)\/k=w2.heap.size:=⟨_,rfl⟩
 rw[<- hF3,<- hw3] at g1 g2 g3;rw[<- hX] at g3;have HN3:=oh (hN2.trans g1);have HG3:=oh g2;have HX3:=oh g3;have HB3:=oh ((HB1.out.ext hm2).nxt g1);have HXZ:Hid (w.heap.size<X):=oh (by omega);have b0:=HB3.out.blk.cell (o:=0) rfl;have b1:=HB3.out.blk.cell (o:=1) rfl;have b2:=HB3.out.blk.cell (o:=2) rfl;have x0:=HX3.out.blk.cell (o:=0) rfl;have x1:=HX3.out.blk.cell (o:=1) rfl;have x2:=HX3.out.blk.cell (o:=2) rfl;have x3:=HX3.out.blk.cell (o:=3) rfl;have x4:=HX3.out.blk.cell (o:=4) rfl;have xf:=HX3.out.blk.frozen;have HW3:=oh hw3;have HXD:=oh hX;clear hN2 g1 g2 g3 hw3 hX hF3 hm2 hz2;go_upto_if 23 with fail
 rw[<- HXD.out,<- HW3.out];go_cut [13] (λv13 wx=>∃ev,v13=ev/\Hid (QSt F P ad w c s gen X G l (zG1 G l gen root key v) ev wx))
 case first =>
  by_cases hr:root=0
  .subst hr;have hlo:zNF G l gen 0 zEu key v:=zJO (ps:=[]) (q:=[]) HC.out (.inl rfl) rfl rfl (by unfold zD zEu;have:=HC.out.s256;simp[zY,yA];omega) .nil hkb hv rM (λk hk=>by simp at hk) (λh=>absurd rfl h) (by omega);have HLF:=zGs (w:=w3) zEu key v HN3.out.env HN3.out.sub HG3.out gen 0 hgen (.slice none 0 0) (.slice none 0 0) (.slice none 0 0) (Sl.nil _ _ _ _) (Sl.nil _ _ _ _) (Sl.nil _ _ _ _) hlo;have HPZ:Hid (zG1 G l gen 0 key v=zCk G l gen 0 zEu key v):=oh (by unfold zG1;rw[if_pos rfl]);unfold qR at HLF;rw[show ((0:Nat):Int)=0 from rfl] at HLF ⊢;have HLF:=oh HLF;clear hlo;go_wp2_with fail;refine HLF.out.mono ?_;rintro e w9 hq;obtain⟨P9,F9,G9,l9,o,ev,hG9,hN9,rfl,hr9⟩:=hq.q;have hX9:=HX3.out.nxt hN9;have HB9:=oh (HB3.out.nxt hN9);have x0:=hX9.blk.cell (o:=0) rfl;have x1:=hX9.blk.cell (o:=1) rfl;have x2:=hX9.blk.cell (o:=2) rfl;have x3:=hX9.blk.cell (o:=3) rfl;have x4:=hX9.blk.cell (o:=4) rfl;have xf:=hX9.blk.frozen;have mX:=zA.set5 (F:=λk=>k=X) (zA.refl _ w9) (R:=X) (.inr rfl) (.int .i64 (o.id0:Int)) (.int .i64 (o.id1:Int)) (.string o.key) (.bool o.two) (.bool o.news);have hmF:=hX9.mF mX;have HQ:Hid (QSt F P ad w c s gen X G l (zG1 G l gen 0 key v) ev (((((w9.setCell ⟨X,0,none⟩ (.int .i64 (o.id0:Int))).setCell ⟨X,1,none⟩ (.int .i64 (o.id1:Int))).setCell ⟨X,2,none⟩ (.string o.key)).setCell ⟨X,3,none⟩ (.bool o.two)).setCell ⟨X,4,none⟩ (.bool o.news))):=oh (by
    refine⟨P9,F9,G9,l9,o,hG9.var hX9 mX,(HN3.out.trans hN9).var hX9 mX,HB9.out.other mX (by have:=HXZ.out;omega),⟨hX9.blk.set5 _ _ _ _ _,hX9.f,hX9.p,hX9.new⟩,?_⟩;rw[HPZ.out];rcases hr9 with h9|⟨k,f9,el,h1,h2,h3,h4⟩
    .exact .inl h9
    .exact .inr ⟨k,f9,el,h1,h2,h3,h4.mods hmF⟩)
   clear hq hG9 hN9 hr9 hX9 mX hmF;go_wp2_with fail;go_meet;exact⟨ev,rfl,HQ⟩
  .have hri:¬ (root:Int)=0:=by omega
   have hT2:1<=d/\vJ G gen d e0 none root ps pgs:=by
    rcases HT.out.tree with ⟨h,_⟩|h
    .exact absurd h hr
    .exact h
   have hd7:=(HT.out.few HC.out.b256).2;have HLF:=zIA (w:=w3) hgen hkb hv d 16 root e0 none ps pgs 1 HN3.out.env HN3.out.sub HG3.out HC.out hT2.2 HT.out.nodup HU.out (zCa key) (by omega) (by omega) (by omega) hco;have HPZ:Hid (zG1 G l gen root key v=zC4 gen key v 16 G l root):=oh (by unfold zG1;rw[if_neg hr]);unfold qR at HLF;rw[show ((1:Nat):Int)=1 from rfl] at HLF;have HLF:=oh HLF;clear hT2 hd7 hr;go_wp2_with fail;refine HLF.out.mono ?_;rintro e w9 hq;obtain⟨P9,F9,G9,l9,o,ev,hG9,hN9,rfl,hr9⟩:=hq.q;have hX9:=HX3.out.nxt hN9;have HB9:=oh (HB3.out.nxt hN9);have x0:=hX9.blk.cell (o:=0) rfl;have x1:=hX9.blk.cell (o:=1) rfl;have x2:=hX9.blk.cell (o:=2) rfl;have x3:=hX9.blk.cell (o:=3) rfl;have x4:=hX9.blk.cell (o:=4) rfl;have xf:=hX9.blk.frozen;have mX:=zA.set5 (F:=λk=>k=X) (zA.refl _ w9) (R:=X) (.inr rfl) (.int .i64 (o.id0:Int)) (.int .i64 (o.id1:Int)) (.string o.key) (.bool o.two) (.bool o.news);have hmF:=hX9.mF mX;have HQ:Hid (QSt F P ad w c s gen X G l (zG1 G l gen root key v) ev (((((w9.setCell ⟨X,0,none⟩ (.int .i64 (o.id0:Int))).setCell ⟨X,1,none⟩ (.int .i64 (o.id1:Int))).setCell ⟨X,2,none⟩ (.string o.key)).setCell ⟨X,3,none⟩ (.bool o.two)).setCell ⟨X,4,none⟩ (.bool o.news))):=oh (by
    refine⟨P9,F9,G9,l9,o,hG9.var hX9 mX,(HN3.out.trans hN9).var hX9 mX,HB9.out.other mX (by have:=HXZ.out;omega),⟨hX9.blk.set5 _ _ _ _ _,hX9.f,hX9.p,hX9.new⟩,?_⟩;rw[HPZ.out];rcases hr9 with h9|⟨k,f9,el,h1,h2,h3,h4⟩
    .exact .inl h9
    .exact .inr ⟨k,f9,el,h1,h2,h3,h4.mods hmF⟩)
   clear hq hG9 hN9 hr9 hX9 mX hmF;go_wp2_with fail;go_meet;exact⟨ev,rfl,HQ⟩
 obtain⟨ev,rfl,HQ⟩:=hcut;obtain⟨w4,hw4⟩:∃w4,w4=wc:=⟨_,rfl⟩;rw[<- hw4] at HQ ⊢;obtain⟨P4,F4,G4,l4,o,hG4,hN4,hB4,hX4,hr⟩:=HQ.out;have HG4:=oh hG4;have HN4:=oh hN4;have HB4:=oh hB4;have HX4:=oh hX4;have b0:=hB4.blk.cell (o:=0) (v:=.pointer (some ⟨c,0,none⟩)) rfl;have b1:=hB4.blk.cell (o:=1) (v:=.pointer (some ⟨s,0,none⟩)) rfl;have b2:=hB4.blk.cell (o:=2) (v:=.int .u64 (gen:Int)) rfl;have x0:=hX4.blk.cell (o:=0) (v:=.int .i64 (o.id0:Int)) rfl;have x1:=hX4.blk.cell (o:=1) (v:=.int .i64 (o.id1:Int)) rfl;have x2:=hX4.blk.cell (o:=2) (v:=.string o.key) rfl;have x3:=hX4.blk.cell (o:=3) (v:=.bool o.two) rfl;have x4:=hX4.blk.cell (o:=4) (v:=.bool o.news) rfl;clear hG4 hN4 hB4 hX4 hw4 xf HQ;rcases hr with ⟨hs,rfl⟩|⟨k,f4,el,hs,hfr,rfl,hE⟩
 .have HS:=oh hs;have HPM:=oh (HPS.out _ _ _ hs);obtain⟨tw,htw⟩:∃tw,o.two=tw:=⟨_,rfl⟩;rw[htw] at x3;have HTW:=oh htw;clear hs htw;cases tw with
  | false =>
   go_wp2_with fail;go_quiet (fail)
   go_wp2_with fail;refine bodyPost_ret (v:=.tuple #[.int .i64 (o.id0:Int),.bool o.news,.nilIface]) (by simp[results,Tryz.results26,go_sem]) rfl ?_;exact⟨P4,F4,G4,l4,HG4.out.at ((zA.refl _ _).drewN _),HN4.out.trans (zR.ext HN4.out.env HN4.out.sub ((zA.refl _ _).drewN _)),.inl ⟨o.id0,o.news,by rw[HPR.out,HS.out];simp only;rw[if_pos HTW.out],rfl⟩⟩
  | true =>
   obtain⟨w5,hw5⟩:∃w5,w5=(w4.alloc (.cells #[.string o.key] 9)).drew:=⟨_,rfl⟩;have m5:zJ w4 w5:=by rw[hw5];exact ((zA.refl _ _).alloc _).drew
   obtain⟨hc4,hf4,hco4,hk4⟩:=HPM.out;have hX5:=HX4.out.ext m5;have hne:∀k,P4 k->F4 k/\k≠X:=λk hk=>⟨HN4.out.sub k hk,λe=>HX4.out.p (e ▸ hk)⟩
   have hkx:=(vC _).1 (hk4 HTW.out);have hsl1:Sl (λk=>F4 k/\k≠X) w5 1 qK (.slice (some ⟨w4.heap.size,0,none⟩) 1 1) [o.key]:=by
    have h1:Sl (λk=>F4 k/\k≠X) (w4.alloc (.cells #[.string o.key] 9)) 1 qK (.slice (some ⟨w4.heap.size,0,none⟩) 1 1) [o.key]:=Sl.one (t := 9) (fz:=(0,0)) (zK rfl) (λf=>Nat.lt_irrefl _ (HN4.out.env.lt _ f.1));rw[hw5];exact h1.ext (zA.refl _ _).drew
   have hsl2:Sl (λk=>F4 k/\k≠X) w5 1 yB (.slice (some ⟨X,0,none⟩) 2 2) [(o.id0:Int),(o.id1:Int)]:=Sl.ids hX5.blk.lt (λh=>h.2 rfl) (hX5.blk.cell (o:=0) rfl) (hX5.blk.cell (o:=1) rfl);have HDN:=zEF (w:=w5) ((HN4.out.env.mods m5.ext).anti (λk h=>h.1)) hne ((HG4.out.at m5).anti (λk h=>h.1)) gen 0 hgen (zCF o) (.slice none 0 0) (.slice (some ⟨w4.heap.size,0,none⟩) 1 1) (.slice (some ⟨X,0,none⟩) 2 2) (Sl.nil _ _ _ _) hsl1 hsl2
    (λhr=>by have h1:=vW (qD hr);have h2:zD (zCF o)<=100:=by { unfold zD zCF;simp[zY,yA];omega };omega) (.inl rfl) (.inl rfl) (by omega) (by have:=hc4.len;omega) (by omega)
   unfold qR at HDN;rw[show ((0:Nat):Int)=0 from rfl,show (zCF o).leaf=false from rfl,hw5] at HDN;have HDN:=oh HDN;have HNE:=oh hne;have HF4:=oh hf4;have b0a:=zH b0 (.cells #[.string o.key] 9);have b1a:=zH b1 (.cells #[.string o.key] 9);have b2a:=zH b2 (.cells #[.string o.key] 9);have x2a:=zH x2 (.cells #[.string o.key] 9);have ne0:=World.new_ne w4 _ b0;have ne1:=World.new_ne w4 _ b1;have ne2:=World.new_ne w4 _ b2;have ne3:=World.new_ne w4 _ x2;clear hc4 hf4 hco4 hk4 hX5 hne hkx hsl1 hsl2;rw[hw5] at m5;have M5:=oh m5;clear m5 hw5;go_wp2_with fail;go_region_held3 (λw'=>w'.cell? ⟨w.heap.size,0,none⟩=some (.pointer (some ⟨c,0,none⟩))/\w'.cell? ⟨w.heap.size,1,none⟩=some (.pointer (some ⟨s,0,none⟩))/\w'.cell? ⟨w.heap.size,2,none⟩=some (.int .u64 (gen:Int))/\w'.cell? ⟨X,2,none⟩=some (.string o.key))
    (first|(with_reducible exact⟨b0,b1,b2,x2⟩)|(with_reducible exact⟨b0a,b1a,b2a,x2a⟩)|(with_reducible exact⟨y0,y1,y2,y3⟩)|go_keep)
    (first
     | (go_at_call 55;refine (HDN.out).mono ?_;rintro e w9 ⟨P9,F9,hG9,hN9,hr9⟩;obtain⟨iv,ev,rfl⟩:=hr9.form;have hB9:=(HB4.out.ext M5.out);have y0:=zJQ hN9.stp.mods (hB9.blk.cell (o:=0) (v:=.pointer (some ⟨c,0,none⟩)) rfl) HB4.out.p;have y1:=zJQ hN9.stp.mods (hB9.blk.cell (o:=1) (v:=.pointer (some ⟨s,0,none⟩)) rfl) HB4.out.p;have y2:=zJQ hN9.stp.mods (hB9.blk.cell (o:=2) (v:=.int .u64 (gen:Int)) rfl) HB4.out.p;have y3:=zJQ hN9.stp.mods ((HX4.out.ext M5.out).blk.cell (o:=2) (v:=.string o.key) rfl) HX4.out.p)
     | fail)
   have hn9:=zR.less (HN4.out.trans (zR.ext HN4.out.env HN4.out.sub M5.out)) hN9 (λk hk=>⟨HN4.out.grow k hk,λe=>by have:=HFW.out k hk;have:=HXZ.out;omega⟩) (λk h=>h.1);have x4:=(hN9.blk (HX4.out.ext M5.out).blk HX4.out.p).cell (o:=4) (v:=.bool o.news) rfl;have HN9:=oh hn9;have HG9:=oh hG9;clear hN9 hG9 hn9 hB9 y0 y1 y2 y3 b0 b1 b2 x0 x1 x2 x3 b0a b1a b2a x2a ne0 ne1 ne2 ne3;rcases hr9 with ⟨i,hi,he⟩|⟨hno,f,el,he,hE⟩
   .obtain⟨rfl,rfl⟩:iv=.int .i64 (i:Int)/\ev=.nilIface:=by simpa using he
    have HI:=oh hi;clear hi he;go_wp2_with fail;go_quiet (fail)
    go_wp2_with fail;refine bodyPost_ret (v:=.tuple #[.int .i64 (i:Int),.bool o.news,.nilIface]) (by simp[results,Tryz.results26,go_sem]) rfl ?_;exact⟨P9,F9,_,_,HG9.out.at ((zA.refl _ _).drewN _),HN9.out.trans (zR.ext HN9.out.env HN9.out.sub ((zA.refl _ _).drewN _)),.inl ⟨i,o.news,by rw[HPR.out,HS.out];simp only;rw[if_neg (by rw[HTW.out];simp),HI.out],rfl⟩⟩
   .obtain⟨rfl,rfl⟩:iv=.int .i64 0/\ev=zQ f:=by simpa using he
    have HNO:=oh hno;have HE:=oh hE;clear hno hE he;go_wp2_with fail;refine (wrap_any HN9.out.env _ _ _ _ HE.out).mono ?_;rintro e w10 ⟨b,rfl,hE5,hm5⟩;have HE5:=oh hE5;have HM5:=oh hm5;clear hE5 hm5;go_wp2_with fail;refine bodyPost_ret (v:=.tuple #[.int .i64 0,.bool false,zQ b]) (by simp[results,Tryz.results26,go_sem]) rfl ?_;refine⟨P9,F9,_,_,HG9.out.at HM5.out,HN9.out.trans (zR.ext HN9.out.env HN9.out.sub HM5.out),.inr ⟨_,b,_,by rw[HPR.out,HS.out];simp only;rw[if_neg (by rw[HTW.out];simp),HNO.out],?_,rfl,HE5.out⟩⟩;rw[(zJR HNO.out gen).1,(zJR HNO.out gen).2];exact HF4.out
 .have HS:=oh hs;have HE:=oh hE;have HFR:=oh hfr;clear hs hE hfr;go_wp2_with fail;refine (wrap_any HN4.out.env _ _ _ _ HE.out).mono ?_;rintro e w5 ⟨b,rfl,hE5,hm5⟩;have HE5:=oh hE5;have HM5:=oh hm5;clear hE5 hm5;go_wp2_with fail;refine bodyPost_ret (v:=.tuple #[.int .i64 0,.bool false,zQ b]) (by simp[results,Tryz.results26,go_sem]) rfl ?_;exact⟨P4,F4,G4,l4,HG4.out.at HM5.out,HN4.out.trans (zR.ext HN4.out.env HN4.out.sub HM5.out),.inr ⟨k,b,_,by rw[HPR.out,HS.out],HFR.out,rfl,HE5.out⟩⟩
end
end
section
open Go.RowKit
structure zG2(n:Nat)(G:GA)(l:List Nat)(root d:Nat)(ps:List zE)(pgs:List Nat):Prop where
 ctx:zAK G l
 td:TD G 5 root d ps pgs
 blk:G.blocks=n
 size:G.size=256
 lay:∀i,i<n->l[i]? = some (if i<2 then 1 else if i∈pgs then 2 else 0)
 val:∀x∈ps,x.2.size<=400
 room:zAJ l+(pgs.length:Int)=(n:Int)-4
section
variable {n:Nat}{G:GA}{l:List Nat}{root d:Nat}{ps:List zE}{pgs:List Nat}
theorem zG2.use(h:zG2 n G l root d ps pgs):vX l (λk=>k∈pgs):=λi hi=>by
 have hb:=h.td.lt i hi;have:=h.lay i (by have:=h.blk;omega);rw[if_neg (by omega),if_pos hi] at this;exact .inr this
theorem zPI{G':GA}{l':List Nat}{r:Nat × Bool}{gen:Nat}{key v:ByteArray}(hc:zAK G l)(hT:TD G gen root d ps pgs)(hu:vX l (λk=>k∈pgs))(hkb:qC key=true)(hv:v.size<=4096)(h:zIW G l gen root key v=.inl (G',l',r)):G'.cost<=G.cost+61:=by
 rw[zN1 hkb hv] at h;cases hs:zG1 G l gen root key v with
 | inr k=>rw[hs] at h;cases h
 | inl x =>
  obtain⟨G1,l1,o⟩:=x;obtain⟨_,_,h3,_⟩:=zLr hc hT hu hkb hv hs;rw[hs] at h;simp only at h;split at h
  .injection h with h;injection h with h _;subst h;omega
  .split at h
   .cases h
   .injection h with h;injection h with h _;subst h;have:=(zCe G1 l1 gen 0 (zCF o)).2.2;omega
theorem zG2.put(h:zG2 n G l root d ps pgs){key v:ByteArray}(hkb:qC key=true)(hv:v.size<=400) :
  (zIW G l 5 root key v=.inr 3/\zAJ l<=(ndV G.size v:Nat)+d+1) \/
  ∃G' l' root' d' pgs',zIW G l 5 root key v=.inl (G',l',(root',(zAe key ps).isNone))/\zG2 n G' l' root' d' (qL key v true ps) pgs'/\G'.cost<=G.cost+61/\2<=root':=by
 rcases zQz h.ctx h.td h.use hkb (show v.size<=4096 by omega) with a|⟨G',l',root',d',pgs',a1,a2,a3,a4,a5,a6,a7⟩
 .exact .inl a
 .refine .inr ⟨G',l',root',d',pgs',a1,⟨a5,a3,by rw[a2.bl,h.blk],by rw[a2.sz,h.size],λi hi=>?_,λx hx=>?_,?_⟩,zPI h.ctx h.td h.use hkb (by omega) a1,a6⟩
  .have hl:=h.lay i hi;by_cases h2:i∈pgs'
   .have hlt:=a3.lt i h2;rw[if_neg (by omega),if_pos h2];rcases a2.inn i h2 with ⟨b1,b2⟩|⟨_,b2⟩
    .rw[b2,hl,if_neg (by omega),if_pos b1]
    .exact b2
   .by_cases h1:i∈pgs
    .have hlt:=h.td.lt i h1;rw[if_neg (by omega),if_pos h1] at hl;rw[if_neg (by omega),if_neg h2];rcases a2.gone i h1 h2 with ⟨_,b2⟩|⟨b1,_⟩
     .exact b2
     .rw[hl] at b1;cases b1
    .rw[(a2.rest i h1 h2).1,hl,if_neg h1,if_neg h2]
  .rcases zDE hx with rfl|hx
   .exact hv
   .exact h.val x hx
  .have:=a2.phi h.use h.td.nodup a3.nodup;have:=h.room;omega
theorem zN2(v:ByteArray)(h:v.size<=400):ndV 256 v<=2:=by
 unfold ndV;split
 .omega
 .unfold ndS;omega
theorem zN3:∀(ps:List zE),(∀x∈ps,x.2.size<=400)->chS 256 ps<=2 * ps.length
 | [],_=>by simp[chS]
 | x :: ps,h=>by
  have h1:=zN3 ps (λy hy=>h y (uI _ hy));have h2:=zN2 x.2 (h x uF);rw[zFu,uD];omega
theorem zG2.fits(h:zG2 250 G l root d ps pgs)(hf:ps.length<=40){key v:ByteArray}(hkb:qC key=true)(hv:v.size<=400) :
  ∃G' l' root' d' pgs',zIW G l 5 root key v=.inl (G',l',(root',(zAe key ps).isNone))/\zG2 250 G' l' root' d' (qL key v true ps) pgs'/\G'.cost<=G.cost+61/\2<=root':=by
 rcases h.put hkb hv with ⟨_,a⟩|a
 .have hcn:=h.td.count.1;have hd:=(h.td.few h.ctx.b256).2;have h1:=zN3 ps h.val;have h2:=zN2 v hv;have h3:=h.room;rw[h.size] at a hcn;have h4:pgs.length<=2 * ps.length+chS 256 ps:=by omega
  omega
 .exact a
theorem zG2.new(n:Nat)(h:n=250\/n=12):zG2 n (G0 n) (zDu n) 0 0 [] []:=by
 have e:∀i,i<n->(zDu n)[i]? = some (if i<2 then 1 else if i∈([]:List Nat) then 2 else 0):=by
  rcases h with rfl|rfl
  .decide +kernel
  .decide +kernel
 refine⟨⟨?_,?_,?_,by show 256<=256;omega,by show 256<=1024;omega⟩,TD.none _ _,rfl,rfl,e,λx hx=>by simp at hx,?_⟩
 .unfold zGK;rcases h with rfl|rfl <;> decide +kernel
 .show (zDu n).length=n;rcases h with rfl|rfl <;> decide +kernel
 .show n<=256;rcases h with rfl|rfl <;> omega
 .rcases h with rfl|rfl <;> decide +kernel
end
end
section
open Go.RowKit
attribute [local go_sem ↓] Go.wp_at_zero Go.wp_at_succ
section
variable {F:Nat->Prop}{w w' wr w2:World}
theorem zNH(l:List zE)(lv:Value)(hl:Sl NoF w 2 zAL lv l) :
  Calls Tryz.prog 8 #[lv] w λe w'=>∃v,e=.returned v/\zU NoF w' w.heap.size 25 2 zAL v (zKt 200 l)/\zJ w w':=by
 obtain⟨la,lc,rfl,h1,h2,h3,hll⟩:=hl;unfold maxLen at h2;obtain⟨q,hq⟩:∃q,q=min l.length 24:=⟨_,rfl⟩;have hmin:min (l.length:Int) 24=(q:Int):=by omega
 have i1:(0:Int)<=(q:Int):=by omega
 have i2:(q:Int)<=(lc:Int):=by omega
 have HSL:Hid (Sl NoF w 2 zAL (.slice la q lc) (l.take 24)):=oh ⟨la,lc,by rw[uP,hq,Nat.min_comm],by rw[uP];omega,by unfold maxLen;omega,by rw[uP];omega,by
  rcases hll with hll|⟨b,off,e,hb,hF,hc⟩
  .left;rw[hll];rfl
  .right
   refine⟨b,off,e,hb,hF,λi x hx j u hu=>hc i x ?_ j u hu⟩;rw[List.getElem?_take] at hx;split at hx
   .exact hx
   .cases hx⟩
 have HPR:=oh (λW (m:zJ w W)=>zPF (w:=W) (l.take 24) (.slice la q lc) (HSL.out.ext m) (by rw[uP];omega));clear hq hll
 go_enter Tryz.func8, Tryz.ntmps8
 go_wp2_with fail;refine (HPR.out _ (by first|exact zA.refl _ _|exact (zA.refl _ _).alloc _|fail)).mono ?_;rintro e w1 ⟨v,rfl,hO,hm1⟩;obtain⟨p0,hp0⟩:∃p0,p0=zAH (l.take 24):=⟨_,rfl⟩;rw[<- hp0] at hO;have HP0:=oh hp0;obtain⟨va,vc,rfl,hv1,hv2⟩:=hO.form;unfold maxLen at hv2;have HP24:Hid (p0.length<=24):=oh (by have:=(zGF (l.take 24)).2.2;rw[<- hp0,uP] at this;omega);have hp24:=HP24.out;have HS1:Hid (zU NoF w1 w.heap.size 25 2 zAL (.slice va p0.length vc) (zE8 200 0 p0)/\zJ w w1) :=
  oh ⟨by rw[zOa];exact hO.rebase (by simp),by first|exact hm1|exact ((zA.refl _ w).alloc _).trans hm1⟩
 clear hO hm1 hp0 hmin i1 i2;go_wp2_with fail;go_loopg [3] p0.length (λm v5 wr=>∃(k:Nat),k+m=p0.length/\v5=.int .i64 (k:Int)/\Hid (zU NoF wr w.heap.size 25 2 zAL (.slice va p0.length vc) (zE8 200 k p0)/\zJ w wr))
 case atStart=>exact⟨0,by omega,rfl,HS1⟩
 case round =>
  obtain⟨k,hkm,rfl,HS⟩:=hrel;by_cases hlt:k<p0.length
  .obtain⟨g,c',hgs, -, -,hg3,hg4,hgf⟩:=HS.out.1.some (by intro e;have:=congrArg List.length e;rw[zKv,uE] at this;omega);injection hgs with hgs hgn hgc;subst hgs hgc;clear hgn;obtain⟨x,hx⟩:∃x,p0[k]? = some x:=⟨_,uA hlt⟩;have HX:=oh hx;obtain⟨xk,xv⟩:=x;have hsl:=HS.out.1.sl zAX.len (by rw[zKv];omega);have c1:=hsl.cellsAt (zNW (n:=200) hx) 1 _ rfl;simp only[uR] at c1;obtain⟨z,hz⟩:∃z,z=min xv.size 200:=⟨_,rfl⟩;have hmin:min (xv.size:Int) 200=(z:Int):=by omega
   have hz1:(0:Int)<=(z:Int):=by omega
   have hz2:(z:Int)<=(xv.size:Int):=by omega
   have hzf:=hgf (k * 2+1);have hzd:wr.drew.frozen? ⟨g,k * 2+1,none⟩=false:=hzf;have HZ:Hid (zOZ 200 xv=xv.extract 0 z):=oh (by unfold zOZ;rw[hz]);have HS4:Hid (zU NoF (wr.drew.setCell ⟨g,k * 2+1,none⟩ (.string (xv.extract 0 z))) w.heap.size 25 2 zAL (.slice (some ⟨g,0,none⟩) p0.length vc) (zE8 200 (k+1) p0)/\zJ w (wr.drew.setCell ⟨g,k * 2+1,none⟩ (.string (xv.extract 0 z)))):=oh (by
    obtain⟨k1,k4⟩:=HS.out;refine⟨?_,k4.drew.setCell (.inl (by show w.heap.size<=g;have:=k1.lt g rfl;omega)) _⟩;rw[<- zPy HX.out,HZ.out];exact (k1.ext (zA.refl _ wr).drew).set zAX.len (zNW (n:=200) HX.out) (j:=1) (by omega) rfl)
   have i1:(0:Int)<=(k:Int):=by omega
   have i2:(k:Int)<(p0.length:Int):=by omega
   clear hsl hx hz hgf;go_wp2_with fail;go_region_law (fail)
   all_goals
    go_wp2_with fail;go_roundg (gk-1)
    case measure=>omega
    case rel=>exact⟨k+1,by omega,by go_num,HS4⟩
  .have hk:k=p0.length:=by omega
   subst hk;have HCT:Hid (zE8 200 p0.length p0=zKt 200 l):=oh (by rw[zPx,HP0.out];rfl);go_wp2_with fail;go_ret;exact⟨_,rfl,by rw[<- HCT.out];exact HS.out.1,HS.out.2⟩
end
end
end Go.Proofs.YtchklfmggpconaaGreatDoor
