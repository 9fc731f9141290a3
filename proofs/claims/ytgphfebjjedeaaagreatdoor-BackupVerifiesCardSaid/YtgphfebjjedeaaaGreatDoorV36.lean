import Derived.Test.YtgphfebjjedeaaaGreatDoorV35
import Derived.BigQuiet
import Derived.IntWalk
import Derived.Deep.RegionLawGrows
namespace Go.Proofs.YtgphfebjjedeaaaGreatDoor
open Lib renaming hid->oh
set_option maxHeartbeats 4000000
set_option maxRecDepth 100000
section
open Go.RowKit
attribute [local go_sem ↓] Go.wp_at_zero Go.wp_at_succ
def zTN(F P:NP)(ad:Nat->Addr)(w:World)(c s:Nat)(G:GA)(l:List Nat)(r:StA (Nat × Bool))(e:Ending)(w':World):Prop :=
  ∃(P' F':NP) (G':GA) (l':List Nat),vJ F' w' P' c s G' l'/\zU P P' F F' ad w w' /\
    ((∃ i nw, r = .inl (G', l', (i, nw)) /\ e = .returned (.tuple #[.int .i64 ((i : Nat) : Int), .bool nw, .nilIface])) \/
     (∃k f el,r=.inr k/\FrG G l G' l'/\e=.returned (.tuple #[.int .i64 0,.bool false,zI f])/\yN F' ad w' (zI f) el k))
def zHO(G:GA)(l:List Nat)(gen root:Nat)(key v:ByteArray):StA zBr:=if root=0 then zC1 G l gen 0 zDf key v else zDQ gen key v 16 G l root
theorem zOT{G:GA}{l:List Nat}{gen root:Nat}{key v:ByteArray}(hk:qP key=true)(hv:v.size<=4096):zIO G l gen root key v=match zHO G l gen root key v with
  | .inr k=>.inr k
  | .inl (G1,l1,o)=>if o.two=false then .inl (G1,l1,(o.id0,o.news)) else match qO G1 l1 0 (zCY o) with
   | none=>.inr (zBJ G1 (zCY o))
   | some i=>.inl (yG G1 l1 gen 0 (zCY o),yS G1 l1 0 (zCY o),(i,o.news)):=by
 unfold zIO;rw[show zEj key v=none by unfold zEj;rw[if_neg (by rw[hk];simp),if_neg (by omega)]];rfl
section
variable {G G1:GA}{l l1:List Nat}{gen root d:Nat}{ps:List zE}{pgs:List Nat}
theorem zMM{key v:ByteArray}(hc:zCZ G l)(hT:TD G gen root d ps pgs)(hu:zAb l (λk=>k∈pgs))(hkb:qP key=true)(hv:v.size<=4096){o:zBr}(h:zHO G l gen root key v=.inl (G1,l1,o)) :
  zCZ G1 l1/\FrG G l G1 l1/\G1.cost<=G.cost+60/\(o.two=true->qP o.key=true):=by
 unfold zHO at h;have hs:=hc.s256;rcases hT.tree with ⟨rfl,rfl,rfl,rfl⟩|⟨hd,hT2⟩
 .rw[if_pos rfl] at h;rcases zFg (gen:=gen) (lo:=e0) (hi:=none) (n:=zDf) (key:=key) (v:=v) (ps:=[]) (q:=[]) hc (.inl rfl) rfl rfl (by unfold zH zDf;simp[yI,yJ];omega) .nil (λx hx=>by simp at hx) (zDy key) hkb hv rX (λk hk=>by simp at hk) (λh=>absurd rfl h) with ⟨a1,a2⟩|⟨G2,l2,o2,pgs,a1,a2,a3,a4,a5⟩
  .rw[a1] at h;cases h
  .have hco:=zJz hv hc.s256 hc.s1024 h;rw[a1] at h;injection h with h;injection h with h1 h2;injection h2 with h2 h3;subst h1 h2 h3;exact⟨a3.ctx,a3.upd.fr (λi hi=>by rcases hi with ⟨_,h⟩|h;exact absurd rfl h;simp at h),by omega,λh2=>a3.keys _ (by unfold vW;rw[if_pos h2];simp)⟩
 .have hd7:=(hT.few hc.b256).2;have hroot:root≠0:=by
   obtain⟨r,hr⟩:=TrD.head _ _ _ _ _ _ hT2;have:=hT.lt root (by rw[hr];simp);omega
  rw[if_neg hroot] at h;have hco:=zIU hv 16 G l root hc.s256 hc.s1024 h;rcases zKq (gen:=gen) hkb hv d 16 G l root e0 none ps pgs hc hT2 hT.nodup hu (zDy key) (by omega) with ⟨a1,a2⟩|⟨G2,l2,o2,pgs',a1,a2,a3,a4⟩
  .rw[a1] at h;cases h
  .rw[a1] at h;injection h with h;injection h with h1 h2;injection h2 with h2 h3;subst h1 h2 h3;exact⟨a3.ctx,a3.upd.fr (λi hi=>(hT.lt i hi).1),by omega,λh2=>a3.keys _ (by unfold vW;rw[if_pos h2];simp)⟩
end
section
variable {P P0 P' P1 P2 F F0 F' F1 F2:NP}{ad:Nat->Addr}{w0 w w' w1 w2:World}{c s:Nat}{G:GA}{l:List Nat}
theorem zU.less(n1:zU P P1 F F1 ad w w1)(n2:zU P1 P2 F' F2 ad w1 w2)(h1:∀k,F k->F' k)(h2:∀k,F' k->F1 k):zU P P2 F F2 ad w w2 :=
 ⟨n1.stp.trans n2.stp,n2.sub,λk h=>n2.grow k (h1 k h),λk hk h=>n1.oldF k hk (h2 k (n2.oldF k (uG hk n1.size) h)),n2.env⟩
def QSt(F P:NP)(ad:Nat->Addr)(w:World)(c s gen X:Nat)(G:GA)(l:List Nat)(r:StA zBr)(ev:Value)(wx:World):Prop :=
 ∃(P' F':NP) (G':GA) (l':List Nat) (o:zBr),vJ F' wx P' c s G' l'/\zU P P' F F' ad w wx/\jF F' P' w wx w.heap.size (gP c s gen) 140 /\
  jF F' P' w wx X (zGc o) 294 /\ ((r=.inl (G',l',o)/\ev=.nilIface)\/(∃k f el,r=.inr k/\FrG G l G' l'/\ev=zI f/\yN F' ad wx (zI f) el k))
theorem zJ1{n:zJ}(h:qO G l 0 n=none)(gen:Nat):yG G l gen 0 n=G/\yS G l 0 n=l:=by
 refine⟨by unfold yG;rw[h],?_⟩;unfold qO at h;unfold yS;split at h
 .rename_i hd;rw[if_pos hd];unfold zAC at h;rw[if_neg (by simp)] at h;unfold zAY;rw[if_pos rfl];unfold zBG;rw[h]
 .rename_i hd;rw[if_neg hd]
theorem Sl.ids{x y:Int}{b:Nat}(hb:b<w.heap.size)(hF:¬ F b)(h0:w.cell? ⟨b,0,none⟩=some (.int .i64 x))(h1:w.cell? ⟨b,1,none⟩=some (.int .i64 y)):Sl F w 1 yL (.slice (some ⟨b,0,none⟩) 2 2) [x,y]:=by
 refine⟨_,2,rfl,uJ _,by simp[maxLen],by simp,.inr ⟨b,0,rfl,hb,hF,λi z hi j u hu=>?_⟩⟩;have hj:j=0/\u=.int .i64 z:=by
  cases j with
  | zero=>exact⟨rfl,by simpa[yL] using hu.symm⟩
  | succ j=>simp[yL] at hu
 obtain⟨rfl,rfl⟩:=hj;match i,hi with
 | 0,hi=>simp only[rI,Option.some.injEq] at hi;subst hi;exact h0
 | 1,hi=>simp only[rH,rI,Option.some.injEq] at hi;subst hi;exact h1
 | i+2,hi=>simp at hi
theorem zMN{gen root d:Nat}{ps:List zE}{pgs:List Nat}{key v:ByteArray}(hL:yE F ad w)(hP:∀k,P k->F k)(h:vJ F w P c s G l)(hgen:gen<18446744073709551616)(hc:zCZ G l)(hT:TD G gen root d ps pgs)(hu:zAb l (λk=>k∈pgs))(hkb:qP key=true)(hv:v.size<=4096)(hco:G.cost+300<=1000000) :
  Calls Tryz.prog 118 #[pgV c s gen,.int .i64 (root:Int),.string key,.string v] w (zTN F P ad w c s G l (zIO G l gen root key v)):=by
 obtain⟨w1,hw1⟩:∃w1,w1=w.alloc (gP c s gen):=⟨_,rfl⟩;have m0:zG w w1:=by rw[hw1];exact (zss w).alloc _
 have hz:w1.heap.size=w.heap.size+1:=by rw[hw1];simp
 have hN:zU P P F (λk=>F k\/k=w.heap.size) ad w w1:=zU.new hL hP (Q:=λk=>k=w.heap.size) m0 (λk hk=>by omega) (λk hk=>by omega);have hB:jF (λk=>F k\/k=w.heap.size) P w w1 w.heap.size (gP c s gen) 140:=⟨by rw[hw1];exact zK.new w _ _,.inr rfl,λhp=>by have:=h.bd _ hp;omega,uJ _⟩;have hG:=h.plusNew hP (Q:=λk=>k=w.heap.size) m0 (λk hk=>by omega);have HCK:=zHC (c:=c) (s:=s) hN.env gen key v (.inr hv);rw[show zC2 key v=none by unfold zC2;rw[if_neg (by rw[hkb];simp),if_neg (by omega)]] at HCK;have HPS:=oh (λ(G1:GA) (l1:List Nat) (o:zBr) (h:zHO G l gen root key v=.inl (G1,l1,o))=>zMM hc hT hu hkb hv h);have HPR:=oh (zOT (G:=G) (l:=l) (gen:=gen) (root:=root) hkb hv);have HC:=oh hc;have HT:=oh hT;have HU:=oh hu;have HB1:=oh hB;have HN1:=oh hN;have HG1:=oh hG;have HFW:=oh (λk (hk:F k)=>hL.lt k hk);have HW1:=oh hw1;unfold pgV at HCK ⊢;have HCK:=oh HCK;clear hL hP h m0 hN hB hG hc hT hu hw1
 go_enter Tryz.func118, Tryz.ntmps118
 go_wp2_with fail;rw[<- HW1.out];refine HCK.out.mono ?_;rintro e w2 ⟨ev,rfl,hE,hm2⟩;cases hE
 have hN2:=HN1.out.trans (zU.ext HN1.out.env HN1.out.sub hm2);have hz2:=hm2.size;obtain⟨g1,g2,g3⟩:=zOS (w0:=w) hN2 (HG1.out.at hm2) vT 294 (by omega);obtain⟨w3,hw3⟩:∃w3,w3=w2.alloc (.cells vT 294):=⟨_,rfl⟩;obtain⟨X,hX⟩:∃X,X=w2.heap.size:=⟨_,rfl⟩;obtain⟨F3,hF3⟩:∃F3:NP,F3=λk=>(F k\/k=w.heap.size)\/k=w2.heap.size:=⟨_,rfl⟩
 rw[<- hF3,<- hw3] at g1 g2 g3;rw[<- hX] at g3;have HN3:=oh (hN2.trans g1);have HG3:=oh g2;have HX3:=oh g3;have HB3:=oh ((HB1.out.ext hm2).nxt g1);have HXZ:Hid (w.heap.size<X):=oh (by omega);have b0:=HB3.out.blk.k 0 rfl;have b1:=HB3.out.blk.k 1 rfl;have b2:=HB3.out.blk.k 2 rfl;have x0:=HX3.out.blk.k 0 rfl;have x1:=HX3.out.blk.k 1 rfl;have x2:=HX3.out.blk.k 2 rfl;have x3:=HX3.out.blk.k 3 rfl;have x4:=HX3.out.blk.k 4 rfl;have xf:=HX3.out.blk.frozen;have HW3:=oh hw3;have HXD:=oh hX;clear hN2 g1 g2 g3 hw3 hX hF3 hm2 hz2;go_upto_if 23 with fail
 rw[<- HXD.out,<- HW3.out];go_cut [13] (λv13 wx=>∃ev,v13=ev/\Hid (QSt F P ad w c s gen X G l (zHO G l gen root key v) ev wx))
 case first =>
  by_cases hr:root=0
  .subst hr;have hlo:zNe G l gen 0 zDf key v:=zJy (ps:=[]) (q:=[]) HC.out (.inl rfl) rfl rfl (by unfold zH zDf;have:=HC.out.s256;simp[yI,yJ];omega) .nil hkb hv rX (λk hk=>by simp at hk) (λh=>absurd rfl h) (by omega);have HLF:=zHD (w:=w3) zDf key v HN3.out.env HN3.out.sub HG3.out gen 0 hgen (.slice none 0 0) (.slice none 0 0) (.slice none 0 0) (Sl.nil _ _ _ _) (Sl.nil _ _ _ _) (Sl.nil _ _ _ _) hlo;have HPZ:Hid (zHO G l gen 0 key v=zC1 G l gen 0 zDf key v):=oh (by unfold zHO;rw[if_pos rfl]);unfold pgV at HLF;rw[show ((0:Nat):Int)=0 from rfl] at HLF ⊢;have HLF:=oh HLF;clear hlo;go_wp2_with fail;refine HLF.out.mono ?_;rintro e w9 hq;obtain⟨P9,F9,G9,l9,o,ev,hG9,hN9,rfl,hr9⟩:=hq.q;have hX9:=HX3.out.nxt hN9;have HB9:=oh (HB3.out.nxt hN9);have x0:=hX9.blk.k 0 rfl;have x1:=hX9.blk.k 1 rfl;have x2:=hX9.blk.k 2 rfl;have x3:=hX9.blk.k 3 rfl;have x4:=hX9.blk.k 4 rfl;have xf:=hX9.blk.frozen;have mX:=zA.set5 (F:=λk=>k=X) (zss w9) (R:=X) (.inr rfl) (.int .i64 (o.id0:Int)) (.int .i64 (o.id1:Int)) (.string o.key) (.bool o.two) (.bool o.news);have hmF:=hX9.mF mX;have HQ:Hid (QSt F P ad w c s gen X G l (zHO G l gen 0 key v) ev (((((w9.setCell ⟨X,0,none⟩ (.int .i64 (o.id0:Int))).setCell ⟨X,1,none⟩ (.int .i64 (o.id1:Int))).setCell ⟨X,2,none⟩ (.string o.key)).setCell ⟨X,3,none⟩ (.bool o.two)).setCell ⟨X,4,none⟩ (.bool o.news))):=oh (by
    refine⟨P9,F9,G9,l9,o,hG9.var hX9 mX,(HN3.out.trans hN9).var hX9 mX,HB9.out.other mX (by have:=HXZ.out;omega),⟨hX9.blk.set5 _ _ _ _ _,hX9.f,hX9.p,hX9.new⟩,?_⟩;rw[HPZ.out];rcases hr9 with h9|⟨k,f9,el,h1,h2,h3,h4⟩
    .exact .inl h9
    .exact .inr ⟨k,f9,el,h1,h2,h3,h4.mods hmF⟩)
   clear hq hG9 hN9 hr9 hX9 mX hmF;go_wp2_with fail;go_meet;exact⟨ev,rfl,HQ⟩
  .have hri:¬ (root:Int)=0:=by omega
   have hT2:1<=d/\TrD G gen d e0 none root ps pgs:=by
    rcases HT.out.tree with ⟨h,_⟩|h
    .exact absurd h hr
    .exact h
   have hd7:=(HT.out.few HC.out.b256).2;have HLF:=zIV (w:=w3) hgen hkb hv d 16 root e0 none ps pgs 1 HN3.out.env HN3.out.sub HG3.out HC.out hT2.2 HT.out.nodup HU.out (zDy key) (by omega) (by omega) (by omega) hco;have HPZ:Hid (zHO G l gen root key v=zDQ gen key v 16 G l root):=oh (by unfold zHO;rw[if_neg hr]);unfold pgV at HLF;rw[show ((1:Nat):Int)=1 from rfl] at HLF;have HLF:=oh HLF;clear hT2 hd7 hr;go_wp2_with fail;refine HLF.out.mono ?_;rintro e w9 hq;obtain⟨P9,F9,G9,l9,o,ev,hG9,hN9,rfl,hr9⟩:=hq.q;have hX9:=HX3.out.nxt hN9;have HB9:=oh (HB3.out.nxt hN9);have x0:=hX9.blk.k 0 rfl;have x1:=hX9.blk.k 1 rfl;have x2:=hX9.blk.k 2 rfl;have x3:=hX9.blk.k 3 rfl;have x4:=hX9.blk.k 4 rfl;have xf:=hX9.blk.frozen;have mX:=zA.set5 (F:=λk=>k=X) (zss w9) (R:=X) (.inr rfl) (.int .i64 (o.id0:Int)) (.int .i64 (o.id1:Int)) (.string o.key) (.bool o.two) (.bool o.news);have hmF:=hX9.mF mX;have HQ:Hid (QSt F P ad w c s gen X G l (zHO G l gen root key v) ev (((((w9.setCell ⟨X,0,none⟩ (.int .i64 (o.id0:Int))).setCell ⟨X,1,none⟩ (.int .i64 (o.id1:Int))).setCell ⟨X,2,none⟩ (.string o.key)).setCell ⟨X,3,none⟩ (.bool o.two)).setCell ⟨X,4,none⟩ (.bool o.news))):=oh (by
    refine⟨P9,F9,G9,l9,o,hG9.var hX9 mX,(HN3.out.trans hN9).var hX9 mX,HB9.out.other mX (by have:=HXZ.out;omega),⟨hX9.blk.set5 _ _ _ _ _,hX9.f,hX9.p,hX9.new⟩,?_⟩;rw[HPZ.out];rcases hr9 with h9|⟨k,f9,el,h1,h2,h3,h4⟩
    .exact .inl h9
    .exact .inr ⟨k,f9,el,h1,h2,h3,h4.mods hmF⟩)
   clear hq hG9 hN9 hr9 hX9 mX hmF;go_wp2_with fail;go_meet;exact⟨ev,rfl,HQ⟩
 obtain⟨ev,rfl,HQ⟩:=hcut;obtain⟨w4,hw4⟩:∃w4,w4=wc:=⟨_,rfl⟩;rw[<- hw4] at HQ ⊢;obtain⟨P4,F4,G4,l4,o,hG4,hN4,hB4,hX4,hr⟩:=HQ.out;have HG4:=oh hG4;have HN4:=oh hN4;have HB4:=oh hB4;have HX4:=oh hX4;have b0:=hB4.blk.d 0 (.pointer (some ⟨c,0,none⟩)) rfl;have b1:=hB4.blk.d 1 (.pointer (some ⟨s,0,none⟩)) rfl;have b2:=hB4.blk.d 2 (.int .u64 (gen:Int)) rfl;have x0:=hX4.blk.d 0 (.int .i64 (o.id0:Int)) rfl;have x1:=hX4.blk.d 1 (.int .i64 (o.id1:Int)) rfl;have x2:=hX4.blk.d 2 (.string o.key) rfl;have x3:=hX4.blk.d 3 (.bool o.two) rfl;have x4:=hX4.blk.d 4 (.bool o.news) rfl;clear hG4 hN4 hB4 hX4 hw4 xf HQ;rcases hr with ⟨hs,rfl⟩|⟨k,f4,el,hs,hfr,rfl,hE⟩
 .have HS:=oh hs;have HPM:=oh (HPS.out _ _ _ hs);obtain⟨tw,htw⟩:∃tw,o.two=tw:=⟨_,rfl⟩;rw[htw] at x3;have HTW:=oh htw;clear hs htw;cases tw with
  | false =>
   go_wp2_with fail;go_quiet (fail)
   go_wp2_with fail;refine bodyPost_ret (v:=.tuple #[.int .i64 (o.id0:Int),.bool o.news,.nilIface]) (by simp[results,Tryz.results118,go_sem]) rfl ?_;exact⟨P4,F4,G4,l4,HG4.out.at (zr.drewN _),HN4.out.trans (zU.ext HN4.out.env HN4.out.sub (zr.drewN _)),.inl ⟨o.id0,o.news,by rw[HPR.out,HS.out];simp only;rw[if_pos HTW.out],rfl⟩⟩
  | true =>
   obtain⟨w5,hw5⟩:∃w5,w5=(w4.alloc (.cells #[.string o.key] 9)).drew:=⟨_,rfl⟩;have m5:zG w4 w5:=by rw[hw5];exact (zr.alloc _).drew
   obtain⟨hc4,hf4,hco4,hk4⟩:=HPM.out;have hX5:=HX4.out.ext m5;have hne:∀k,P4 k->F4 k/\k≠X:=λk hk=>⟨HN4.out.sub k hk,λe=>HX4.out.p (e ▸ hk)⟩
   have hkx:=(jX _).1 (hk4 HTW.out);have hsl1:Sl (λk=>F4 k/\k≠X) w5 1 vQ (.slice (some ⟨w4.heap.size,0,none⟩) 1 1) [o.key]:=by
    have h1:Sl (λk=>F4 k/\k≠X) (w4.alloc (.cells #[.string o.key] 9)) 1 vQ (.slice (some ⟨w4.heap.size,0,none⟩) 1 1) [o.key]:=Sl.one (t := 9) (fz:=(0,0)) (zM rfl) (λf=>pD _ (HN4.out.env.lt _ f.1));rw[hw5];exact h1.ext zr.drew
   have hsl2:Sl (λk=>F4 k/\k≠X) w5 1 yL (.slice (some ⟨X,0,none⟩) 2 2) [(o.id0:Int),(o.id1:Int)]:=Sl.ids hX5.blk.lt (λh=>h.2 rfl) (hX5.blk.k 0 rfl) (hX5.blk.k 1 rfl);have HDN:=zF8 (w:=w5) ((HN4.out.env.mods m5.ext).anti (λk h=>h.1)) hne ((HG4.out.at m5).anti (λk h=>h.1)) gen 0 hgen (zCY o) (.slice none 0 0) (.slice (some ⟨w4.heap.size,0,none⟩) 1 1) (.slice (some ⟨X,0,none⟩) 2 2) (Sl.nil _ _ _ _) hsl1 hsl2
    (λhr=>by have h1:=zAa (vA hr);have h2:zH (zCY o)<=100:=by { unfold zH zCY;simp[yI,yJ];omega };omega) (.inl rfl) (.inl rfl) (by omega) (by have:=hc4.len;omega) (by omega)
   unfold pgV at HDN;rw[show ((0:Nat):Int)=0 from rfl,show (zCY o).leaf=false from rfl,hw5] at HDN;have HDN:=oh HDN;have HNE:=oh hne;have HF4:=oh hf4;have b0a:=zP b0 (.cells #[.string o.key] 9);have b1a:=zP b1 (.cells #[.string o.key] 9);have b2a:=zP b2 (.cells #[.string o.key] 9);have x2a:=zP x2 (.cells #[.string o.key] 9);have ne0:=World.new_ne w4 _ b0;have ne1:=World.new_ne w4 _ b1;have ne2:=World.new_ne w4 _ b2;have ne3:=World.new_ne w4 _ x2;clear hc4 hf4 hco4 hk4 hX5 hne hkx hsl1 hsl2;rw[hw5] at m5;have M5:=oh m5;clear m5 hw5;go_wp2_with fail;go_region_held3 (λw'=>w'.cell? ⟨w.heap.size,0,none⟩=some (.pointer (some ⟨c,0,none⟩))/\w'.cell? ⟨w.heap.size,1,none⟩=some (.pointer (some ⟨s,0,none⟩))/\w'.cell? ⟨w.heap.size,2,none⟩=some (.int .u64 (gen:Int))/\w'.cell? ⟨X,2,none⟩=some (.string o.key))
    (first|(with_reducible exact⟨b0,b1,b2,x2⟩)|(with_reducible exact⟨b0a,b1a,b2a,x2a⟩)|(with_reducible exact⟨y0,y1,y2,y3⟩)|go_keep)
    (first
     | (go_at_call 188;refine (HDN.out).mono ?_;rintro e w9 ⟨P9,F9,hG9,hN9,hr9⟩;obtain⟨iv,ev,rfl⟩:=hr9.form;have hB9:=(HB4.out.ext M5.out);have y0:=zJ0 hN9.stp.mods (hB9.blk.d 0 (.pointer (some ⟨c,0,none⟩)) rfl) HB4.out.p;have y1:=zJ0 hN9.stp.mods (hB9.blk.d 1 (.pointer (some ⟨s,0,none⟩)) rfl) HB4.out.p;have y2:=zJ0 hN9.stp.mods (hB9.blk.d 2 (.int .u64 (gen:Int)) rfl) HB4.out.p;have y3:=zJ0 hN9.stp.mods ((HX4.out.ext M5.out).blk.d 2 (.string o.key) rfl) HX4.out.p)
     | fail)
   have hn9:=zU.less (HN4.out.trans (zU.ext HN4.out.env HN4.out.sub M5.out)) hN9 (λk hk=>⟨HN4.out.grow k hk,λe=>by have:=HFW.out k hk;have:=HXZ.out;omega⟩) (λk h=>h.1);have x4:=(hN9.blk (HX4.out.ext M5.out).blk HX4.out.p).d 4 (.bool o.news) rfl;have HN9:=oh hn9;have HG9:=oh hG9;clear hN9 hG9 hn9 hB9 y0 y1 y2 y3 b0 b1 b2 x0 x1 x2 x3 b0a b1a b2a x2a ne0 ne1 ne2 ne3;rcases hr9 with ⟨i,hi,he⟩|⟨hno,f,el,he,hE⟩
   .obtain⟨rfl,rfl⟩:iv=.int .i64 (i:Int)/\ev=.nilIface:=by simpa using he
    have HI:=oh hi;clear hi he;go_wp2_with fail;go_quiet (fail)
    go_wp2_with fail;refine bodyPost_ret (v:=.tuple #[.int .i64 (i:Int),.bool o.news,.nilIface]) (by simp[results,Tryz.results118,go_sem]) rfl ?_;exact⟨P9,F9,_,_,HG9.out.at (zr.drewN _),HN9.out.trans (zU.ext HN9.out.env HN9.out.sub (zr.drewN _)),.inl ⟨i,o.news,by rw[HPR.out,HS.out];simp only;rw[if_neg (by rw[HTW.out];simp),HI.out],rfl⟩⟩
   .obtain⟨rfl,rfl⟩:iv=.int .i64 0/\ev=zI f:=by simpa using he
    have HNO:=oh hno;have HE:=oh hE;clear hno hE he;go_wp2_with fail;refine (wrap_any HN9.out.env _ _ _ _ HE.out).mono ?_;rintro e w10 ⟨b,rfl,hE5,hm5⟩;have HE5:=oh hE5;have HM5:=oh hm5;clear hE5 hm5;go_wp2_with fail;refine bodyPost_ret (v:=.tuple #[.int .i64 0,.bool false,zI b]) (by simp[results,Tryz.results118,go_sem]) rfl ?_;refine⟨P9,F9,_,_,HG9.out.at HM5.out,HN9.out.trans (zU.ext HN9.out.env HN9.out.sub HM5.out),.inr ⟨_,b,_,by rw[HPR.out,HS.out];simp only;rw[if_neg (by rw[HTW.out];simp),HNO.out],?_,rfl,HE5.out⟩⟩;rw[(zJ1 HNO.out gen).1,(zJ1 HNO.out gen).2];exact HF4.out
 .have HS:=oh hs;have HE:=oh hE;have HFR:=oh hfr;clear hs hE hfr;go_wp2_with fail;refine (wrap_any HN4.out.env _ _ _ _ HE.out).mono ?_;rintro e w5 ⟨b,rfl,hE5,hm5⟩;have HE5:=oh hE5;have HM5:=oh hm5;clear hE5 hm5;go_wp2_with fail;refine bodyPost_ret (v:=.tuple #[.int .i64 0,.bool false,zI b]) (by simp[results,Tryz.results118,go_sem]) rfl ?_;exact⟨P4,F4,G4,l4,HG4.out.at HM5.out,HN4.out.trans (zU.ext HN4.out.env HN4.out.sub HM5.out),.inr ⟨k,b,_,by rw[HPR.out,HS.out],HFR.out,rfl,HE5.out⟩⟩
end
section
variable {P P' F F':NP}{ad:Nat->Addr}{w w':World}{S d c sp:Nat}{s:jM}{home keys:Int}{root:Nat}{G G':GA}{l l':List Nat}
theorem StR.set1(h:StR F w P S d c sp s home (root:Int) keys G l)(r:Int):StR F (w.setCell ⟨S,9,none⟩ (.int .i64 r)) P S d c sp s home r keys G l:=by
 obtain⟨h1,⟨a,cc,h2⟩,h3,h4⟩:=h;have m:zA (λj=>j=S) w (w.setCell ⟨S,9,none⟩ (.int .i64 r)):=zA.setCell (F:=λj=>j=S) (zss w) (p:=⟨S,9,none⟩) (.inr rfl) _;exact⟨h1.plus m (λk hk e=>by have e':k=S:=e;exact h3 (e' ▸ hk)) (λk e=>by have e':k=S:=e;rw[e'];exact h4) (λ_ _ h=>h),⟨a,cc,by simpa[stC] using h2.set 9 (.int .i64 r)⟩,h3,h4⟩
theorem zPk(r:Int):zA (λj=>j=S) w (w.setCell ⟨S,9,none⟩ (.int .i64 r)):=zA.setCell (F:=λj=>j=S) (zss w) (p:=⟨S,9,none⟩) (.inr rfl) _
def zRN(F P:NP)(ad:Nat->Addr)(w:World)(S d c sp:Nat)(s:jM)(home keys:Int)(G':GA)(l':List Nat)(i:Nat)(nw:Bool)(e:Ending)(w':World):Prop :=
 ∃P' F',e=.returned (.tuple #[.bool nw,.nilIface])/\StR F' w' P' S d c sp s home (i:Int) (if nw then keys+1 else keys) G' l'/\zU (yD P S) (yD P' S) F F' ad w w'
theorem zSv{dd:Nat}{ps:List zE}{pgs:List Nat}{i:Nat}{nw:Bool}(hL:yE F ad w)(hP:∀k,P k->F k)(h:StR F w P S d c sp s home (root:Int) keys G l)(hg:s.gen+1<18446744073709551616)(hkk:0<=keys/\keys<1000000)(key v:ByteArray)(hk:qP key=true)(hv:v.size<=4096)(hc:zCZ G l)(hT:TD G (s.gen+1) root dd ps pgs)(hu:zAb l (λk=>k∈pgs))(hco:G.cost+300<=1000000)(hr:zIO G l (s.gen+1) root key v=.inl (G',l',(i,nw))) :
  Calls Tryz.prog 60 #[.pointer (some ⟨S,0,none⟩),.string key,.string v] w (zRN F P ad w S d c sp s home keys G' l' i nw):=by
 have HAL:=oh (λop=>zKk h op);have HPG:=oh (λW (m:zG w W)=>zKl (h.at m) hg);have HPU:=oh (λW (m:zG w W)=>zMN (hL.mods m.ext) hP (h.at m).1 hg hc hT hu hk hv hco);have HRR:=oh hr;have HST:=oh h;have HN:=oh (λW (m:zG w W)=>zU.ext hL hP m);have c9:Hid (∀W,zG w W->W.cell? ⟨S,9,none⟩=some (.int .i64 (root:Int))):=oh (λW m=>by obtain⟨_,⟨a,cc,h2⟩,_,_⟩:=h.at m;exact h2.cell rfl);have HKK:=oh hkk;rw[hr] at HPU;clear hL hP h hg hk hv hc hT hu hco hkk hr;obtain⟨pg,hpg⟩:∃pg,pg=pgV c sp (s.gen+1):=⟨_,rfl⟩;rw[<- hpg] at HPG HPU;clear hpg
 go_enter Tryz.func60, Tryz.ntmps60
 go_wp2_with fail;refine (HAL.out _).mono ?_;rintro e w1 ⟨rfl,rfl⟩;have zd:=c9.out _ (zss w).drew;go_wp2_with fail;go_region_held3 (λw'=>w'.cell? ⟨S,9,none⟩=some (.int .i64 (root:Int)))
  (first|(with_reducible exact zd)|(with_reducible exact z5)|(with_reducible exact z6)|fail)
  (first
   | (go_at_call 78;(with_reducible refine (HPG.out _ (zss w).drew).mono ?_);rintro e w5 ⟨rfl,m5⟩;have x5:=(zss w).drew.trans m5;have z5:=c9.out _ x5)
   | (go_at_call 118;((with_reducible refine (HPU.out _ x5).mono ?_);intro e w6 hq;obtain⟨P6,F6,hG6,n6,rfl⟩:∃P6 F6,vJ F6 w6 P6 c sp G' l'/\zU P P6 F F6 ad _ w6/\e=.returned (.tuple #[.int .i64 ((i:Nat):Int),.bool nw,.nilIface]):=(by obtain⟨P6,F6,G6,l6,hG6,n6,⟨i6,nw6,hr6,he⟩|⟨k6,f6,el6,hr6,_⟩⟩:=hq;(· simp only[Sum.inl.injEq,Prod.mk.injEq] at hr6;obtain⟨rfl,rfl,rfl,rfl⟩:=hr6;exact⟨P6,F6,hG6,n6,he⟩);(· cases hr6));have h6:=(HST.out.at x5).nxt n6 hG6;have n06:=(HN.out _ x5).trans n6;have z6:w6.cell? ⟨S,9,none⟩=some (.int .i64 (root:Int)):=(by obtain⟨_,⟨a,cc,h2⟩,_,_⟩:=h6;exact h2.cell rfl)))
   | fail)
 obtain⟨h7,⟨a,cc,hB6⟩,hn6,hf6⟩:=_root_.id h6;have s9:=hB6.d 9 (.int .i64 (root:Int)) rfl;have s10:=hB6.d 10 (.int .i64 keys) rfl;have sf:=hB6.frozen;have H6:=oh h6;have N06:=oh n06;have HSW:=oh HST.out.lt;obtain⟨k1,k2⟩:=HKK.out;clear h7 hB6 hn6 hf6 h6 n06 n6 hG6 z5 z6 zd x5 m5 hq;cases nw with
 | true =>
  go_wp2_with fail;go_ret2
  exact⟨P6,F6,rfl,H6.out.set (i:Int) (keys+1),N06.out.withS HSW.out H6.out.2.2.2 (zJu _ _)⟩
 | false =>
  go_wp2_with fail;go_ret2
  exact⟨P6,F6,rfl,H6.out.set1 (i:Int),N06.out.withS HSW.out H6.out.2.2.2 (zPk _)⟩
end
end
section
open Go.RowKit
section
variable {n:Nat}{G:GA}{l:List Nat}{root d:Nat}{ps:List zE}{pgs:List Nat}
theorem zPl{G':GA}{l':List Nat}{r:Nat × Bool}{gen:Nat}{key v:ByteArray}(hc:zCZ G l)(hT:TD G gen root d ps pgs)(hu:zAb l (λk=>k∈pgs))(hkb:qP key=true)(hv:v.size<=4096)(h:zIO G l gen root key v=.inl (G',l',r)):G'.cost<=G.cost+61:=by
 rw[zOT hkb hv] at h;cases hs:zHO G l gen root key v with
 | inr k=>rw[hs] at h;cases h
 | inl x =>
  obtain⟨G1,l1,o⟩:=x;obtain⟨_,_,h3,_⟩:=zMM hc hT hu hkb hv hs;rw[hs] at h;simp only at h;split at h
  .injection h with h;injection h with h _;subst h;omega
  .split at h
   .cases h
   .injection h with h;injection h with h _;subst h;have:=(zCO G1 l1 gen 0 (zCY o)).2.2;omega
theorem zOU(v:ByteArray)(h:v.size<=400):ndV 256 v<=2:=by
 unfold ndV;split
 .omega
 .unfold ndS;omega
theorem zOV:∀(ps:List zE),(∀x∈ps,x.2.size<=400)->chS 256 ps<=2 * ps.length
 | [],_=>by simp[chS]
 | x :: ps,h=>by
  have h1:=zOV ps (λy hy=>h y (uI _ hy));have h2:=zOU x.2 (h x uH);rw[zMH,uD];omega
end
end
section
open Go.RowKit
attribute [local go_sem ↓] Go.wp_at_zero Go.wp_at_succ
def zSw(F:NP)(ad:Nat->Addr)(w':World)(r:ByteArray ⊕ Err)(e:Ending):Prop :=
 match r with
 | .inl v=>e=.returned (.tuple #[.string v,.nilIface])
 | .inr (l,k)=>∃f,e=.returned (.tuple #[.string ⟨#[]⟩,zI f])/\yN F ad w' (zI f) l k
section
variable {P P' P1 P2 F F' F1 F2 Q:NP}{ad:Nat->Addr}{w w' wr w2:World}{c s:Nat}{G:GA}{l:List Nat}{v v':Value}{gen:Nat}
theorem zPm(hL:yE F ad w)(hP:∀k,P k->F k)(h:vJ F w P c s G l)(gen:Nat)(e:zR)(hid : -9223372036854775808<=e.chain/\e.chain<=9223372036854775807)(hok:zF5 G e) :
  Calls Tryz.prog 182 #[pgV c s gen,.agg #[.string e.key,.string e.value,.int .i64 e.chain,.int .i64 e.size]] w (zCb F P ad w c s G l (λF' w' ed=>zSw F' ad w' (zDw G e) ed)):=by
 obtain⟨key,value,chain,size⟩:=e;simp only at hid;have m0:zG w ((w.alloc (gP c s gen)).alloc (.cells #[.string key,.string value,.int .i64 chain,.int .i64 size] 289)):=((zss w).alloc _).alloc _;have HN0:=oh (zU.ext hL hP m0);have HG0:=oh (h.at m0);have HOK:=oh hok;by_cases hz:chain=0
 .have hzb:(chain == 0)=true:=rC.2 hz;have HV:Hid (zDw G ⟨key,value,chain,size⟩=.inl value):=oh (by unfold zDw;rw[if_pos hz]);clear hL hP h m0 hok hz;unfold pgV
  go_enter Tryz.func182, Tryz.ntmps182
  go_wp2_with fail;go_ret2
  exact⟨P,F,HG0.out,HN0.out,by rw[HV.out];rfl⟩
 .have hzb:(chain == 0)=false:=uS.2 hz;have HRD:=oh (zM8 HN0.out.env HN0.out.sub HG0.out gen chain size hid (hok hz));have HV:Hid (zDw G ⟨key,value,chain,size⟩=match zAc G chain size with|none=>.inl ⟨((qU G size.toNat chain size).1.flatMap (·.2)).toArray⟩|some (l,k)=>.inr (-1 :: l,k)):=oh (by unfold zDw;rw[if_neg hz];rfl);clear hL hP h m0 hok hz;unfold pgV at HRD ⊢
  go_enter Tryz.func182, Tryz.ntmps182
  go_wp2_with fail;refine (HRD.out).mono ?_;rintro e w2 ⟨P2,F2,hG2,hN2,⟨hc,rfl⟩|⟨⟨el,ek⟩,f,hc,rfl,hE⟩⟩
  .have HG2:=oh hG2;have HN2:=oh hN2;have HC:=oh hc;clear hG2 hN2 hc;go_wp2_with fail;refine (wrap_nil _ _).mono ?_;rintro e w3 ⟨rfl,rfl⟩;go_wp2_with fail;go_ret2
   exact⟨P2,F2,HG2.out,HN0.out.trans HN2.out,by rw[HV.out,HC.out];rfl⟩
  .have HG2:=oh hG2;have HN2:=oh hN2;have HC:=oh hc;have HE:=oh hE;clear hG2 hN2 hc hE;go_wp2_with fail;refine (wrap_any HN2.out.env _ _ _ _ HE.out).mono ?_;rintro e w3 ⟨f3,rfl,hE3,hm3⟩;have HE3:=oh hE3;have HM3:=oh hm3;clear hE3 hm3;go_wp2_with fail;go_ret2
   exact⟨P2,F2,HG2.out.at HM3.out,(HN0.out.trans HN2.out).trans (zU.ext HN2.out.env HN2.out.sub HM3.out),by rw[HV.out,HC.out];exact⟨f3,rfl,HE3.out⟩⟩
end
end
section
open Go.RowKit
theorem zNg{G:GA}(h:G.total)(l:List Nat)(gen:Nat)(n:zJ):(yG G l gen 0 n).total:=by
 unfold yG;split
 .exact h
 .unfold jA;rw[if_pos (.inl rfl)];exact zPN h _
theorem zPn{G:GA}{l:List Nat}{gen i:Nat}{n:zJ}(hd:qO G l 0 n=some i)(hi:i<G.blocks):(yG G l gen 0 n).node i=some n:=by
 have hr:=(zRH hd).1;have hv:(yG G l gen 0 n).view i=some (.inl ⟨zCl n,(i:Int),gen,yB n⟩):=by
  unfold yG;rw[hd];simp only;rw[zBc,if_pos (by simp)]
 unfold GA.node;rw[(zCO G l gen 0 n).2.1,if_pos hi,hv];simp only;have hdec:zAf ⟨zCl n,(i:Int),gen,yB n⟩=.inl n:=by
  unfold zAf zCl;cases hl:n.leaf with
  | true =>
   have:=(zFu true (yB n) n).2 ⟨hr,hl,rfl⟩;simp[this]
  | false =>
   have:=(zFu false (yB n) n).2 ⟨hr,hl,rfl⟩;simp[this]
 rw[hdec]
theorem zNh{G:GA}{l:List Nat}{i:Nat}{key v:ByteArray}(hk:qP key=true)(hv:v.size<=24)(hs:256<=G.size)(hi:qN l=some i):qO G l 0 (zBK key v)=some i:=by
 have h1:=zGC hk hv;unfold qO;rw[if_pos ⟨zDH hk hv,by omega⟩];unfold zAC;rw[if_neg (by simp)];exact hi
structure jC where
 node:zJ
 at_:Int
 ea:Option Addr
 ka:Option Addr
 ia:Option Addr
 ec:Nat
 kc:Nat
 ic:Nat
def jC.pl(x:jC):zJ × Int:=(x.node,x.at_)
def zIW(x:jC):List Value:=[.bool x.node.leaf,.slice x.ea x.node.entries.length x.ec,.slice x.ka x.node.keys.length x.kc,.slice x.ia x.node.kids.length x.ic,.int .i64 x.at_]
theorem zEl:zCg zIW 5:=⟨λ_=>rfl,by intro x u hu;simp[zIW] at hu;rcases hu with rfl|rfl|rfl|rfl|rfl <;> rfl⟩
theorem Tryz.mkFr:(Tryz.prog.info? 323).map (λi=>(i.zero,i.size,i.bytes))=some (some (.agg #[.bool false,.slice none 0 0,.slice none 0 0,.slice none 0 0,.int .i64 0]),5,88):=by kernel_rfl
theorem Tryz.elFr:ElT Tryz.prog 319 323 (.agg #[.bool false,.slice none 0 0,.slice none 0 0,.slice none 0 0,.int .i64 0]) 5 88:=⟨Tryz.underlying319,Tryz.mkFr,rfl,by decide,by decide⟩
section
variable {F P P' F' P1 F1:NP}{ad:Nat->Addr}{w w' w0 w1:World}{base c s gen kb:Nat}{root:Int}{G G':GA}{l l':List Nat}{sv sv':Value}{st st':List jC}{x:jC}
structure zNi(F:NP)(w:World)(x:jC):Prop where
 es:Sl F w 4 jW (.slice x.ea x.node.entries.length x.ec) x.node.entries
 ks:Sl F w 1 vQ (.slice x.ka x.node.keys.length x.kc) x.node.keys
 is:Sl F w 1 yL (.slice x.ia x.node.kids.length x.ic) x.node.kids
theorem zNi.step(h:zNi F w x)(m:zA F w w')(hG:∀k,k<w.heap.size->¬ F k->¬ F' k):zNi F' w' x:=⟨h.es.step m hG,h.ks.step m hG,h.is.step m hG⟩
def CuB(kb:Nat)(sv:Value):NP:=λk=>k=kb\/sv.ownBlock=some k
structure CuR(F P:NP)(w:World)(base c s gen kb:Nat)(root:Int)(sv:Value)(st:List jC):Prop where
 blk:zK w kb #[.pointer (some ⟨c,0,none⟩),.pointer (some ⟨s,0,none⟩),.int .u64 (gen:Int),.int .i64 root,sv] 321
 row:yA (λ_=>False) w base 323 5 zIW sv st.reverse
 fr:∀x∈st,zNi F w x
 nP:∀k,CuB kb sv k->F k/\¬ P k
 ok:zSi (st.map jC.pl)
theorem CuR.few(h:CuR F P w base c s gen kb root sv st):st.length<=16:=by have:=h.ok.2;simpa using this
def cuQ(P:NP)(kb:Nat)(sv:Value):NP:=λk=>P k\/CuB kb sv k
structure CuI(F P:NP)(ad:Nat->Addr)(w:World)(base c s gen kb:Nat)(root:Int)(G:GA)(l:List Nat)(sv:Value)(st:List jC):Prop where
 env:yE F ad w
 sub:∀k,P k->F k
 pg:vJ F w P c s G l
 cu:CuR F P w base c s gen kb root sv st
 bl:base<=w.heap.size
theorem CuR.lt(h:CuR F P w base c s gen kb root sv st):∀k,CuB kb sv k->k<w.heap.size:=by
 rintro k (rfl|e)
 .exact h.blk.lt
 .exact (h.row.lt k e).2
theorem CuI.bd(h:CuI F P ad w base c s gen kb root G l sv st):Bd (cuQ P kb sv) w:=by
 rintro k (hk|hk)
 .exact h.pg.bd k hk
 .exact h.cu.lt k hk
theorem CuI.subQ(h:CuI F P ad w base c s gen kb root G l sv st):∀k,cuQ P kb sv k->F k:=by
 rintro k (hk|hk)
 .exact h.sub k hk
 .exact (h.cu.nP k hk).1
theorem CuI.ext(h:CuI F P ad w base c s gen kb root G l sv st)(m:zG w w'):CuI F P ad w' base c s gen kb root G l sv st/\zU (cuQ P kb sv) (cuQ P kb sv) F F ad w w' :=
 ⟨⟨h.env.mods m.ext,h.sub,h.pg.at m,⟨h.cu.blk.ext m,h.cu.row.ext m,λx hx=>(h.cu.fr x hx).step m.ext (λ_ _ hn=>hn),h.cu.nP,h.cu.ok⟩,uT h.bl m.size⟩,zU.ext h.env h.subQ m⟩
theorem CuI.pag(h:CuI F P ad w base c s gen kb root G l sv st)(n:zU P P' F F' ad w w')(g:vJ F' w' P' c s G' l') :
  CuI F' P' ad w' base c s gen kb root G' l' sv st/\zU (cuQ P kb sv) (cuQ P' kb sv) F F' ad w w':=by
 have hw:=h.cu;have np:=λk (hk:CuB kb sv k)=>(hw.nP k hk).2
 have m:=n.stp.mods;have nq:∀k,CuB kb sv k->F' k/\¬ P' k:=λk hk=>⟨n.grow k (hw.nP k hk).1,n.not (hw.lt k hk) (np k hk)⟩
 refine⟨⟨n.env,n.sub,g,⟨hw.blk.mods m (np kb (.inl rfl)),hw.row.mods m (λk hk=>np k (.inr hk)),λx hx=>(hw.fr x hx).step (m.mono h.sub) (λk hk hn hf=>hn (n.oldF k hk hf)),nq,hw.ok⟩,uT h.bl m.size⟩,
  ⟨⟨m.mono (λk hk=>.inl hk),?_,?_⟩,?_,n.grow,n.oldF,n.env⟩⟩
 .rintro k hk (hp|hp)
  .exact .inl (n.stp.old k hk hp)
  .exact .inr hp
 .rintro k (hp|hp)
  .exact n.stp.bd k hp
  .exact uG (hw.lt k hp) m.size
 .rintro k (hp|hp)
  .exact n.sub k hp
  .exact (nq k hp).1
theorem CuI.turn(h:CuI F P ad w base c s gen kb root G l sv st)(hw:CuR F' P w' base c s gen kb root sv' st')(m:zA (CuB kb sv) w w')(hF:∀k,F k->F' k)(hN:∀k,k<w.heap.size->F' k->F k)
  (hlt:∀k,F' k->k<w'.heap.size) (hB:∀k,k<w.heap.size->CuB kb sv' k->CuB kb sv k) :
  CuI F' P ad w' base c s gen kb root G l sv' st'/\zU (cuQ P kb sv) (cuQ P kb sv') F F' ad w w':=by
 have hnew:∀k,k<w.heap.size->¬ F k->¬ F' k:=λk hk hn hf=>hn (hN k hk hf)
 have hE:yE F' ad w':=h.env.step (m.mono (λk hk=>(h.cu.nP k hk).1)) hnew hlt;have hI:CuI F' P ad w' base c s gen kb root G l sv' st' :=
  ⟨hE,λk hk=>hF k (h.sub k hk),h.pg.plus m (λk hk hq=>(h.cu.nP k hq).2 hk) (λk hk=>(h.cu.nP k hk).1) hnew,hw,uT h.bl m.size⟩
 refine⟨hI,⟨⟨m.mono (λk hk=>.inr hk),?_,hI.bd⟩,hI.subQ,hF,hN,hE⟩⟩;rintro k hk (hp|hp)
 .exact .inl hp
 .exact .inr (hB k hk hp)
theorem CuI.nul(h:CuI F P ad w base c s gen kb root G l sv st):CuI F P ad (w.setCell ⟨kb,4,none⟩ (.slice none 0 0)) base c s gen kb root G l (.slice none 0 0) []/\zU (cuQ P kb sv) (cuQ P kb (.slice none 0 0)) F F ad w (w.setCell ⟨kb,4,none⟩ (.slice none 0 0)):=by
 have m:zA (λk=>k=kb) w (w.setCell ⟨kb,4,none⟩ (.slice none 0 0)):=zA.setCell (F:=λk=>k=kb) (p:=⟨kb,4,none⟩) (zss w) (.inr rfl) _;refine h.turn ⟨h.cu.blk.set 4 _,yA.nil _ _ _ _ _ _,λx hx=>by simp at hx,λk hk=>?_,⟨λx hx=>by simp at hx,by simp⟩⟩ (m.mono (λk e=>.inl e)) (λ_ h=>h) (λ_ _ h=>h) (λk hk=>uG (h.env.lt k hk) m.size) (λk hk hq=>?_)
 .rcases hk with rfl|e
  .exact h.cu.nP _ (.inl rfl)
  .simp[Value.ownBlock] at e
 .rcases hq with rfl|e
  .exact .inl rfl
  .simp[Value.ownBlock] at e
def CuD(F P:NP)(ad:Nat->Addr)(w:World)(base c s gen kb:Nat)(root:Int)(G:GA)(l:List Nat)(sv:Value)(r:StC ⊕ Err)(e:Ending)(w':World):Prop :=
 ∃(P' F':NP) (sv':Value) (st':List jC),CuI F' P' ad w' base c s gen kb root G l sv' st'/\zU (cuQ P kb sv) (cuQ P' kb sv') F F' ad w w' /\
  match r with
  | .inl sa=>e=.returned .nilIface/\st'.map jC.pl=sa
  | .inr (el,ek)=>∃f,e=.returned (zI f)/\yN F' ad w' (zI f) el ek
theorem CuD.form{r:StC ⊕ Err}{e:Ending}(h:CuD F P ad w base c s gen kb root G l sv r e w'):∃v,e=.returned v:=by
 obtain⟨P',F',sv',st',_,_,h⟩:=h;cases r with
 | inl s1=>exact⟨_,h.1⟩
 | inr er=>obtain⟨el,ek⟩:=er;obtain⟨f,h,_⟩:=h;exact⟨_,h⟩
theorem CuD.pre{r:StC ⊕ Err}{e:Ending}(n:zU (cuQ P kb sv) (cuQ P1 kb sv') F F1 ad w w0)(h:CuD F1 P1 ad w0 base c s gen kb root G l sv' r e w'):CuD F P ad w base c s gen kb root G l sv r e w':=by
 obtain⟨P2,F2,sv2,st2,h1,h2,h3⟩:=h;exact⟨P2,F2,sv2,st2,h1,n.trans h2,h3⟩
theorem CuD.bad{er:Err}{f:Nat}(h:CuI F1 P1 ad w' base c s gen kb root G l sv' st')(n:zU (cuQ P kb sv) (cuQ P1 kb sv') F F1 ad w w')(hE:yN F1 ad w' (zI f) er.1 er.2){r:StC ⊕ Err}(hr:r=.inr er) :
  CuD F P ad w base c s gen kb root G l sv r (.returned (zI f)) w':=by
 subst hr;exact⟨P1,F1,sv',st',h,n,f,rfl,hE⟩
theorem CuD.good(h:CuI F1 P1 ad w' base c s gen kb root G l sv' st')(n:zU (cuQ P kb sv) (cuQ P1 kb sv') F F1 ad w w'){r:StC ⊕ Err}(hr:r=.inl (st'.map jC.pl)) :
  CuD F P ad w base c s gen kb root G l sv r (.returned .nilIface) w':=by
 subst hr;exact⟨P1,F1,sv',st',h,n,rfl,rfl⟩
theorem CuI.put{g cp:Nat}{r:List jC}(h:CuI F P ad w base c s gen kb root G l (.slice (some ⟨g,0,none⟩) (r.length+1) cp) (x :: r))(a:Int)(ha:zLh (x.node,a)) :
  CuI F P ad (w.setCell ⟨g,r.length * 5+4,none⟩ (.int .i64 a)) base c s gen kb root G l (.slice (some ⟨g,0,none⟩) (r.length+1) cp) ({ x with at_:=a } :: r)/\zU (cuQ P kb (.slice (some ⟨g,0,none⟩) (r.length+1) cp)) (cuQ P kb (.slice (some ⟨g,0,none⟩) (r.length+1) cp)) F F ad w (w.setCell ⟨g,r.length * 5+4,none⟩ (.int .i64 a)):=by
 have m:zA (λk=>k=g) w (w.setCell ⟨g,r.length * 5+4,none⟩ (.int .i64 a)):=zA.setCell (F:=λk=>k=g) (p:=⟨g,r.length * 5+4,none⟩) (zss w) (.inr rfl) _;have hg:CuB kb (.slice (some ⟨g,0,none⟩) (r.length+1) cp) g:=.inr rfl;have hgk:kb≠g:=λe=>yA.notB h.cu.row h.cu.blk (by decide) g rfl e.symm
 have ho:=h.cu.row;rw[pH] at ho;have hs:=ho.set zEl.len (i:=r.length) (j:=4) (x:=x) (x':={ x with at_:=a }) (u:=.int .i64 a) (by rw[wS (by simp)];simp) (by omega) rfl;have hl:(r.reverse++[x]).set r.length { x with at_:=a }=({ x with at_:=a } :: r).reverse:=by
  rw[pH,List.set_append_right _ _ (by simp)];simp
 rw[hl] at hs;refine h.turn ⟨h.cu.blk.mods m hgk,hs,λy hy=>?_,h.cu.nP,⟨λy hy=>?_,by have:=h.cu.ok.2;simpa using this⟩⟩ (m.mono (λk e=>e ▸ hg)) (λ_ h=>h) (λ_ _ h=>h) (λk hk=>uG (h.env.lt k hk) m.size) (λ_ _ h=>h)
 .have hy':∃z∈x :: r,zNi F w z/\y.node=z.node/\y.ea=z.ea/\y.ka=z.ka/\y.ia=z.ia/\y.ec=z.ec/\y.kc=z.kc/\y.ic=z.ic:=by
   rcases uP.1 hy with rfl|hy
   .exact⟨x,uH,h.cu.fr x uH,rfl,rfl,rfl,rfl,rfl,rfl,rfl⟩
   .exact⟨y,uI _ hy,h.cu.fr y (uI _ hy),rfl,rfl,rfl,rfl,rfl,rfl,rfl⟩
  obtain⟨z,_,hz,e1,e2,e3,e4,e5,e6,e7⟩:=hy';have hz2:=hz.step (F':=F) (m.mono (λk e=>e ▸ (h.cu.nP g hg).1)) (λ_ _ hn=>hn);obtain⟨z1,z2,z3⟩:=hz2;rw[<- e1,<- e2,<- e5] at z1;rw[<- e1,<- e3,<- e6] at z2;rw[<- e1,<- e4,<- e7] at z3;exact⟨z1,z2,z3⟩
 .rw[wO] at hy;rcases uP.1 hy with rfl|hy
  .exact ha
  .exact h.cu.ok.1 y (by rw[wO];exact uI _ hy)
theorem CuI.push{w4:World}{o:Obj}{K:Nat}(h:CuI F P ad w base c s gen kb root G l sv st)(hx:zNi F w x)(hx0:zLh x.pl)(hlen:st.length<16)(hown:yA (λ_=>False) w4 base 323 5 zIW sv' (st.reverse++[x]))(m4:zA (λk=>sv.ownBlock=some k) (w.alloc o) w4)
  (hat:sv'.ownBlock=sv.ownBlock\/sv'.ownBlock=some K) (hK:w.heap.size<=K) :
  CuI (zDY F sv') P ad (w4.setCell ⟨kb,4,none⟩ sv') base c s gen kb root G l sv' (x :: st)/\zU (cuQ P kb sv) (cuQ P kb sv') F (zDY F sv') ad w (w4.setCell ⟨kb,4,none⟩ sv'):=by
 have m5:zA (λk=>k=kb) w4 (w4.setCell ⟨kb,4,none⟩ sv'):=zA.setCell (F:=λk=>k=kb) (p:=⟨kb,4,none⟩) (zss w4) (.inr rfl) _;have b0:=h.cu.blk.alloc o;have rk:=h.cu.row.ext ((zss w).alloc o);have b4:=b0.mods m4 (λe=>yA.notB rk b0 (by decide) _ e rfl);have mA:zA (CuB kb sv) w w4:=((zss w).alloc o).trans (m4.mono (λk e=>.inr e));have mB:zA (CuB kb sv) w (w4.setCell ⟨kb,4,none⟩ sv'):=mA.setCell (p:=⟨kb,4,none⟩) (.inr (.inl rfl)) _;have hnew:∀k,k<w.heap.size->¬ F k->¬ zDY F sv' k:=by
  rintro k hk hn (hf|hf)
  .exact hn hf
  .rcases hat with e|e
   .exact hn (h.cu.nP k (.inr (e ▸ hf))).1
   .rw[e] at hf;injection hf with hf;omega
 have mF:=mB.mono (λk hk=>(h.cu.nP k hk).1);refine h.turn ⟨b4.set 4 sv',by rw[pH];exact hown.mods m5 (λg hg e=>yA.notB hown b4 (by decide) g hg e),λy hy=>?_,λk hk=>?_,⟨λy hy=>?_,by have:=h.cu.few;simp;omega⟩⟩ mB (λ_ h=>.inl h) (λk hk hf=>Classical.byContradiction λhn=>hnew k hk hn hf) ?_ ?_
 .rcases uP.1 hy with rfl|hy
  .exact hx.step mF hnew
  .exact (h.cu.fr y hy).step mF hnew
 .rcases hk with e|e
  .exact⟨.inl (h.cu.nP k (.inl e)).1,(h.cu.nP k (.inl e)).2⟩
  .refine⟨.inr e,λhp=>?_⟩;rcases hat with h5|h5
   .exact (h.cu.nP k (.inr (h5 ▸ e))).2 hp
   .rw[h5] at e;injection e with e;have:=h.env.lt k (h.sub k hp);omega
 .rw[wO] at hy;rcases uP.1 hy with rfl|hy
  .exact hx0
  .exact h.cu.ok.1 y hy
 .rintro k (hf|hf)
  .exact uG (h.env.lt k hf) mB.size
  .exact uG (hown.lt k hf).2 m5.size
 .rintro k hk (e|e)
  .exact .inl e
  .rcases hat with h5|h5
   .exact .inr (h5 ▸ e)
   .rw[h5] at e;injection e with e;omega
theorem CuI.pop{g cp:Nat}{r:List jC}(h:CuI F P ad w base c s gen kb root G l (.slice (some ⟨g,0,none⟩) (r.length+1) cp) (x :: r)) :
  CuI F P ad (w.setCell ⟨kb,4,none⟩ (.slice (some ⟨g,0,none⟩) r.length cp)) base c s gen kb root G l (.slice (some ⟨g,0,none⟩) r.length cp) r/\zU (cuQ P kb (.slice (some ⟨g,0,none⟩) (r.length+1) cp)) (cuQ P kb (.slice (some ⟨g,0,none⟩) r.length cp)) F F ad w (w.setCell ⟨kb,4,none⟩ (.slice (some ⟨g,0,none⟩) r.length cp)):=by
 have m:zA (λk=>k=kb) w (w.setCell ⟨kb,4,none⟩ (.slice (some ⟨g,0,none⟩) r.length cp)):=zA.setCell (F:=λk=>k=kb) (p:=⟨kb,4,none⟩) (zss w) (.inr rfl) _;have ho:=h.cu.row;rw[pH] at ho;have hr:yA (λ_=>False) w base 323 5 zIW (.slice (some ⟨g,0,none⟩) r.length cp) r.reverse:=by
  refine⟨?_,λ_ _ f=>f⟩;rcases ho.1.2 with ⟨h0,_⟩|⟨g',cap,cur,h0,hb,hg,h1,h2,h3,h4⟩
  .cases h0
  .injection h0 with h0 h0n h0c;injection h0 with h0;injection h0 with h0;subst h0 h0c;refine⟨by rw[zAo zEl.len],.inr ⟨g,cp,cur,by simp,hb,hg,?_,h2,h3,?_⟩⟩
   .rw[uC] at h1;omega
   .have h5:=congrArg (List.take (r.reverse.length * 5)) h4;rw[List.take_take,tB,rO (by rw[zAo zEl.len])] at h5;rw[uC] at h5;rw[<- h5];congr 1
    omega
 have hB:∀k,CuB kb (.slice (some ⟨g,0,none⟩) r.length cp) k->CuB kb (.slice (some ⟨g,0,none⟩) (r.length+1) cp) k:=λk hk=>hk
 refine h.turn ⟨h.cu.blk.set 4 _,hr.mods m (λg' hg' e=>yA.notB hr h.cu.blk (by decide) g' hg' e),λy hy=>(h.cu.fr y (uI _ hy)).step (m.mono (λk e=>e ▸ (h.cu.nP kb (.inl rfl)).1)) (λ_ _ hn=>hn),λk hk=>h.cu.nP k (hB k hk),⟨λy hy=>h.cu.ok.1 y (by rw[wO];exact uI _ hy),by have:=h.cu.few;simp at this ⊢;omega⟩⟩
  (m.mono (λk e=>.inl e)) (λ_ h=>h) (λ_ _ h=>h) (λk hk=>uG (h.env.lt k hk) m.size) (λk _ hk=>hB k hk)
theorem CuI.form{r:List jC}(h:CuI F P ad w base c s gen kb root G l sv (x :: r)):∃g cp,sv=.slice (some ⟨g,0,none⟩) (r.length+1) cp/\r.length+1<=cp/\cp<=maxLen/\(∀o,w.frozen? ⟨g,o,none⟩=false) /\
  w.cell? ⟨g,r.length * 5,none⟩=some (.bool x.node.leaf)/\w.cell? ⟨g,r.length * 5+1,none⟩=some (.slice x.ea x.node.entries.length x.ec)/\w.cell? ⟨g,r.length * 5+2,none⟩=some (.slice x.ka x.node.keys.length x.kc)/\w.cell? ⟨g,r.length * 5+3,none⟩=some (.slice x.ia x.node.kids.length x.ic)/\w.cell? ⟨g,r.length * 5+4,none⟩=some (.int .i64 x.at_):=by
 have ho:=h.cu.row;rw[pH] at ho;rcases ho.1.2 with ⟨_,h0⟩|⟨g,cap,cur,h0,hb,hg,h1,h2,h3,h4⟩
 .simp at h0
 .rw[uC,rU] at h0 h1;simp only[uD,uF,uV] at h0 h1;subst h0;have hs:=ho.sl zEl.len (by have:=h.cu.few;simp at this ⊢ <;> omega);obtain⟨b,off,e,hc⟩:=hs.elem (k:=r.length) (w':=w) (by simp) (zss w);injection e with e;injection e with e1 e2 _;subst e1 e2;have hat:∀(i:Nat) (u:Value),(zIW x)[i]? = some u->w.cell? ⟨g,0+r.length * 5+i,none⟩=some u:=λi u hu=>hc i u (by rw[List.getElem_append_right (by simp)];simpa using hu)
  have c0:=hat 0 (.bool x.node.leaf) rfl;have c1:=hat 1 (.slice x.ea x.node.entries.length x.ec) rfl;have c2:=hat 2 (.slice x.ka x.node.keys.length x.kc) rfl;have c3:=hat 3 (.slice x.ia x.node.kids.length x.ic) rfl;have c4:=hat 4 (.int .i64 x.at_) rfl;simp only[uV,uO] at c0 c1 c2 c3 c4;exact⟨g,cap,rfl,h1,h2,λo=>zK.frozen (c:=cur) (t := 323) hg o,c0,c1,c2,c3,c4⟩
theorem CuI.cells{g n cp:Nat}{r:List jC}(h:CuI F P ad w base c s gen kb root G l (.slice (some ⟨g,0,none⟩) n cp) (x :: r)):(∀o,w.frozen? ⟨g,o,none⟩=false) /\
  w.cell? ⟨g,r.length * 5,none⟩=some (.bool x.node.leaf)/\w.cell? ⟨g,r.length * 5+1,none⟩=some (.slice x.ea x.node.entries.length x.ec)/\w.cell? ⟨g,r.length * 5+2,none⟩=some (.slice x.ka x.node.keys.length x.kc)/\w.cell? ⟨g,r.length * 5+3,none⟩=some (.slice x.ia x.node.kids.length x.ic)/\w.cell? ⟨g,r.length * 5+4,none⟩=some (.int .i64 x.at_):=by
 obtain⟨g',cp',e,_,_,h1⟩:=h.form;injection e with e _ _;injection e with e;injection e with e _ _;subst e;exact h1
end
end
section
open Go.RowKit
attribute [local go_sem ↓] Go.wp_at_zero Go.wp_at_succ
section
variable {F P P' F' P1 F1:NP}{ad:Nat->Addr}{w w' w0 w1:World}{base c s gen kb:Nat}{root:Int}{G G':GA}{l l':List Nat}{sv sv':Value}{st st':List jC}{x:jC}
theorem zMO{v0 v1 v2 v3:Value}{g n m cp:Nat}(hB:zK w kb #[v0,v1,v2,v3,.slice (some ⟨g,0,none⟩) n cp] 321)(hn:n=m+1)(hm:m<=1000) :
  Calls Tryz.prog 206 #[.pointer (some ⟨kb,0,none⟩)] w λe w'=>e=.returned (.pointer (some ⟨g,m * 5,none⟩))/\∃q,w'=w.drewN q:=by
 have k4:=hB.d 4 (.slice (some ⟨g,0,none⟩) n cp) rfl;have u1:IntKind.i64.wrap ((n:Int)-1)=(m:Int):=by rw[IntWalk.i64_in _ (by omega)];omega
 have u2:(0:Int)<=(m:Int):=by omega
 have u3:(m:Int)<(n:Int):=by omega
 clear hB hn hm
 go_enter Tryz.func206, Tryz.ntmps206
 go_wp2_with fail;go_quiet (fail)
 go_wp2_with fail;go_ret;exact⟨by simp,_,rfl⟩
theorem zE2{v0 v1 v2 v3:Value}{g n m cp:Nat}(hB:zK w kb #[v0,v1,v2,v3,.slice (some ⟨g,0,none⟩) n cp] 321)(hn:n=m+1)(hm:m<=1000) :
  Calls Tryz.prog 206 #[.pointer (some ⟨kb,0,none⟩)] w λe w'=>e=.returned (.pointer (some ⟨g,m * 5,none⟩))/\zG w w' :=
 (zMO hB hn hm).mono (λe w' ⟨h1,q,h2⟩=>⟨h1,by rw[h2];exact (zss w).drewN q⟩)
theorem zOX{v0 v1 v2 v3:Value}{g n m cp:Nat}(hB:zK w kb #[v0,v1,v2,v3,.slice (some ⟨g,0,none⟩) n cp] 321)(hn:n=m+1)(hm:m<=1000)(q:Nat) :
  Calls Tryz.prog 206 #[.pointer (some ⟨kb,0,none⟩)] (w.drewN q) λe w'=>e=.returned (.pointer (some ⟨g,m * 5,none⟩))/\∃k,w'=w.drewN k :=
 (zMO (hB.ext ((zss w).drewN q)) hn hm).mono (λe w' ⟨h1,k,h2⟩=>⟨h1,q+k,by rw[h2];unfold World.drewN;simp[rE]⟩)
theorem zMP(n:zJ){g o ec ic:Nat}{ea ia:Option Addr}(c0:w.cell? ⟨g,o,none⟩=some (.bool n.leaf))(c1:w.cell? ⟨g,o+1,none⟩=some (.slice ea n.entries.length ec))(c3:w.cell? ⟨g,o+3,none⟩=some (.slice ia n.kids.length ic)) :
  Calls Tryz.prog 293 #[.pointer (some ⟨g,o,none⟩)] w λe w'=>e=.returned (.int .i64 (zAD n:Int))/\w=w':=by
 cases hl:n.leaf with
 | true =>
  have HE:Hid (zAD n=n.entries.length):=oh (by unfold zAD;rw[if_pos hl]);rw[hl] at c0;clear hl
  go_enter Tryz.func293, Tryz.ntmps293
  go_wp2_with fail;go_ret;rw[HE.out];exact⟨rfl,rfl⟩
 | false =>
  have HE:Hid (zAD n=n.kids.length):=oh (by unfold zAD;rw[if_neg (by rw[hl];simp)]);rw[hl] at c0;clear hl
  go_enter Tryz.func293, Tryz.ntmps293
  go_wp2_with fail;go_ret;rw[HE.out];exact⟨rfl,rfl⟩
theorem zMQ(h:CuI F P ad w base c s gen kb root G l sv st)(ht:G.total)(id:Int) :
  Calls Tryz.prog 292 #[.pointer (some ⟨kb,0,none⟩),.int .i64 id] w (CuD F P ad w base c s gen kb root G l sv (zAS G (st.map jC.pl) id)):=by
 obtain⟨pa,pc,rfl,q1,q2⟩:=_root_.id h.cu.row.form;have hfew:=h.cu.few;have hrl:st.reverse.length=st.length:=rU;rw[hrl] at h q1 ⊢;have H:=oh h;have k4:=h.cu.blk.d 4 (.slice pa st.length pc) rfl;have kf:=h.cu.blk.frozen;have HML:Hid ((st.map jC.pl).length=st.length):=oh (by simp);by_cases h16:16<=st.length
 .have HV:Hid (zAS G (st.map jC.pl) id=.inr ([zBq id],5)):=oh (by unfold zAS;rw[if_pos (by rw[HML.out];exact h16)]);have g5:=h.env.c5;have HA:=oh (λop=>jY h.env op id _ _ _ (yN.sent 5 (by omega) (by omega)));have h16i:(16:Int)<=(st.length:Int):=by omega
  clear h hrl
  go_enter Tryz.func292, Tryz.ntmps292
  go_wp2_with fail;refine (HA.out _).mono ?_;rintro e w1 ⟨b,rfl,hE,hm⟩;have HE:=oh hE;have HM:=oh (H.out.ext hm);clear hE hm;go_wp2_with fail;go_ret;exact CuD.bad HM.out.1 HM.out.2 HE.out HV.out
 .have HV:Hid (zAS G (st.map jC.pl) id=match G.load id with | .inr e=>.inr e | .inl n=>.inl ((n,0) :: st.map jC.pl)):=oh (by unfold zAS;rw[if_neg (by rw[HML.out];exact h16)];rfl);have k0:=h.cu.blk.d 0 (.pointer (some ⟨c,0,none⟩)) rfl;have k1:=h.cu.blk.d 1 (.pointer (some ⟨s,0,none⟩)) rfl;have k2:=h.cu.blk.d 2 (.int .u64 (gen:Int)) rfl;have HLD:=oh (zLz h.env h.sub h.pg gen id (ht.knows id));unfold pgV at HLD;have h16i:¬ (16:Int)<=(st.length:Int):=by omega
  have H16:=oh h16;clear h hrl h16
  go_enter Tryz.func292, Tryz.ntmps292
  go_wp2_with fail;refine (HLD.out).mono ?_;rintro e w1 ⟨P1,F1,hG1,hN1,hres⟩;have H1:=oh (H.out.pag hN1 hG1);clear hG1 hN1 k0 k1 k2 k4 kf;cases hld:G.load id with
  | inr er =>
   obtain⟨el,ek⟩:=er;rw[hld] at hres;obtain⟨f,rfl,hE⟩:=hres;have HZ:Hid (zAS G (st.map jC.pl) id=.inr (el,ek)):=oh (by rw[HV.out,hld]);have m2:zG w1 (w1.alloc gB):=(zss w1).alloc _;have H2:=oh (H1.out.1.ext m2);have HE:=oh (hE.mods m2.ext);clear hE hld m2;go_wp2_with fail;go_ret;exact CuD.bad H2.out.1 (H1.out.2.trans H2.out.2) HE.out HZ.out
  | inl n =>
   rw[hld] at hres;obtain⟨ve,vk,vi,rfl,hse,hsk,hsi⟩:=hres;obtain⟨ea,ec,rfl,_,_,_,_⟩:=_root_.id hse;obtain⟨ka,kc,rfl,_,_,_,_⟩:=_root_.id hsk;obtain⟨ia,ic,rfl,_,_,_,_⟩:=_root_.id hsi;have HZ:Hid (zAS G (st.map jC.pl) id=.inl ((n,0) :: st.map jC.pl)):=oh (by rw[HV.out,hld]);have HRT:=oh (GA.load_right hld);have m2:zG w1 (w1.alloc (.cells #[.bool n.leaf,.slice ea n.entries.length ec,.slice ka n.keys.length kc,.slice ia n.kids.length ic] 277)):=(zss w1).alloc _;have H2:=oh (H1.out.1.ext m2);have HFR:Hid (zNi F1 (w1.alloc (.cells #[.bool n.leaf,.slice ea n.entries.length ec,.slice ka n.keys.length kc,.slice ia n.kids.length ic] 277)) ⟨n,0,ea,ka,ia,ec,kc,ic⟩):=oh ⟨hse.ext m2,hsk.ext m2,hsi.ext m2⟩;have hND:=zK.new w1 #[.bool n.leaf,.slice ea n.entries.length ec,.slice ka n.keys.length kc,.slice ia n.kids.length ic] 277;have d0:=hND.d 0 (.bool n.leaf) rfl;have d1:=hND.d 1 (.slice ea n.entries.length ec) rfl;have d2:=hND.d 2 (.slice ka n.keys.length kc) rfl;have d3:=hND.d 3 (.slice ia n.kids.length ic) rfl;have k4:=H2.out.1.cu.blk.d 4 (.slice pa st.length pc) rfl;have k4b:=λo=>zD (zr.alloc o) k4
   have hbl:=H2.out.1.bl;have HO2:Hid (yA (λ_=>False) (((w1.alloc (.cells #[.bool n.leaf,.slice ea n.entries.length ec,.slice ka n.keys.length kc,.slice ia n.kids.length ic] 277))).drew.alloc (.cells #[.bool n.leaf,.slice ea n.entries.length ec,.slice ka n.keys.length kc,.slice ia n.kids.length ic,.int .i64 0] 323)) base 323 5 zIW (.slice pa st.length pc) st.reverse):=oh ((H2.out.1.cu.row.ext zr.drew).ext (zr.alloc _));have HB2:Hid (zK (((w1.alloc (.cells #[.bool n.leaf,.slice ea n.entries.length ec,.slice ka n.keys.length kc,.slice ia n.kids.length ic] 277))).drew.alloc (.cells #[.bool n.leaf,.slice ea n.entries.length ec,.slice ka n.keys.length kc,.slice ia n.kids.length ic,.int .i64 0] 323)) kb #[.pointer (some ⟨c,0,none⟩),.pointer (some ⟨s,0,none⟩),.int .u64 (gen:Int),.int .i64 root,.slice pa st.length pc] 321):=oh (((H2.out.1.cu.blk.drew).alloc _));clear hse hsk hsi hld m2 hND;go_wp2_with fail;go_region_law
    (first
     | (refine zBU Tryz.elFr zEl (by rfl) _ _ (by rfl) base (.slice pa st.length pc) _ st.reverse [⟨n,0,ea,ka,ia,ec,kc,ic⟩] (by rfl) (by rfl) HO2.out (Sl.one (F:=λ_=>False) (zM (by simp)) (λf=>f)) (by simp only[rU,uD,uF];omega) (by simp at hbl ⊢;omega) (λf=>f) ?_;simp only[rU,uD,uF,uV];intro a11 c11 w11 hO11 hm11 hat11;have hB11:=HB2.out.mods hm11 (λe=>yA.notB HO2.out HB2.out (by decide) _ e rfl);have z4:=hB11.d 4 (.slice pa st.length pc) rfl;have zf:=hB11.frozen 4;clear hB11)
     | fail)
   all_goals
    have H2D:=oh (H2.out.1.ext zr.drew);have H3:=oh (H2D.out.1.push (x:=⟨n,0,ea,ka,ia,ec,kc,ic⟩) (HFR.out.step zr.drew (λ_ _ hn=>hn)) (zKb HRT.out).1 (by have:=H16.out;omega) hO11 hm11 (hat11.imp (λh=>h) (λh=>h)) (by simp));clear hO11 hm11 hat11 z4 zf d0 d1 d2 d3 k4 k4b hbl;go_wp2_with fail;go_ret;exact CuD.good H3.out.1 (((H1.out.2.trans H2.out.2).trans H2D.out.2).trans H3.out.2) HZ.out
end
end
end Go.Proofs.YtgphfebjjedeaaaGreatDoor
