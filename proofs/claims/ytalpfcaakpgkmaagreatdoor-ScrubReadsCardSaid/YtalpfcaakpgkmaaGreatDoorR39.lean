import Derived.Test.YtalpfcaakpgkmaaGreatDoorR38
import Derived.BigQuiet
namespace Go.Proofs.YtalpfcaakpgkmaaGreatDoor
open Lib renaming hid->oh
section
open Go.RowKit
attribute [local go_sem ↓] Go.wp_at_zero Go.wp_at_succ
def zS4[zQ](F P:NP)(ad:Nat->Addr)(w:World)(c s:Nat)(G:GA)(l:List Nat)(r:StA (Nat × Bool))(e:Ending)(w':World):Prop :=
  ∃(P' F':NP) (G':GA) (l':List Nat),jK F' w' P' c s G' l'/\zX P P' F F' ad w w' /\
    ((∃ i nw, r = .inl (G', l', (i, nw)) /\ e = .returned (.tuple #[.int .i64 ((i : Nat) : Int), .bool nw, .nilIface])) \/
     (∃k f el,r=.inr k/\FrG G l G' l'/\e=.returned (.tuple #[.int .i64 0,.bool false,zP f])/\vN F' ad w' (zP f) el k))
def zHZ(G:GA)(l:List Nat)(gen root:Nat)(key v:ByteArray):StA zBH:=if root=0 then zB6 G l gen 0 zFY key v else zC7 gen key v 16 G l root
theorem zON{G:GA}{l:List Nat}{gen root:Nat}{key v:ByteArray}(hk:jO key=true)(hv:v.size<=4096):zHX G l gen root key v=match zHZ G l gen root key v with
  | .inr k=>.inr k
  | .inl (G1,l1,o)=>if o.two=false then .inl (G1,l1,(o.id0,o.news)) else match qU G1 l1 0 (zCj o) with
   | none=>.inr (zBX G1 (zCj o))
   | some i=>.inl (yQ G1 l1 gen 0 (zCj o),yY G1 l1 0 (zCj o),(i,o.news)):=by
 unfold zHX;rw[show zDQ key v=none by unfold zDQ;rw[if_neg (by rw[hk];simp),if_neg (by omega)]];rfl
section
variable {G G1:GA}{l l1:List Nat}{gen root d:Nat}{ps:List zL}{pgs:List Nat}
theorem zMK{key v:ByteArray}(hc:zCB G l)(hT:TD G gen root d ps pgs)(hu:zAk l (λk=>k∈pgs))(A3:jO key=true)(hv:v.size<=4096){o:zBH}(h:zHZ G l gen root key v=.inl (G1,l1,o)) :
  zCB G1 l1/\FrG G l G1 l1/\G1.cost<=G.cost+60/\(o.two=true->jO o.key=true):=by
 unfold zHZ at h;have hs:=hc.s256;rcases hT.tree with ⟨rfl,rfl,rfl,rfl⟩|⟨hd,A4⟩
 .rw[if_pos rfl] at h;rcases zFs (gen:=gen) (lo:=e0) (hi:=none) (n:=zFY) (key:=key) (v:=v) (ps:=[]) (q:=[]) hc (.inl rfl) rfl rfl (by unfold zH zFY;simp[yM,yW];omega) .nil (λx hx=>by simp at hx) (zEA key) A3 hv rM (λk hk=>by simp at hk) (λh=>absurd rfl h) with ⟨a1,a2⟩|⟨G2,l2,o2,pgs,a1,a2,a3,a4,a5⟩
  .rw[a1] at h;cases h
  .have B7:=zJ4 hv hc.s256 hc.s1024 h;rw[a1] at h;injection h with h;injection h with h1 h2;injection h2 with h2 h3;subst h1 h2 h3;exact⟨a3.ctx,a3.upd.fr (λi hi=>by rcases hi with ⟨_,h⟩|h;exact absurd rfl h;simp at h),by omega,λh2=>a3.keys _ (by unfold jH;rw[if_pos h2];simp)⟩
 .have Bq:=(hT.few hc.b256).2;have A5:root≠0:=by
   obtain⟨r,hr⟩:=vX.head _ _ _ _ _ _ A4;have:=hT.lt root (by rw[hr];simp);omega
  rw[if_neg A5] at h;have B7:=zIl hv 16 G l root hc.s256 hc.s1024 h;rcases zKv (gen:=gen) A3 hv d 16 G l root e0 none ps pgs hc A4 hT.nodup hu (zEA key) (by omega) with ⟨a1,a2⟩|⟨G2,l2,o2,pgs',a1,a2,a3,a4⟩
  .rw[a1] at h;cases h
  .rw[a1] at h;injection h with h;injection h with h1 h2;injection h2 with h2 h3;subst h1 h2 h3;exact⟨a3.ctx,a3.upd.fr (λi hi=>(hT.lt i hi).1),by omega,λh2=>a3.keys _ (by unfold jH;rw[if_pos h2];simp)⟩
end
section
variable {P P0 P' P1 P2 F F0 F' F1 F2:NP}{ad:Nat->Addr}{w0 w w' w1 w2:World}{c s:Nat}{G:GA}{l:List Nat}
theorem zX.less(n1:zX P P1 F F1 ad w w1)(n2:zX P1 P2 F' F2 ad w1 w2)(h1:∀k,F k->F' k)(h2:∀k,F' k->F1 k):zX P P2 F F2 ad w w2 :=
 ⟨n1.stp.trans n2.stp,n2.sub,λk h=>n2.grow k (h1 k h),λk hk h=>n1.oldF k hk (h2 k (n2.oldF k (uF hk n1.size) h)),n2.env⟩
def QSt[zQ](F P:NP)(ad:Nat->Addr)(w:World)(c s gen X:Nat)(G:GA)(l:List Nat)(r:StA zBH)(ev:Value)(wx:World):Prop :=
 ∃(P' F':NP) (G':GA) (l':List Nat) (o:zBH),jK F' wx P' c s G' l'/\zX P P' F F' ad w wx/\jZ F' P' w wx w.heap.size (gP c s gen) 117 /\
  jZ F' P' w wx X (zJJ o) 255 /\ ((r=.inl (G',l',o)/\ev=.nilIface)\/(∃k f el,r=.inr k/\FrG G l G' l'/\ev=zP f/\vN F' ad wx (zP f) el k))
theorem zJ5{n:zI}(h:qU G l 0 n=none)(gen:Nat):yQ G l gen 0 n=G/\yY G l 0 n=l:=by
 refine⟨by unfold yQ;rw[h],?_⟩;unfold qU at h;unfold yY;split at h
 .rename_i hd;rw[if_pos hd];unfold jD at h;rw[if_neg (by simp)] at h;unfold jC;rw[if_pos rfl];unfold zA1;rw[h]
 .rename_i hd;rw[if_neg hd]
theorem Sl.ids{x y:Int}{b:Nat}(hb:b<w.heap.size)(hF:¬ F b)(h0:w.cell? ⟨b,0,none⟩=some (.int .i64 x))(h1:w.cell? ⟨b,1,none⟩=some (.int .i64 y)):Sl F w 1 yI (.slice (some ⟨b,0,none⟩) 2 2) [x,y]:=by
 refine⟨_,2,rfl,uD _,by simp[maxLen],by simp,.inr ⟨b,0,rfl,hb,hF,λi z hi j u hu=>?_⟩⟩;have hj:j=0/\u=.int .i64 z:=by
  cases j with
  | zero=>exact⟨rfl,by simpa[yI] using hu.symm⟩
  | succ j=>simp[yI] at hu
 obtain⟨rfl,rfl⟩:=hj;match i,hi with
 | 0,hi=>simp only[rW,Option.some.injEq] at hi;subst hi;exact h0
 | 1,hi=>simp only[List.getElem?_cons_succ,rW,Option.some.injEq] at hi;subst hi;exact h1
 | i+2,hi=>simp at hi
set_option maxRecDepth 100000 in
set_option maxHeartbeats 4000000 in
theorem zML[zQ]{gen root d:Nat}{ps:List zL}{pgs:List Nat}{key v:ByteArray}(hL:yH F ad w)(hP:∀k,P k->F k)(h:jK F w P c s G l)(Ad:gen<18446744073709551616)(hc:zCB G l)(hT:TD G gen root d ps pgs)(hu:zAk l (λk=>k∈pgs))(A3:jO key=true)(hv:v.size<=4096)(B7:G.cost+300<=1000000) :
  Calls Tryz.prog 85 #[pgV c s gen,.int .i64 (root:Int),.string key,.string v] w (zS4 F P ad w c s G l (zHX G l gen root key v)):=by
 obtain⟨w1,Al⟩:∃w1,w1=w.alloc (gP c s gen):=⟨_,rfl⟩;have m0:zF w w1:=by rw[Al];exact (zss w).alloc _
 have hz:w1.heap.size=w.heap.size+1:=by rw[Al];simp
 have hN:zX P P F (λk=>F k\/k=w.heap.size) ad w w1:=zX.new hL hP (Q:=λk=>k=w.heap.size) m0 (λk hk=>by omega) (λk hk=>by omega);have hB:jZ (λk=>F k\/k=w.heap.size) P w w1 w.heap.size (gP c s gen) 117:=⟨by rw[Al];exact zG.new w _ _,.inr rfl,λhp=>by have:=h.bd _ hp;omega,uD _⟩;have hG:=h.plusNew hP (Q:=λk=>k=w.heap.size) m0 (λk hk=>by omega);have Am:=zMF (c:=c) (s:=s) hN.env gen key v (.inr hv);rw[show zEP key v=none by unfold zEP;rw[if_neg (by rw[A3];simp),if_neg (by omega)]] at Am;have C7:=oh (λ(G1:GA) (l1:List Nat) (o:zBH) (h:zHZ G l gen root key v=.inl (G1,l1,o))=>zMK hc hT hu A3 hv h);have B2:=oh (zON (G:=G) (l:=l) (gen:=gen) (root:=root) A3 hv);have HC:=oh hc;have HT:=oh hT;have HU:=oh hu;have C8:=oh hB;have B8:=oh hN;have C9:=oh hG;have Ca:=oh (λk (hk:F k)=>hL.lt k hk);have Cb:=oh Al;unfold pgV at Am ⊢;have Am:=oh Am;clear hL hP h m0 hN hB hG hc hT hu Al
 go_enter Tryz.func85, Tryz.ntmps85
 go_wp2_with fail;rw[<- Cb.out];refine Am.out.mono ?_;rintro e w2 ⟨ev,rfl,hE,An⟩;cases hE
 have B9:=B8.out.trans (zX.ext B8.out.env B8.out.sub An);have Cc:=An.size;obtain⟨g1,g2,g3⟩:=zOM (w0:=w) B9 (C9.out.at An) zAV 255 (by omega);obtain⟨w3,Ba⟩:∃w3,w3=w2.alloc (.cells zAV 255):=⟨_,rfl⟩;obtain⟨X,hX⟩:∃X,X=w2.heap.size:=⟨_,rfl⟩;obtain⟨F3,Br⟩:∃F3:NP,F3=λk=>(F k\/k=w.heap.size)\/k=w2.heap.size:=⟨_,rfl⟩
 rw[<- Br,<- Ba] at g1 g2 g3;rw[<- hX] at g3;have Ai:=oh (B9.trans g1);have Bs:=oh g2;have Aa:=oh g3;have Ao:=oh ((C8.out.ext An).nxt g1);have Bb:Hid (w.heap.size<X):=oh (by omega);have b0:=Ao.out.blk.k 0 rfl;have b1:=Ao.out.blk.k 1 rfl;have b2:=Ao.out.blk.k 2 rfl;have x0:=Aa.out.blk.k 0 rfl;have x1:=Aa.out.blk.k 1 rfl;have x2:=Aa.out.blk.k 2 rfl;have x3:=Aa.out.blk.k 3 rfl;have x4:=Aa.out.blk.k 4 rfl;have xf:=Aa.out.blk.frozen;have Cd:=oh Ba;have Ce:=oh hX;clear B9 g1 g2 g3 Ba hX Br An Cc;go_upto_if 23 with fail
 rw[<- Ce.out,<- Cd.out];go_cut [13] (λv13 wx=>∃ev,v13=ev/\Hid (QSt F P ad w c s gen X G l (zHZ G l gen root key v) ev wx))
 case first =>
  by_cases hr:root=0
  .subst hr;have Bt:zNV G l gen 0 zFY key v:=zJ3 (ps:=[]) (q:=[]) HC.out (.inl rfl) rfl rfl (by unfold zH zFY;have:=HC.out.s256;simp[yM,yW];omega) .nil A3 hv rM (λk hk=>by simp at hk) (λh=>absurd rfl h) (by omega);have A6:=zHM (w:=w3) zFY key v Ai.out.env Ai.out.sub Bs.out gen 0 Ad (.slice none 0 0) (.slice none 0 0) (.slice none 0 0) (Sl.nil _ _ _ _) (Sl.nil _ _ _ _) (Sl.nil _ _ _ _) Bt;have Bc:Hid (zHZ G l gen 0 key v=zB6 G l gen 0 zFY key v):=oh (by unfold zHZ;rw[if_pos rfl]);unfold pgV at A6;rw[show ((0:Nat):Int)=0 from rfl] at A6 ⊢;have A6:=oh A6;clear Bt;go_wp2_with fail;refine A6.out.mono ?_;rintro e w9 hq;obtain⟨P9,F9,G9,l9,o,ev,Ab,A1,rfl,Ac⟩:=hq.q;have A0:=Aa.out.nxt A1;have Bd:=oh (Ao.out.nxt A1);have x0:=A0.blk.k 0 rfl;have x1:=A0.blk.k 1 rfl;have x2:=A0.blk.k 2 rfl;have x3:=A0.blk.k 3 rfl;have x4:=A0.blk.k 4 rfl;have xf:=A0.blk.frozen;have mX:=zA.set5 (F:=λk=>k=X) (zss w9) (R:=X) (.inr rfl) (.int .i64 (o.id0:Int)) (.int .i64 (o.id1:Int)) (.string o.key) (.bool o.two) (.bool o.news);have Ap:=A0.mF mX;have HQ:Hid (QSt F P ad w c s gen X G l (zHZ G l gen 0 key v) ev (((((w9.setCell ⟨X,0,none⟩ (.int .i64 (o.id0:Int))).setCell ⟨X,1,none⟩ (.int .i64 (o.id1:Int))).setCell ⟨X,2,none⟩ (.string o.key)).setCell ⟨X,3,none⟩ (.bool o.two)).setCell ⟨X,4,none⟩ (.bool o.news))):=oh (by
    refine⟨P9,F9,G9,l9,o,Ab.var A0 mX,(Ai.out.trans A1).var A0 mX,Bd.out.other mX (by have:=Bb.out;omega),⟨A0.blk.set5 _ _ _ _ _,A0.f,A0.p,A0.new⟩,?_⟩;rw[Bc.out];rcases Ac with h9|⟨k,f9,el,h1,h2,h3,h4⟩
    .exact .inl h9
    .exact .inr ⟨k,f9,el,h1,h2,h3,h4.mods Ap⟩)
   clear hq Ab A1 Ac A0 mX Ap;go_wp2_with fail;go_meet;exact⟨ev,rfl,HQ⟩
  .have Cr:¬ (root:Int)=0:=by omega
   have A4:1<=d/\vX G gen d e0 none root ps pgs:=by
    rcases HT.out.tree with ⟨h,_⟩|h
    .exact absurd h hr
    .exact h
   have Bq:=(HT.out.few HC.out.b256).2;have A6:=zIm (w:=w3) Ad A3 hv d 16 root e0 none ps pgs 1 Ai.out.env Ai.out.sub Bs.out HC.out A4.2 HT.out.nodup HU.out (zEA key) (by omega) (by omega) (by omega) B7;have Bc:Hid (zHZ G l gen root key v=zC7 gen key v 16 G l root):=oh (by unfold zHZ;rw[if_neg hr]);unfold pgV at A6;rw[show ((1:Nat):Int)=1 from rfl] at A6;have A6:=oh A6;clear A4 Bq hr;go_wp2_with fail;refine A6.out.mono ?_;rintro e w9 hq;obtain⟨P9,F9,G9,l9,o,ev,Ab,A1,rfl,Ac⟩:=hq.q;have A0:=Aa.out.nxt A1;have Bd:=oh (Ao.out.nxt A1);have x0:=A0.blk.k 0 rfl;have x1:=A0.blk.k 1 rfl;have x2:=A0.blk.k 2 rfl;have x3:=A0.blk.k 3 rfl;have x4:=A0.blk.k 4 rfl;have xf:=A0.blk.frozen;have mX:=zA.set5 (F:=λk=>k=X) (zss w9) (R:=X) (.inr rfl) (.int .i64 (o.id0:Int)) (.int .i64 (o.id1:Int)) (.string o.key) (.bool o.two) (.bool o.news);have Ap:=A0.mF mX;have HQ:Hid (QSt F P ad w c s gen X G l (zHZ G l gen root key v) ev (((((w9.setCell ⟨X,0,none⟩ (.int .i64 (o.id0:Int))).setCell ⟨X,1,none⟩ (.int .i64 (o.id1:Int))).setCell ⟨X,2,none⟩ (.string o.key)).setCell ⟨X,3,none⟩ (.bool o.two)).setCell ⟨X,4,none⟩ (.bool o.news))):=oh (by
    refine⟨P9,F9,G9,l9,o,Ab.var A0 mX,(Ai.out.trans A1).var A0 mX,Bd.out.other mX (by have:=Bb.out;omega),⟨A0.blk.set5 _ _ _ _ _,A0.f,A0.p,A0.new⟩,?_⟩;rw[Bc.out];rcases Ac with h9|⟨k,f9,el,h1,h2,h3,h4⟩
    .exact .inl h9
    .exact .inr ⟨k,f9,el,h1,h2,h3,h4.mods Ap⟩)
   clear hq Ab A1 Ac A0 mX Ap;go_wp2_with fail;go_meet;exact⟨ev,rfl,HQ⟩
 obtain⟨ev,rfl,HQ⟩:=hcut;obtain⟨w4,Bu⟩:∃w4,w4=wc:=⟨_,rfl⟩;rw[<- Bu] at HQ ⊢;obtain⟨P4,F4,G4,l4,o,Bv,Bw,Aq,Ae,hr⟩:=HQ.out;have Be:=oh Bv;have A2:=oh Bw;have B3:=oh Aq;have Aj:=oh Ae;have b0:=Aq.blk.d 0 (.pointer (some ⟨c,0,none⟩)) rfl;have b1:=Aq.blk.d 1 (.pointer (some ⟨s,0,none⟩)) rfl;have b2:=Aq.blk.d 2 (.int .u64 (gen:Int)) rfl;have x0:=Ae.blk.d 0 (.int .i64 (o.id0:Int)) rfl;have x1:=Ae.blk.d 1 (.int .i64 (o.id1:Int)) rfl;have x2:=Ae.blk.d 2 (.string o.key) rfl;have x3:=Ae.blk.d 3 (.bool o.two) rfl;have x4:=Ae.blk.d 4 (.bool o.news) rfl;clear Bv Bw Aq Ae Bu xf HQ;rcases hr with ⟨hs,rfl⟩|⟨k,f4,el,hs,Bx,rfl,hE⟩
 .have HS:=oh hs;have Cf:=oh (C7.out _ _ _ hs);obtain⟨tw,Bf⟩:∃tw,o.two=tw:=⟨_,rfl⟩;rw[Bf] at x3;have B4:=oh Bf;clear hs Bf;cases tw with
  | false =>
   go_wp2_with fail;go_quiet (fail)
   go_wp2_with fail;refine bodyPost_ret (v:=.tuple #[.int .i64 (o.id0:Int),.bool o.news,.nilIface]) (by simp[results,Tryz.results85,go_sem]) rfl ?_;exact⟨P4,F4,G4,l4,Be.out.at (zr.drewN _),A2.out.trans (zX.ext A2.out.env A2.out.sub (zr.drewN _)),.inl ⟨o.id0,o.news,by rw[B2.out,HS.out];simp only;rw[if_pos B4.out],rfl⟩⟩
  | true =>
   obtain⟨w5,Ar⟩:∃w5,w5=(w4.alloc (.cells #[.string o.key] 9)).drew:=⟨_,rfl⟩;have m5:zF w4 w5:=by rw[Ar];exact (zr.alloc _).drew
   obtain⟨By,Bz,Bg,C0⟩:=Cf.out;have B5:=Aj.out.ext m5;have A8:∀k,P4 k->F4 k/\k≠X:=λk hk=>⟨A2.out.sub k hk,λe=>Aj.out.p (e ▸ hk)⟩
   have Cg:=(zA5 _).1 (C0 B4.out);have As:Sl (λk=>F4 k/\k≠X) w5 1 vW (.slice (some ⟨w4.heap.size,0,none⟩) 1 1) [o.key]:=by
    have h1:Sl (λk=>F4 k/\k≠X) (w4.alloc (.cells #[.string o.key] 9)) 1 vW (.slice (some ⟨w4.heap.size,0,none⟩) 1 1) [o.key]:=Sl.one (t := 9) (fz:=(0,0)) (zS rfl) (λf=>pB _ (A2.out.env.lt _ f.1));rw[Ar];exact h1.ext zr.drew
   have At:Sl (λk=>F4 k/\k≠X) w5 1 yI (.slice (some ⟨X,0,none⟩) 2 2) [(o.id0:Int),(o.id1:Int)]:=Sl.ids B5.blk.lt (λh=>h.2 rfl) (B5.blk.k 0 rfl) (B5.blk.k 1 rfl);have Au:=zGG (w:=w5) ((A2.out.env.mods m5.ext).anti (λk h=>h.1)) A8 ((Be.out.at m5).anti (λk h=>h.1)) gen 0 Ad (zCj o) (.slice none 0 0) (.slice (some ⟨w4.heap.size,0,none⟩) 1 1) (.slice (some ⟨X,0,none⟩) 2 2) (Sl.nil _ _ _ _) As At
    (λhr=>by have h1:=zA3 (vB hr);have h2:zH (zCj o)<=100:=by { unfold zH zCj;simp[yM,yW];omega };omega) (.inl rfl) (.inl rfl) (by omega) (by have:=By.len;omega) (by omega)
   unfold pgV at Au;rw[show ((0:Nat):Int)=0 from rfl,show (zCj o).leaf=false from rfl,Ar] at Au;have Au:=oh Au;have Cs:=oh A8;have Ch:=oh Bz;have b0a:=zR b0 (.cells #[.string o.key] 9);have b1a:=zR b1 (.cells #[.string o.key] 9);have b2a:=zR b2 (.cells #[.string o.key] 9);have x2a:=zR x2 (.cells #[.string o.key] 9);have ne0:=World.new_ne w4 _ b0;have ne1:=World.new_ne w4 _ b1;have ne2:=World.new_ne w4 _ b2;have ne3:=World.new_ne w4 _ x2;clear By Bz Bg C0 B5 A8 Cg As At;rw[Ar] at m5;have M5:=oh m5;clear m5 Ar;go_wp2_with fail;go_region_held3 (λw'=>w'.cell? ⟨w.heap.size,0,none⟩=some (.pointer (some ⟨c,0,none⟩))/\w'.cell? ⟨w.heap.size,1,none⟩=some (.pointer (some ⟨s,0,none⟩))/\w'.cell? ⟨w.heap.size,2,none⟩=some (.int .u64 (gen:Int))/\w'.cell? ⟨X,2,none⟩=some (.string o.key))
    (first|(with_reducible exact⟨b0,b1,b2,x2⟩)|(with_reducible exact⟨b0a,b1a,b2a,x2a⟩)|(with_reducible exact⟨y0,y1,y2,y3⟩)|go_keep)
    (first
     | (go_at_call 147;refine (Au.out).mono ?_;rintro e w9 ⟨P9,F9,Ab,A1,Ac⟩;obtain⟨iv,ev,rfl⟩:=Ac.form;have B6:=(B3.out.ext M5.out);have y0:=zHO A1.stp.mods (B6.blk.d 0 (.pointer (some ⟨c,0,none⟩)) rfl) B3.out.p;have y1:=zHO A1.stp.mods (B6.blk.d 1 (.pointer (some ⟨s,0,none⟩)) rfl) B3.out.p;have y2:=zHO A1.stp.mods (B6.blk.d 2 (.int .u64 (gen:Int)) rfl) B3.out.p;have y3:=zHO A1.stp.mods ((Aj.out.ext M5.out).blk.d 2 (.string o.key) rfl) Aj.out.p)
     | fail)
   have C1:=zX.less (A2.out.trans (zX.ext A2.out.env A2.out.sub M5.out)) A1 (λk hk=>⟨A2.out.grow k hk,λe=>by have:=Ca.out k hk;have:=Bb.out;omega⟩) (λk h=>h.1);have x4:=(A1.blk (Aj.out.ext M5.out).blk Aj.out.p).d 4 (.bool o.news) rfl;have Af:=oh C1;have C2:=oh Ab;clear A1 Ab C1 B6 y0 y1 y2 y3 b0 b1 b2 x0 x1 x2 x3 b0a b1a b2a x2a ne0 ne1 ne2 ne3;rcases Ac with ⟨i,hi,he⟩|⟨C3,f,el,he,hE⟩
   .obtain⟨rfl,rfl⟩:iv=.int .i64 (i:Int)/\ev=.nilIface:=by simpa using he
    have HI:=oh hi;clear hi he;go_wp2_with fail;go_quiet (fail)
    go_wp2_with fail;refine bodyPost_ret (v:=.tuple #[.int .i64 (i:Int),.bool o.news,.nilIface]) (by simp[results,Tryz.results85,go_sem]) rfl ?_;exact⟨P9,F9,_,_,C2.out.at (zr.drewN _),Af.out.trans (zX.ext Af.out.env Af.out.sub (zr.drewN _)),.inl ⟨i,o.news,by rw[B2.out,HS.out];simp only;rw[if_neg (by rw[B4.out];simp),HI.out],rfl⟩⟩
   .obtain⟨rfl,rfl⟩:iv=.int .i64 0/\ev=zP f:=by simpa using he
    have Bh:=oh C3;have HE:=oh hE;clear C3 hE he;go_wp2_with fail;refine (wrap_any Af.out.env _ _ _ _ HE.out).mono ?_;rintro e w10 ⟨b,rfl,Av,Aw⟩;have Bi:=oh Av;have Ax:=oh Aw;clear Av Aw;go_wp2_with fail;refine bodyPost_ret (v:=.tuple #[.int .i64 0,.bool false,zP b]) (by simp[results,Tryz.results85,go_sem]) rfl ?_;refine⟨P9,F9,_,_,C2.out.at Ax.out,Af.out.trans (zX.ext Af.out.env Af.out.sub Ax.out),.inr ⟨_,b,_,by rw[B2.out,HS.out];simp only;rw[if_neg (by rw[B4.out];simp),Bh.out],?_,rfl,Bi.out⟩⟩;rw[(zJ5 Bh.out gen).1,(zJ5 Bh.out gen).2];exact Ch.out
 .have HS:=oh hs;have HE:=oh hE;have Ci:=oh Bx;clear hs hE Bx;go_wp2_with fail;refine (wrap_any A2.out.env _ _ _ _ HE.out).mono ?_;rintro e w5 ⟨b,rfl,Av,Aw⟩;have Bi:=oh Av;have Ax:=oh Aw;clear Av Aw;go_wp2_with fail;refine bodyPost_ret (v:=.tuple #[.int .i64 0,.bool false,zP b]) (by simp[results,Tryz.results85,go_sem]) rfl ?_;exact⟨P4,F4,G4,l4,Be.out.at Ax.out,A2.out.trans (zX.ext A2.out.env A2.out.sub Ax.out),.inr ⟨k,b,_,by rw[B2.out,HS.out],Ci.out,rfl,Bi.out⟩⟩
end
end
section
open Go.RowKit
section
variable {n:Nat}{G:GA}{l:List Nat}{root d:Nat}{ps:List zL}{pgs:List Nat}
theorem zPV{G':GA}{l':List Nat}{r:Nat × Bool}{gen:Nat}{key v:ByteArray}(hc:zCB G l)(hT:TD G gen root d ps pgs)(hu:zAk l (λk=>k∈pgs))(A3:jO key=true)(hv:v.size<=4096)(h:zHX G l gen root key v=.inl (G',l',r)):G'.cost<=G.cost+61:=by
 rw[zON A3 hv] at h;cases hs:zHZ G l gen root key v with
 | inr k=>rw[hs] at h;cases h
 | inl x =>
  obtain⟨G1,l1,o⟩:=x;obtain⟨_,_,h3,_⟩:=zMK hc hT hu A3 hv hs;rw[hs] at h;simp only at h;split at h
  .injection h with h;injection h with h _;subst h;omega
  .split at h
   .cases h
   .injection h with h;injection h with h _;subst h;have:=(zDA G1 l1 gen 0 (zCj o)).2.2;omega
theorem zOO(v:ByteArray)(h:v.size<=400):ndV 256 v<=2:=by
 unfold ndV;split
 .omega
 .unfold ndS;omega
theorem zKw:∀(ps:List zL),(∀x∈ps,x.2.size<=400)->chS 256 ps<=2 * ps.length
 | [],_=>by simp[chS]
 | x :: ps,h=>by
  have h1:=zKw ps (λy hy=>h y (uJ _ hy));have h2:=zOO x.2 (h x uK);rw[zMB,uG];omega
end
section
variable {G G':GA}{gen:Nat}
theorem qY.each{T:zDR}{lo:ByteArray}{hi:Option ByteArray}{kk:List ByteArray}{cc:List Int}{ps:List zL}{q:List Nat}(h:qY T lo hi kk cc ps q):∀c∈cc,∃(k:Nat) (lo':ByteArray) (hi':Option ByteArray) (l':List zL) (q':List Nat),c=(k:Int)/\T lo' hi' k l' q'/\∀x∈q',x∈q:=by
 induction h with
 | @one lo hi c l q h =>
  intro c' hc;simp only[wO] at hc;exact⟨c,_,_,_,_,hc,h,λ_ hx=>hx⟩
 | @cons lo hi s c keys kids l1 l2 q1 q2 h1 _ _ ih =>
  intro c' hc;rcases uQ.1 hc with rfl|hc
  .exact⟨c,_,_,_,_,rfl,h1,λ_ hx=>wE _ hx⟩
  .obtain⟨k,lo',hi',l',q',e,t,hs⟩:=ih c' hc;exact⟨k,lo',hi',l',q',e,t,λx hx=>wK _ (hs x hx)⟩
end
def zCv(o:Option (zY ⊕ (List Int × Nat))):Prop:=∀p n,o=some (.inl p)->qJ p=.inl n->n.leaf=true->2<=n.entries.length
def InU(l:List Nat)(i:Nat):Prop:=l[i]? = some 1\/l[i]? = some 2
def Wr(G:GA)(l:List Nat)(G1:GA)(l1:List Nat):Prop:=∀i,2<=i->InU l1 i->(G1.view i=G.view i/\InU l i)\/zCv (G1.view i)
section
variable {G G1 G2:GA}{l l1 l2:List Nat}{gen:Nat}
theorem Wr.refl(G:GA)(l:List Nat):Wr G l G l:=λ_ _ h=>.inl ⟨rfl,h⟩
theorem Wr.trans(h:Wr G l G1 l1)(k:Wr G1 l1 G2 l2):Wr G l G2 l2:=λi h2 hu=>by
 rcases k i h2 hu with ⟨k1,k2⟩|k1
 .rcases h i h2 k2 with ⟨h1,h3⟩|h1
  .exact .inl ⟨k1.trans h1,h3⟩
  .exact .inr (by rw[k1];exact h1)
 .exact .inr k1
theorem zOP{n a b:zI}{k:ByteArray}(h:zEa n=some (a,k,b))(hl:n.leaf=true)(hw:232<zH n):2<=a.entries.length/\2<=b.entries.length:=by
 have hr:zO n=true:=by
  unfold zEa at h;split at h
  .rename_i h1;exact h1.1
  .cases h
 have hf:=vB hr;have hM:∀e∈n.entries,zAB e<=59:=λe he=>zFG (zAO hr e he)
 obtain⟨_,_,Ct⟩:=zC9 (a:=0) hl hf;have hs:=zGJ n.entries hM;have A7:4<=n.entries.length:=by omega
 obtain⟨L,hL⟩:∃L,n.entries.length=L+2:=⟨n.entries.length-2,by omega⟩;have Bj:∀k,k<n.entries.length->∃e,n.entries[k]? = some e/\zAB e<=59/\0<=zAB e/\yM (n.entries.take (k+1))=yM (n.entries.take k)+zAB e:=λk hk=>by
  refine⟨n.entries[k],uB hk,hM _ (tB hk),?_,zJz (uB hk)⟩;have:=zBO n.entries[k];omega
 have h0:yM (n.entries.take 0)=0:=by simp[yM]
 have Bk:yM (n.entries.take n.entries.length)=yM n.entries:=by rw[wZ]
 obtain⟨x,a1,a2,a3,a4⟩:=zGi (λa=>2 * yM (n.entries.take a)-yM n.entries) 59 1 L (by
  obtain⟨e,_,e2,e3,e4⟩:=Bj 0 (by omega);have:=zBv n.entries 1;simp only[wG] at e4;show 2 * yM (n.entries.take 1)-yM n.entries<=59;omega) (by
  obtain⟨e,_,e2,e3,e4⟩:=Bj (1+L) (by omega);rw[show 1+L+1=n.entries.length by omega,Bk] at e4;have:=zAe (n.entries.take (1+L));show -59<=2 * yM (n.entries.take (1+L))-yM n.entries;omega) (λk k1 k2=>by
  obtain⟨e,_,e2,e3,e4⟩:=Bj k (by omega);show 2 * yM (n.entries.take (k+1))-yM n.entries-(2 * yM (n.entries.take k)-yM n.entries)<=2 * 59;omega)
 have hp:zBV n x:=⟨λ_=>by omega,λhc=>(by rw[hl] at hc;cases hc)⟩;have hu:=zDu hf hp;obtain⟨w1,w2,_⟩:=zC9 (a:=x) hl hf;obtain⟨y,b1,b2,b3,b4⟩:=zIe hr hf hp (M:=59) (by split at hu <;> omega);obtain⟨v1,v2,_⟩:=zC9 (a:=y) hl hf;rw[zKr,b2] at h;have h:zW n y=(a,k,b):=Option.some.inj h;have hA:a.entries=n.entries.take y:=by
  have:a=(zW n y).1:=by rw[h]
  rw[this,zCh hl]
 have hB:b.entries=n.entries.drop y:=by
  have:b=(zW n y).2.2:=by rw[h]
  rw[this,zCi hl]
 have s1:=zGJ (n.entries.take y) (λe he=>hM e (rG he));have s2:=zGJ (n.entries.drop y) (λe he=>hM e (rS he));have s3:=zId n.entries y;rw[hA,hB];omega
theorem zMM{n a b:zI}{k:ByteArray}(h:zEa n=some (a,k,b)):a.leaf=n.leaf/\b.leaf=n.leaf:=by
 rw[zKr] at h;obtain⟨y,_,hy⟩:=rA.1 h;have hA:a=(zW n y).1:=by rw[hy]
 have hB:b=(zW n y).2.2:=by rw[hy]
 rw[hA,hB,zL0,zL1];exact⟨rfl,rfl⟩
theorem zKx{id j:Nat}(h2:2<=j)(hu:InU (yT l id).1 j):j≠id/\InU l j:=by
 unfold yT at hu;by_cases e:j=id
 .subst e;exfalso;by_cases Ay:j<l.length
  .have:qF l (j:Int)=none:=by unfold qF;rw[if_neg (by omega)]
   rw[this] at hu;simp only[uH] at hu;split at hu
   .unfold InU at hu;rw[wH Ay] at hu;simp at hu
   .rename_i n2;split at hu
    .unfold InU at hu;rw[wH Ay] at hu;simp at hu
    .rename_i n1;exact hu.elim n1 n2
  .have:qF l (j:Int)≠none:=by unfold qF;rw[if_pos (by omega)];simp
   cases hs:qF l (j:Int) with
   | none=>exact this hs
   | some er =>
    rw[hs] at hu;simp only at hu;unfold InU at hu;rw[wT (by omega)] at hu;simp at hu
 .refine⟨e,?_⟩;cases hs:qF l (id:Int) with
  | some er=>rw[hs] at hu;exact hu
  | none =>
   rw[hs] at hu;simp only[uH] at hu;unfold InU at hu ⊢;split at hu
   .rw[uS (λh=>e h.symm)] at hu;exact hu
   .split at hu
    .rw[uS (λh=>e h.symm)] at hu;exact hu
    .exact hu
theorem zQ0{old i:Nat}(hi:jD l old=some i):∀j,2<=j->j≠i->InU (jC l old) j->(qT G l old).view j=G.view j/\InU l j:=by
 intro j h2 hj hu;have Az:InU (l.set i 2) j->InU l j:=λh=>by
  unfold InU at h ⊢;rw[uS (λe=>hj e.symm)] at h;exact h
 unfold jD at hi;unfold jC at hu;unfold qT;by_cases h0:old=0
 .subst h0;rw[if_neg (by simp)] at hi;rw[if_pos rfl] at hu;rw[if_pos (.inl rfl)];unfold zA1 at hu;rw[hi] at hu;exact⟨rfl,Az hu⟩
 .by_cases hf:vS l old=true
  .rw[if_neg h0,if_pos hf] at hu;rw[if_pos (.inr hf)];exact⟨rfl,hu⟩
  .rw[if_neg (λh=>hf h.2)] at hi;rw[if_neg h0,if_neg hf,hi] at hu;rw[if_neg (by rintro (h|h);exact h0 h;exact hf h),if_neg (by rw[hi];simp)];obtain⟨e,hu⟩:=zKx h2 hu;rw[zCP,if_neg e];exact⟨rfl,Az hu⟩
theorem zJ6{old i:Nat}{n:zI}(h:qU G l old n=some i):zCt n G.size:=by
 unfold qU at h;split at h
 .rename_i hd;exact hd
 .cases h
theorem zFt{gen:Nat}(G:GA)(l:List Nat)(old:Nat)(n:zI):(yQ G l gen old n).size=G.size:=by
 unfold yQ;split
 .rfl
 .show (qT G l old).size=G.size;unfold qT;split
  .rfl
  .split <;> rfl
theorem zMN{n:zI}(hr:zO n=true)(hn:n.leaf=true->2<=n.entries.length)(i gen:Nat):zCv (some (.inl ⟨zBW n,(i:Int),gen,yE n⟩)):=by
 intro p n' hp hd hl;have hp:(⟨zBW n,(i:Int),gen,yE n⟩:zY)=p:=by injection hp with hp;injection hp
 subst hp;have:qJ ⟨zBW n,(i:Int),gen,yE n⟩=.inl n:=by
  unfold qJ;have hk:zBW n=3\/zBW n=2:=by unfold zBW;split <;> simp
  have A9:decide (zBW n=3)=n.leaf:=by unfold zBW;cases n.leaf <;> rfl
  simp only;rw[if_pos hk,A9,(zH0 n.leaf (yE n) n).2 ⟨hr,rfl,rfl⟩]
 rw[this] at hd;injection hd with hd;subst hd;exact hn hl
theorem zGP{old i:Nat}{n:zI}(hn:n.leaf=true->2<=n.entries.length)(hi:qU G l old n=some i):Wr G l (yQ G l gen old n) (yY G l old n):=by
 have Ag:=zJ6 hi;have Ah:jD l old=some i:=by unfold qU at hi;rw[if_pos Ag] at hi;exact hi
 have eG:yQ G l gen old n=(qT G l old).put ⟨zBW n,(i:Int),gen,yE n⟩:=by unfold yQ;rw[hi]
 have eL:yY G l old n=jC l old:=by unfold yY;rw[if_pos Ag]
 rw[eG,eL];intro j h2 hu;rw[zBC];simp only[uH];by_cases e:j=i
 .rw[if_pos e];exact .inr (zMN Ag.1 hn i gen)
 .rw[if_neg e];exact .inl (zQ0 Ah j h2 e hu)
theorem zMO{old i:Nat}{n:zI}(hn:n.leaf=true->2<=n.entries.length)(h2:2<=old)(hi:qU G l old n=some i)(hu:InU (yY G l old n) old):zCv ((yQ G l gen old n).view old):=by
 have Ag:=zJ6 hi;have Ah:jD l old=some i:=by unfold qU at hi;rw[if_pos Ag] at hi;exact hi
 have eG:yQ G l gen old n=(qT G l old).put ⟨zBW n,(i:Int),gen,yE n⟩:=by unfold yQ;rw[hi]
 have eL:yY G l old n=jC l old:=by unfold yY;rw[if_pos Ag]
 rw[eL] at hu;rw[eG,zBC];simp only[uH];by_cases e:old=i
 .rw[if_pos e];exact zMN Ag.1 hn i gen
 .exfalso;unfold jD at Ah;unfold jC at hu;by_cases hf:vS l old=true
  .rw[if_pos ⟨by omega,hf⟩] at Ah;exact e (Option.some.inj Ah)
  .rw[if_neg (λh=>hf h.2)] at Ah;rw[if_neg (by omega),if_neg hf,Ah] at hu;exact (zKx h2 hu).1 rfl
theorem zNX{old:Nat}{n:zI}{o:zBH}(B0:256<=G.size)(hn:n.leaf=true->2<=n.entries.length)(h2:2<=old)(h:qG G l gen old n=.inl (G1,l1,o))(hu:InU l1 old):zCv (G1.view old):=by
 unfold qG at h;split at h
 .split at h
  .rename_i i hi;simp only[Sum.inl.injEq,Prod.mk.injEq] at h;obtain⟨rfl,rfl,_⟩:=h;exact zMO hn h2 hi hu
  .cases h
 .rename_i hw;split at h
  .cases h
  .rename_i a k b hc;have hl:=zMM hc;split at h
   .split at h
    .cases h
    .rename_i i hi;split at h
     .cases h
     .rename_i j hj;simp only[Sum.inl.injEq,Prod.mk.injEq] at h;obtain⟨rfl,rfl,_⟩:=h;have hh:n.leaf=true->2<=a.entries.length/\2<=b.entries.length:=λA9=>zOP hc A9 (by omega)
      rcases zGP (gen:=gen) (λe=>(hh (hl.2 ▸ e)).2) hj old h2 hu with ⟨w1,w2⟩|w1
      .rw[w1];exact zMO (λe=>(hh (hl.1 ▸ e)).1) h2 hi w2
      .exact w1
   .cases h
theorem zJ7{old:Nat}{n:zI}{o:zBH}(B0:256<=G.size)(hn:n.leaf=true->2<=n.entries.length)(h:qG G l gen old n=.inl (G1,l1,o)):Wr G l G1 l1:=by
 unfold qG at h;split at h
 .split at h
  .rename_i i hi;simp only[Sum.inl.injEq,Prod.mk.injEq] at h;obtain⟨rfl,rfl,_⟩:=h;exact zGP hn hi
  .cases h
 .rename_i hw;split at h
  .cases h
  .rename_i a k b hc;have hl:=zMM hc;split at h
   .split at h
    .cases h
    .rename_i i hi;split at h
     .cases h
     .rename_i j hj;simp only[Sum.inl.injEq,Prod.mk.injEq] at h;obtain⟨rfl,rfl,_⟩:=h;have h2:n.leaf=true->2<=a.entries.length/\2<=b.entries.length:=λA9=>zOP hc A9 (by omega)
      exact (zGP (gen:=gen) (λe=>(h2 (hl.1 ▸ e)).1) hi).trans (zGP (λe=>(h2 (hl.2 ▸ e)).2) hj)
   .cases h
theorem zJ8(v:List UInt8)(n:Nat)(ids:List Nat):∀(k:Nat) (G:GA),k<=ids.length->∀j,(j∈ids.take k->zCv ((zAH gen v n ids k G).view j))/\(j ∉ ids.take k->(zAH gen v n ids k G).view j=G.view j)
 | 0,G,_,j=>⟨λh=>by simp at h,λ_=>rfl⟩
 | k+1,G,hk,j=>by
  obtain⟨h1,h2⟩:=zJ8 v n ids k G (by omega) j;have C4:k<ids.length:=by omega
  have he:(zAU gen v n ids k).id.toNat=ids[k]:=by
   show (((ids.getD k 0:Nat):Int)).toNat=_;rw[uH];simp[List.getD,C4]
  rw[zAH,zBC,he,rP C4];by_cases e:j=ids[k]
  .rw[if_pos e];refine⟨λ_ p n' hp hd _=>?_,λh=>absurd (uM.2 (.inr (by simp[e]))) h⟩;have hp:zAU gen v n ids k=p:=by injection hp with hp;injection hp
   subst hp;unfold qJ at hd;rw[if_neg (by show ¬ ((4:Int)=3\/(4:Int)=2);omega)] at hd;cases hd
  .rw[if_neg e];refine⟨λh=>?_,λh=>h2 (λhm=>h (uM.2 (.inl hm)))⟩;rcases uM.1 h with h|h
   .exact h1 h
   .exact absurd (wO.1 h) e
theorem zQ1{key v:ByteArray}{e:zM}(h:zBI G l gen key v=.inl (G1,l1,e)):Wr G l G1 l1:=by
 unfold zBI at h;split at h
 .simp only[Sum.inl.injEq,Prod.mk.injEq] at h;obtain⟨rfl,rfl,_⟩:=h;exact Wr.refl _ _
 .split at h
  .rename_i ids l2 ht;simp only[Sum.inl.injEq,Prod.mk.injEq] at h;obtain⟨rfl,rfl,_⟩:=h;have hT:=zBY _ _ _ _ ht;intro j _ hu;obtain⟨k1,k2⟩:=zJ8 (gen:=gen) v.data.toList (G.size-28) ids ids.length G (uD _) j;rw[wZ] at k1 k2;by_cases hj:j∈ids
   .exact .inr (k1 hj)
   .refine .inl ⟨k2 hj,?_⟩;unfold InU at hu ⊢;rw[hT.far j hj] at hu;exact hu
  .cases h
theorem zOQ:∀(ids:List Nat) (G:GA) (l:List Nat),Wr G l (jY G ids) (jU l ids)
 | [],G,l=>Wr.refl G l
 | x :: ids,G,l=>by
  refine Wr.trans (G1:=G.drop x) (l1:=(yT l x).1) (λj h2 hu=>?_) (zOQ ids (G.drop x) (yT l x).1);obtain⟨e,Cj⟩:=zKx h2 hu;exact .inl ⟨by rw[zCP,if_neg e],Cj⟩
theorem zPW(n:zI)(key:ByteArray)(e:zM):n.entries.length<=(zDd n key e).entries.length/\(zAY key n.entries=false->n.entries.length+1<=(zDd n key e).entries.length):=by
 unfold zDd;simp only[uC,wB,wN,uG,uL];refine⟨by split <;> omega,λh=>?_⟩;rw[if_neg (by rw[h];simp)];omega
theorem vU.fat{es:List zM}{ps:List zL}{q:List Nat}(h:vU G gen es ps q):∀i∈q,zCv (G.view i):=by
 induction h with
 | nil=>intro i hi;simp at hi
 | @cons e0 x0 ids es0 l0 q0 _ h2 _ ih =>
  intro i hi;rcases uM.1 hi with hi|hi
  .rcases h2 with ⟨_,_,rfl⟩|⟨_,h⟩
   .simp at hi
   .obtain⟨g,_,hp⟩:=h.page;obtain⟨k,hk,rfl⟩:=wF hi;have:=hp k hk;rw[show ids.getD k 0=ids[k] by simp[List.getD,hk]] at this;intro p n e hd _;rw[this] at e;injection e with e;injection e with e;subst e;unfold qJ at hd;rw[if_neg (by show ¬ ((4:Int)=3\/(4:Int)=2);omega)] at hd;cases hd
  .exact ih i hi
theorem zIn(ids:List Nat)(G:GA):(jY G ids).size=G.size:=(zCJ ids G).2.1
theorem zIo{key v:ByteArray}{e:zM}(h:zBI G l gen key v=.inl (G1,l1,e)):G1.size=G.size:=by
 unfold zBI at h;split at h
 .injection h with h;obtain⟨rfl,_⟩:=Prod.mk.inj h;rfl
 .split at h
  .injection h with h;obtain⟨rfl,_⟩:=Prod.mk.inj h;exact (vG _ _ _ _ _ _).2.1
  .cases h
theorem zHP{old:Nat}{n:zI}{o:zBH}(h:qG G l gen old n=.inl (G1,l1,o)):G1.size=G.size:=by
 unfold qG at h;split at h
 .split at h
  .injection h with h;obtain⟨rfl,_⟩:=Prod.mk.inj h;exact zFt _ _ _ _
  .cases h
 .split at h
  .cases h
  .split at h
   .split at h
    .cases h
    .split at h
     .cases h
     .injection h with h;obtain⟨rfl,_⟩:=Prod.mk.inj h;exact (zFt _ _ _ _).trans (zFt _ _ _ _)
   .cases h
theorem zPX{id:Nat}{n:zI}{key v:ByteArray}{o:zBH}(h:zB6 G l gen id n key v=.inl (G1,l1,o)):G1.size=G.size:=by
 unfold zB6 at h;split at h
 .cases h
 .rename_i G2 l2 e he;split at h
  .cases h
  .rename_i G3 l3 o3 hs;simp only[Sum.inl.injEq,Prod.mk.injEq] at h;obtain⟨rfl,_⟩:=h;exact (zHP hs).trans ((zIo he).trans (zIn _ _))
theorem zRu{id:Nat}{n:zI}{key v:ByteArray}{o:zBH}(B0:256<=G.size)(hn:2<=n.entries.length\/(1<=n.entries.length/\o.news=true))(h:zB6 G l gen id n key v=.inl (G1,l1,o)):Wr G l G1 l1/\(2<=id->InU l1 id->zCv (G1.view id)):=by
 unfold zB6 at h;split at h
 .cases h
 .rename_i G2 l2 e he;split at h
  .cases h
  .rename_i G3 l3 o3 hs;simp only[Sum.inl.injEq,Prod.mk.injEq] at h;obtain⟨rfl,rfl,h⟩:=h;have hw:=zPW n key e;have C5:2<=(zDd n key e).entries.length:=by
    rcases hn with hn|⟨hn,Ak⟩
    .omega
    .have:zAY key n.entries=false:=by rw[<- h] at Ak;simpa using Ak
     have:=hw.2 this;omega
   have Cu:G2.size=G.size:=(zIo he).trans (zIn _ _);exact⟨((zOQ _ G l).trans (zQ1 he)).trans (zJ7 (by omega) (λ_=>C5) hs),λh2 hu=>zNX (by omega) (λ_=>C5) h2 hs hu⟩
theorem zNY(n:zI)(i:Nat)(o:zBH):(zDe n i o).leaf=n.leaf:=by unfold zDe;split <;> rfl
theorem zQ2{key v:ByteArray}:∀(f d:Nat) (G:GA) (l:List Nat) (id:Nat) (lo:ByteArray) (hi:Option ByteArray) (ps:List zL) (q:List Nat) (G1:GA) (l1:List Nat) (o:zBH),zCB G l->vX G gen d lo hi id ps q->(∀i∈q,zCv (G.view i))\/(d=1/\o.news=true)->zC7 gen key v f G l id=.inl (G1,l1,o)->G1.size=G.size/\Wr G l G1 l1/\(d=1->InU l1 id->zCv (G1.view id))
 | 0,_,_,_,_,_,_,_,_,_,_,_,_,_,_,h=>by unfold zC7 at h;cases h
 | f+1,0,_,_,_,_,_,_,_,_,_,_,_,hT,_,_=>hT.elim
 | f+1,d+1,G,l,id,lo,hi,ps,q,G1,l1,o,hc,hT,hF,h=>by
  obtain⟨n,q,hp,hr,rfl,hb⟩:=hT;have Ck:=(zKu hp).1;rw[zC7,Ck] at h;simp only at h;by_cases hl:n.leaf=true
  .rw[if_pos hl] at h;refine⟨zPX h,(zRu hc.s256 ?_ h).imp_right (λw _=>w hp.lo)⟩;rcases hF with hF|⟨_,Ak⟩
   .obtain⟨p,h1,_,h3⟩:=hp.page;exact .inl (hF id uK p n h1 h3 hl)
   .refine .inr ⟨?_,Ak⟩;rcases hb with ⟨_,_,A8,he,_⟩|⟨h2,_⟩
    .have:=he.len;rcases tV n.entries.length with h0|h0
     .exact absurd (List.length_eq_zero_iff.1 (by omega)) A8
     .exact h0
    .rw[h2] at hl;cases hl
  .rw[if_neg hl] at h;rcases hb with ⟨h2,_⟩|⟨h2,hk⟩
   .exact absurd h2 hl
   .have hd:¬ d=0:=λe=>by subst e;exact hk.pos
    have Cl:∀i∈id :: q,zCv (G.view i):=by
     rcases hF with hF|⟨h1,_⟩
     .exact hF
     .omega
    have Bl:n.kids.getD (vZ key n.keys) 0∈n.kids:=by
     have A7:=hk.len;have Cv:vZ key n.keys<=n.keys.length:=List.findIdx_le_length;have:vZ key n.keys<n.kids.length:=by omega
     rw[show n.kids.getD (vZ key n.keys) 0=n.kids[vZ key n.keys] by simp[List.getD,this]];exact tB _
    obtain⟨k,lo',hi',l',q',e,t,Bm⟩:=hk.each _ Bl;rw[e,uH] at h;split at h
    .cases h
    .rename_i G2 l2 o2 Cm;split at h
     .cases h
     .rename_i G3 l3 o3 hs;simp only[Sum.inl.injEq,Prod.mk.injEq] at h;obtain⟨rfl,rfl,_⟩:=h;obtain⟨z1,w1,_⟩:=zQ2 f d G l k lo' hi' l' q' G2 l2 o2 hc t (.inl (λi hi=>Cl i (uJ _ (Bm i hi)))) Cm;exact⟨(zHP hs).trans z1,w1.trans (zJ7 (by have:=hc.s256;omega) (λA9=>by rw[zNY,h2] at A9;cases A9) hs),λe=>absurd (show d=0 by omega) hd⟩
theorem zQ3{x:zL}{key v:ByteArray}(h:2<=(yV key v true [x]).length):(qI key [x]).isNone=true:=by
 unfold yV at h;split at h
 .rename_i h1;have:x.1≠key:=zFi h1;unfold qI;simp[this]
 .split at h
  .simp at h
  .rename_i h2;unfold qI;simp[h2]
theorem zQ4{root d r':Nat}{ps:List zL}{pgs pgs':List Nat}{key v:ByteArray}{nw:Bool}(hc:zCB G l)(hT:TD G gen root d ps pgs)(C6:∀i,6<=i->InU l i->i∈pgs)(hF:2<=ps.length->∀i∈pgs,zCv (G.view i))
  (A3:jO key=true) (hv:v.size<=4096) (Ak:nw=(qI key ps).isNone) (h:zHX G l gen root key v=.inl (G1,l1,(r',nw))) (h6:∀i∈pgs',6<=i/\InU l1 i) (h2:2<=(yV key v true ps).length):∀i∈pgs',zCv (G1.view i):=by
 have key0:Wr G l G1 l1/\(2<=ps.length\/(ps.length=1/\∀i∈pgs,InU l1 i->zCv (G1.view i))):=by
  rcases hT.tree with ⟨rfl,rfl,rfl,rfl⟩|⟨hd,A4⟩
  .have:=zGc key v true [];simp at this h2;omega
  .have A8:=vX.ne _ _ _ _ _ _ A4;have A7:2<=ps.length\/ps.length=1:=by
    have:=List.length_pos_iff.2 A8;omega
   have A5:root≠0:=by
    obtain⟨r,hr⟩:=vX.head _ _ _ _ _ _ A4;have:=hT.lt root (by rw[hr];simp);omega
   have Bn:zDQ key v=none:=by unfold zDQ;rw[if_neg (by rw[A3];simp),if_neg (by omega)]
   unfold zHX at h;rw[Bn] at h;simp only at h;rw[if_neg A5] at h;split at h
   .cases h
   .rename_i G2 l2 o hp;have B1:(∀i∈pgs,zCv (G.view i))\/(d=1/\o.news=true):=by
     rcases A7 with hl|hl
     .exact .inl (hF hl)
     .refine .inr ⟨?_,?_⟩
      .have:=(vX.count _ _ _ _ _ _ A4).2.1;rw[hl] at this;rcases tK 1 d with Ay|Bo
       .have:2 ^ 1<=2 ^ (d-1):=wX (by omega) (by omega);omega
       .omega
      .obtain⟨x,rfl⟩:∃x,ps=[x]:=List.length_eq_one_iff.1 hl;have Cn:=zQ3 h2;have:o.news=nw:=by
        split at h
        .injection h with h;simp only[Prod.mk.injEq] at h;exact h.2.2.2
        .split at h
         .cases h
         .injection h with h;simp only[Prod.mk.injEq] at h;exact h.2.2.2
       rw[this,Ak];exact Cn
    obtain⟨z1,w1,w3⟩:=zQ2 16 d G l root e0 none ps pgs G2 l2 o hc A4 B1 hp;have hw:Wr G2 l2 G1 l1:=by
     split at h
     .injection h with h;simp only[Prod.mk.injEq] at h;obtain⟨rfl,rfl,_⟩:=h;exact Wr.refl _ _
     .split at h
      .cases h
      .rename_i i hi;injection h with h;simp only[Prod.mk.injEq] at h;obtain⟨rfl,rfl,_⟩:=h;exact zGP (λA9=>by cases A9) hi
    refine⟨w1.trans hw,A7.imp id (λhl=>⟨hl,λi hi hu=>?_⟩)⟩;have Co:d=1:=by
     have:=(vX.count _ _ _ _ _ _ A4).2.1;rw[hl] at this;rcases tK 1 d with Ay|Bo
     .have:2 ^ 1<=2 ^ (d-1):=wX (by omega) (by omega);omega
     .omega
    subst Co;obtain⟨n,q,Cw,hr,rfl,hb⟩:=A4;have Bp:zCv (G.view i)\/i=root:=by
     rcases uQ.1 hi with e|hi
     .exact .inr e
     .rcases hb with ⟨_,_,_,he,_⟩|⟨_,hk⟩
      .exact .inl (he.fat i hi)
      .exact hk.pos.elim
    rcases (w1.trans hw) i (hT.lt i hi).1 hu with ⟨x1,_⟩|x1
    .rcases Bp with Bp|rfl
     .rw[x1];exact Bp
     .rcases hw i (hT.lt i hi).1 hu with ⟨y1,y2⟩|y1
      .rw[y1];exact w3 rfl y2
      .exact y1
    .exact x1
 intro i hi;obtain⟨i6,iu⟩:=h6 i hi;rcases key0.1 i (by omega) iu with ⟨w1,w2⟩|w1
 .rcases key0.2 with hl|hl
  .rw[w1];exact hF hl i (C6 i i6 w2)
  .exact hl.2 i (C6 i i6 w2) iu
 .exact w1
end
section
variable {G:GA}{gen:Nat}{T:zDR}
theorem qY.count2{q0:List Nat}{sz a:Nat}{lo:ByteArray}{hi:Option ByteArray}{kk:List ByteArray}{cc:List Int}{l:List zL}{q:List Nat}(hT:∀lo hi c l q',(∀i∈q',i∈q0)->T lo hi c l q'->q'.length+1<=l.length+chS sz l/\a<=l.length)(h:qY T lo hi kk cc l q) :
  (∀i∈q,i∈q0)->q.length+kk.length+1<=l.length+chS sz l/\(kk.length+1) * a<=l.length:=by
 induction h with
 | one h=>intro hq;have:=hT _ _ _ _ _ hq h;simpa using this
 | cons h _ _ ih =>
  intro hq;have h1:=hT _ _ _ _ _ (λi hi=>hq i (wE _ hi)) h;have h2:=ih (λi hi=>hq i (wK _ hi));simp only[uC,uG,zIf];have m1:∀k:Nat,(k+1+1) * a=(k+1) * a+a:=λk=>wY _ _
  rw[m1];omega
theorem vX.count2:∀(d:Nat) (lo:ByteArray) (hi:Option ByteArray) (id:Nat) (l:List zL) (q:List Nat),vX G gen d lo hi id l q->(∀i∈q,zCv (G.view i))->q.length+1<=l.length+chS G.size l/\2 ^ d<=l.length
 | 0,_,_,_,_,_,h,_=>h.elim
 | d+1,lo,hi,id,l,q,h,hF=>by
  obtain⟨n,q,hp,hr,rfl,h⟩:=h;rcases h with ⟨hl,rfl,A8,he,_⟩|⟨hl,hk⟩
  .have hc:=he.count (zAO hr);obtain⟨p,h1,_,h3⟩:=hp.page;have h2:=hF id uK p n h1 h3 hl;have h4:=he.len;simp only[uG];refine⟨by omega,by simp;omega⟩
  .have h2:=(zFH hr).2.2 hl;have A7:=hk.len;have h3:=hk.count2 (q0:=q) (sz:=G.size) (a:=2 ^ d) (λlo hi c l q' hs t=>vX.count2 d lo hi c l q' t (λi hi=>hF i (uJ _ (hs i hi)))) (λi hi=>hi);obtain⟨k,Cp⟩:∃k,n.keys.length=k+1:=⟨n.keys.length-1,by omega⟩;rw[Cp] at h3;have m1:(k+1+1) * 2 ^ d=k * 2 ^ d+2 ^ d+2 ^ d:=by rw[wY,wY]
   rw[m1] at h3;have e:2 ^ (d+1)=2 ^ d+2 ^ d:=by rw[pH];omega
   simp only[uG];rw[e];omega
theorem TD.count2{root d:Nat}{ps:List zL}{pgs:List Nat}(h:TD G gen root d ps pgs)(hF:2<=ps.length->∀i∈pgs,zCv (G.view i)):pgs.length<=ps.length+chS G.size ps/\(2<=ps.length->pgs.length+1<=ps.length+chS G.size ps/\2 ^ d<=ps.length)/\(ps.length<=1->d<=1):=by
 rcases h.tree with ⟨_,rfl,rfl,rfl⟩|⟨hd,hT⟩
 .simp
 .have A8:=vX.ne _ _ _ _ _ _ hT;have Cq:=List.length_pos_iff.2 A8;rcases tK 1 ps.length with h2|h2
  .have hc:=vX.count2 _ _ _ _ _ _ hT (hF h2);exact⟨by omega,λ_=>hc,λh=>by omega⟩
  .have hc:=vX.count _ _ _ _ _ _ hT;refine⟨by omega,λh=>by omega,λ_=>?_⟩;rcases tK 1 d with Ay|Bo
   .have:2 ^ 1<=2 ^ (d-1):=wX (by omega) (by omega);omega
   .exact Bo
end
end
end Go.Proofs.YtalpfcaakpgkmaaGreatDoor
