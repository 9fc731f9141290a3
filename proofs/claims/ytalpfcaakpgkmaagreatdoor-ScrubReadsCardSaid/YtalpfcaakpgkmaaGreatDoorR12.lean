import Derived.Test.YtalpfcaakpgkmaaGreatDoorR11
import Derived.Test.YtalpfcaakpgkmaaGreatDoorR04
namespace Go.Proofs.YtalpfcaakpgkmaaGreatDoor
open Lib renaming hid->oh
set_option maxHeartbeats 1600000
set_option maxRecDepth 100000
open Go.RowKit
def zDo(blocks size:Int):Bool:=decide (8<=blocks) && decide (blocks<=256) && decide (256<=size) && decide (size<=1024)
theorem zH3(b s:Int)(w:World) : Calls Tryz.prog 75 #[.agg #[.int .i64 b,.int .i64 s]] w λe w'=>e=.returned (.bool (zDo b s))/\zF w w':=by
 by_cases h1:8<=b
 .by_cases h2:b<=256
  .by_cases h3:256<=s
   .have HR:Hid (zDo b s=(decide (8<=b) && decide (b<=256) && decide (256<=s) && decide (s<=1024))):=oh rfl
    go_enter Tryz.func75, Tryz.ntmps75
    go_wp2
    go_ret;exact⟨yB (by rw[HR.out];simp;try omega),(zss w).alloc _⟩
   .have HR:Hid (zDo b s=(decide (8<=b) && decide (b<=256) && decide (256<=s) && decide (s<=1024))):=oh rfl
    go_enter Tryz.func75, Tryz.ntmps75
    go_wp2
    go_ret;exact⟨yB (by rw[HR.out];simp;try omega),(zss w).alloc _⟩
  .have HR:Hid (zDo b s=(decide (8<=b) && decide (b<=256) && decide (256<=s) && decide (s<=1024))):=oh rfl
   go_enter Tryz.func75, Tryz.ntmps75
   go_wp2
   go_ret;exact⟨yB (by rw[HR.out];simp;try omega),(zss w).alloc _⟩
 .have HR:Hid (zDo b s=(decide (8<=b) && decide (b<=256) && decide (256<=s) && decide (s<=1024))):=oh rfl
  go_enter Tryz.func75, Tryz.ntmps75
  go_wp2
  go_ret;exact⟨yB (by rw[HR.out];simp;try omega),(zss w).alloc _⟩
def yL(s:yG):Value:=.agg #[.int .u64 (s.gen:Int),.int .i64 (s.blocks:Int),.int .i64 (s.size:Int),.int .i64 (s.root:Int),.int .i64 (s.keys:Int)]
def zBT(s:yG):Option Err:=if zBe s=true then none else some ([-1],1)
theorem zKS{g b z r k:Nat}(h:zDo b z=false\/2147483647<k\/r=1\/2<=r/\b<=r\/r=0/\k≠0):zBT ⟨g,b,z,r,k⟩=some ([-1],1):=by
 unfold zBT;rw[if_neg];rw[zAp];simp only;rintro⟨a1,a2,a3,a4,a5,a6,a7⟩;rcases h with h|h|h|h|h
 .unfold zDo at h;simp at h;omega
 all_goals omega
theorem zI9{g b z r k:Nat}(h0:zDo b z=true)(hk:k<=2147483647)(h:r=0/\k=0\/2<=r/\r<b):zBT ⟨g,b,z,r,k⟩=none:=by
 unfold zBT;rw[if_pos];rw[zAp];simp only;unfold zDo at h0;simp at h0;omega
theorem zF6{F:NP}{ad:Nat->Addr}{w:World}(hL:yH F ad w)(s:yG) :
  Calls Tryz.prog 197 #[yL s] w λe w'=>∃ev,e=.returned ev/\zAb F ad w' ev (zBT s)/\zF w w':=by
 have HL:Hid (∀w',zF w w'->yH F ad w'):=oh (λw' m=>hL.mods m.ext);have z1 : 3 < w.heap.size:=uF (by decide) hL.size;have H1:Hid (∀w',zF w w'->w'.cell? ⟨3,0,none⟩=some (.iface 448 (.pointer (some (ad 1))))):=oh (λw' m=>(hL.mods m.ext).c1);clear hL;obtain⟨g,b,z,r,k⟩:=s;unfold yL;obtain⟨ro,A7⟩:∃ro,zDo (b:Int) (z:Int)=ro:=⟨_,rfl⟩;have Ap:=oh A7;have M0:Hid (zF w (w.alloc (.cells #[.int .u64 (g:Int),.int .i64 (b:Int),.int .i64 (z:Int),.int .i64 (r:Int),.int .i64 (k:Int)] 55))):=oh ((zss w).alloc _);have HB:Hid (∀W,zF (w.alloc (.cells #[.int .u64 (g:Int),.int .i64 (b:Int),.int .i64 (z:Int),.int .i64 (r:Int),.int .i64 (k:Int)] 55)) W->zG W w.heap.size #[.int .u64 (g:Int),.int .i64 (b:Int),.int .i64 (z:Int),.int .i64 (r:Int),.int .i64 (k:Int)] 55):=oh (λW m=>(zG.new w _ _).ext m);by_cases A1:ro=false\/ro=true/\2147483647<k\/ro=true/\k<=2147483647/\r=1\/ro=true/\k<=2147483647/\2<=r/\b<=r\/ro=true/\k<=2147483647/\r=0/\k≠0
 .have HC:Hid (zBT ⟨g,b,z,r,k⟩=some ([-1],1)):=oh (zKS (by
   rw[A7];rcases A1 with h|h|h|h|h
   .exact .inl h
   .exact .inr (.inl h.2)
   .exact .inr (.inr (.inl h.2.2))
   .exact .inr (.inr (.inr (.inl h.2.2)))
   .exact .inr (.inr (.inr (.inr h.2.2)))))
  clear A7;rcases A1 with rfl|⟨rfl,h1⟩|⟨rfl,h1,rfl⟩|⟨rfl,h1,h2,h3⟩|⟨rfl,h1,rfl,h2⟩
  all_goals
   go_enter Tryz.func197, Tryz.ntmps197
   go_wp2_with fail;refine (zH3 _ _ _).mono ?_;rintro e w1 ⟨rfl,m1⟩;rw[Ap.out];have M1:=oh (M0.out.trans m1);have hB:=HB.out _ m1;have c1:=hB.k 1 rfl;have c2:=hB.k 2 rfl;have c3:=hB.k 3 rfl;have c4:=hB.k 4 rfl;have g1:=H1.out _ M1.out;clear hB m1;go_wp2_with fail;refine (vI (HL.out _ M1.out) _ _ _ 1 (.sent 1 (by decide) (by decide))).mono ?_;rintro e w2 ⟨f,rfl,hE,hm⟩;have HE:=oh hE;clear hE;go_wp2
   go_ret;exact⟨_,rfl,by rw[HC.out];exact⟨f,rfl,HE.out⟩,M1.out.trans hm⟩
 .have A8:ro=true/\k<=2147483647/\(r=0/\k=0\/2<=r/\r<b):=by
   cases ro
   .exact absurd (.inl rfl) A1
   .refine⟨rfl,?_⟩;simp only[true_and] at A1;simp at A1;omega
  obtain⟨rfl,hk,hg⟩:=A8;have HC:Hid (zBT ⟨g,b,z,r,k⟩=none):=oh (zI9 A7 hk hg);clear A7 A1;rcases hg with ⟨rfl,rfl⟩|⟨h2,h3⟩
  all_goals
   go_enter Tryz.func197, Tryz.ntmps197
   go_wp2_with fail;refine (zH3 _ _ _).mono ?_;rintro e w1 ⟨rfl,m1⟩;rw[Ap.out];have M1:=oh (M0.out.trans m1);have hB:=HB.out _ m1;have c1:=hB.k 1 rfl;have c2:=hB.k 2 rfl;have c3:=hB.k 3 rfl;have c4:=hB.k 4 rfl;clear hB m1;go_wp2_with fail;go_ret;exact⟨_,rfl,by rw[HC.out];rfl,M1.out⟩
theorem Tryz.idx4_0(a0 a1 a2 a3:Int)(w:World):(Instr.index 318 (.agg #[.int .i64 a0,.int .i64 a1,.int .i64 a2,.int .i64 a3]) (.int .i64 0)).run Tryz.prog w=.ok (.int .i64 a0) w:=by kernel_rfl
theorem Tryz.idx4_1(a0 a1 a2 a3:Int)(w:World):(Instr.index 318 (.agg #[.int .i64 a0,.int .i64 a1,.int .i64 a2,.int .i64 a3]) (.int .i64 1)).run Tryz.prog w=.ok (.int .i64 a1) w:=by kernel_rfl
theorem Tryz.idx4_2(a0 a1 a2 a3:Int)(w:World):(Instr.index 318 (.agg #[.int .i64 a0,.int .i64 a1,.int .i64 a2,.int .i64 a3]) (.int .i64 2)).run Tryz.prog w=.ok (.int .i64 a2) w:=by kernel_rfl
theorem Tryz.idx4_3(a0 a1 a2 a3:Int)(w:World):(Instr.index 318 (.agg #[.int .i64 a0,.int .i64 a1,.int .i64 a2,.int .i64 a3]) (.int .i64 3)).run Tryz.prog w=.ok (.int .i64 a3) w:=by kernel_rfl
def zFj(s:yG):Nat->List UInt8
 | 0=>[]
 | 1=>yD 4 s.blocks
 | 2=>yD 4 s.blocks++yD 4 s.size
 | 3=>yD 4 s.blocks++yD 4 s.size++yD 4 s.root
 | _=>yD 4 s.blocks++yD 4 s.size++yD 4 s.root++yD 4 s.keys
def zJA(s:yG):Nat->Nat
 | 0=>s.blocks
 | 1=>s.size
 | 2=>s.root
 | _=>s.keys
theorem zQH(s:yG):∀k,k<=4->(zFj s k).length=4 * k
 | 0,_=>rfl
 | 1,_=>by simp[zFj,zD]
 | 2,_=>by simp[zFj,zD]
 | 3,_=>by simp[zFj,zD]
 | 4,_=>by simp[zFj,zD]
 | k+5,h=>by omega
theorem zOl(s:yG):∀k,k<4->zFj s k++yD 4 (zJA s k)=zFj s (k+1)
 | 0,_=>by simp[zFj,zJA]
 | 1,_=>by simp[zFj,zJA]
 | 2,_=>by simp[zFj,zJA]
 | 3,_=>by simp[zFj,zJA]
 | k+4,h=>by omega
theorem zTF(s:yG)(k:Nat)(hk:k<4)(w:World):(Instr.index 318 (.agg #[.int .i64 (s.blocks:Int),.int .i64 (s.size:Int),.int .i64 (s.root:Int),.int .i64 (s.keys:Int)]) (.int .i64 (k:Int))).run Tryz.prog w=.ok (.int .i64 (zJA s k:Int)) w:=by
 match k,hk with
 | 0,_=>exact Tryz.idx4_0 _ _ _ _ w
 | 1,_=>exact Tryz.idx4_1 _ _ _ _ w
 | 2,_=>exact Tryz.idx4_2 _ _ _ _ w
 | 3,_=>exact Tryz.idx4_3 _ _ _ _ w
theorem zMm{F:NP}{ad:Nat->Addr}{w:World}(hL:yH F ad w)(s:yG)(hs:zBe s=true)(hg:s.gen<18446744073709551616)(i:Nat)(hi:i<2) :
  Calls Tryz.prog 118 #[yL s,.int .i64 (i:Int)] w λe w'=>∃a c,e=.returned (.tuple #[.slice a s.size c,.nilIface])/\yC F w' w.heap.size 5 1 zZ (.slice a s.size c) (yK s i)/\zF w w':=by
 have HL:Hid (∀w',zF w w'->yH F ad w'):=oh (λw' m=>hL.mods m.ext);have HF:Hid (Bd F w):=oh (λk hk=>hL.lt k hk);clear hL;have HC:Hid (zBT s=none):=oh (by unfold zBT;rw[if_pos hs]);have HR:=oh (zEf hs hi);obtain⟨o1,o2,o3,o4,o5,o6,o7⟩:=(zAp s).1 hs;have B0:Hid (∀k,k<4->zJA s k<256 ^ 4):=oh (λk hk=>by
  match k,hk with
  | 0,_=>show s.blocks<4294967296;omega
  | 1,_=>show s.size<4294967296;omega
  | 2,_=>show s.root<4294967296;omega
  | 3,_=>show s.keys<4294967296;omega)
 have B1:=oh (zOl s);have Aq:=oh (zQH s);have Ar:=oh (zTF s);have As:Hid (zFj s 4++yD 8 s.gen=jF s):=oh rfl;have At:Hid (jX (zCa s i) s.size=yK s i):=oh rfl;have HG:=oh hg;have B2:Hid ((zCa s i).gen<18446744073709551616):=oh hg;obtain⟨I,hI⟩:∃I:Int,I=(i:Int):=⟨_,rfl⟩;have B3:I=0\/I=1:=by omega
 have Au:Hid (∀v,Value.agg #[.int .i64 1,.int .i64 I,.int .u64 (s.gen:Int),v]=qC (zCa s i) v):=oh (λ_=>by rw[hI];rfl);rw[<- hI];clear hI;have Ag:Hid (yL s=.agg #[.int .u64 (s.gen:Int),.int .i64 (s.blocks:Int),.int .i64 (s.size:Int),.int .i64 (s.root:Int),.int .i64 (s.keys:Int)]):=oh rfl;have B4:Hid (∀k,zJA s k<18446744073709551616):=oh (λk=>by
  match k with
  | 0=>show s.blocks<_;omega
  | 1=>show s.size<_;omega
  | 2=>show s.root<_;omega
  | k+3=>show s.keys<_;omega)
 have B5:Hid ((zCa s i).body=jF s):=oh rfl;rw[Ag.out];obtain⟨g,Ac⟩:∃g,g=s.gen:=⟨_,rfl⟩;obtain⟨z,hz⟩:∃z,z=s.size:=⟨_,rfl⟩;obtain⟨b,hb⟩:∃b,b=s.blocks:=⟨_,rfl⟩;obtain⟨r,hr⟩:∃r,r=s.root:=⟨_,rfl⟩;obtain⟨q,hq⟩:∃q,q=s.keys:=⟨_,rfl⟩;rw[<- Ac,<- hz,<- hb,<- hr,<- hq];rw[<- Ac,<- hz,<- hb,<- hr,<- hq] at Ag;rw[<- Ac] at As HG Au;rw[<- hz] at At HR;have Ah:Hid (∀k:Nat,k<4->∀w,(Instr.index 318 (.agg #[.int .i64 (b:Int),.int .i64 (z:Int),.int .i64 (r:Int),.int .i64 (q:Int)]) (.int .i64 (k:Int))).run Tryz.prog w=.ok (.int .i64 (zJA s k:Int)) w):=oh (by rw[hb,hz,hr,hq];exact Ar.out);have Bh:g<18446744073709551616:=HG.out;clear Ac hz hb hr hq hs hg o1 o2 o3 o4 o5 o6 o7 Ar;have M0:Hid (zF w (w.alloc (.cells #[.int .u64 (g:Int),.int .i64 (b:Int),.int .i64 (z:Int),.int .i64 (r:Int),.int .i64 (q:Int)] 55))):=oh ((zss w).alloc _);have HB:Hid (∀W,zF (w.alloc (.cells #[.int .u64 (g:Int),.int .i64 (b:Int),.int .i64 (z:Int),.int .i64 (r:Int),.int .i64 (q:Int)] 55)) W->zG W w.heap.size #[.int .u64 (g:Int),.int .i64 (b:Int),.int .i64 (z:Int),.int .i64 (r:Int),.int .i64 (q:Int)] 55):=oh (λW m=>(zG.new w _ _).ext m);have Bi:Hid (∀W,zF (w.alloc (.cells #[.int .u64 (g:Int),.int .i64 (b:Int),.int .i64 (z:Int),.int .i64 (r:Int),.int .i64 (q:Int)] 55)) W->w.heap.size<W.heap.size):=oh (λW m=>uF (by simp) m.size)
 go_enter Tryz.func118, Tryz.ntmps118
 go_wp2_with fail;rw[<- Ag.out];refine (zF6 (HL.out _ M0.out) s).mono ?_;rintro e w1 ⟨ev,rfl,hE,m1⟩;rw[HC.out] at hE;cases hE
 have hB:=HB.out _ m1;have c1:=hB.k 1 rfl;have c2:=hB.k 2 rfl;have c3:=hB.k 3 rfl;have c4:=hB.k 4 rfl;have M1:=oh (M0.out.trans m1);have K1:=oh m1;clear hB m1;rcases B3 with rfl|rfl
 all_goals
  go_wp2_with fail;go_loopg [7,37] 4 (λm v7 v37 wr=>∃(k:Nat) (a:Option Addr) (c:Nat),k+m=4/\v7=.slice a (4 * k) c/\v37=.int .i64 k/\Hid (Sl F wr 1 zZ (.slice a (4 * k) c) (zFj s k))/\Hid (zF w1 wr))
  case atStart=>exact⟨0,none,0,rfl,rfl,rfl,oh (Sl.nil _ _ _ _),oh zr⟩
  case round =>
   clear c1 c2 c3 c4;obtain⟨k,a2,cc2,hk,rfl,rfl,Av,A9⟩:=hrel;have Ad:=oh (Aq.out k (by omega));by_cases A4:k<4
   .have ix:=Ah.out k A4;have Aa:=B4.out k;obtain⟨n,hn⟩:∃n,n=zJA s k:=⟨_,rfl⟩;have HN:=oh hn;rw[<- hn] at ix Aa;clear hn;go_wp2_with fail;have PA:=zBc (HL.out _ (M1.out.trans A9.out)) _ (zFj s k) Av.out n 4 (by decide) (by rw[HN.out];exact B0.out k A4) (by rw[Ad.out];omega);rw[HN.out,B1.out k A4,<- HN.out,Ad.out] at PA;refine PA.mono ?_;rintro e w3 ⟨a3,c3,rfl,A5,A6⟩;have e4:4 * k+4=4 * (k+1):=by omega
    rw[e4] at A5 ⊢;have B6:=oh (A5.sl (λ_=>rfl) (by rw[Aq.out (k+1) (by omega)];omega));have B7:=oh (A9.out.trans A6);clear A5 A6 PA ix Aa;go_wp2_with fail;go_roundg (gk-1)
    case measure=>omega
    case rel=>exact⟨k+1,a3,c3,by omega,rfl,by go_num,B6,B7⟩
   .obtain rfl:k=4:=by omega
    have hB:=HB.out _ (K1.out.trans A9.out);have c0:=hB.k 0 rfl;have Aw:=oh (M1.out.trans A9.out);clear hB;go_wp2_with fail;have PA:=zBc (HL.out _ Aw.out) _ (zFj s 4) Av.out g 8 (by decide) (by exact HG.out) (by rw[Ad.out];decide);rw[As.out,Ad.out] at PA;refine PA.mono ?_;rintro e w3 ⟨a3,c3,rfl,A5,A6⟩;have hB:=HB.out _ ((K1.out.trans A9.out).trans A6);have c0:=hB.k 0 rfl;have c2:=hB.k 2 rfl;have Ai:=oh (Aw.out.trans A6);have A2:(jF s).length=4 * 4+8:=zBx s;have B8:=oh (A5.sl (λ_=>rfl) (by rw[A2];decide));clear A5 A6 PA A2 hB;go_wp2_with fail;rw[Au.out];refine (zHe (HL.out _ Ai.out) (zCa s i) _ (by rw[B5.out];exact B8.out) z B2.out HR.out).mono ?_;rintro e w4 ⟨a4,c4,rfl,Aj,Ax⟩;rw[At.out] at Aj;have B9:=oh (Aj.rebase Ai.out.size);have Ba:=oh (Ai.out.trans Ax);clear Aj Ax;go_wp2_with fail;refine (wrap_nil _ _).mono ?_;rintro e w5 ⟨rfl,rfl⟩;go_wp2_with fail;go_ret2
    exact⟨a4,c4,rfl,B9.out,Ba.out⟩
def yF(m:qW):List Int:=m.used.map (λ(i:Nat)=>(i:Int))
def zDU(m:qW)(uv:Value):Value:=.agg #[.int .u64 (m.gen:Int),.int .i64 (m.blocks:Int),uv]
theorem zDM:∀(l:List Nat) (k b:Nat),l.Pairwise (· < ·)->(∀n∈l,k<=n/\n<b)->k<=b->l.length<=b-k
 | [],_,_,_,_,_=>by simp
 | x :: l,k,b,hp,hb,hk=>by
  rw[wW] at hp;have hx:=hb x uK;have:=zDM l (x+1) b hp.2 (λn hn=>⟨hp.1 n hn,(hb n (uJ _ hn)).2⟩) (by omega);rw[uG];omega
theorem zSp{l:List Nat}(h:l.take 6=[0,1,2,3,4,5]){k:Nat}(hk:k<6):l[k]? = some k:=by
 have h2:(l.take 6)[k]? = l[k]?:=by rw[rX];rw[if_pos hk]
 rw[<- h2,h];match k,hk with
 | 0,_=>rfl
 | 1,_=>rfl
 | 2,_=>rfl
 | 3,_=>rfl
 | 4,_=>rfl
 | 5,_=>rfl
theorem zRW{l:List Nat}(h:l.Pairwise (· < ·)){k:Nat}{x y:Nat}(hx:l[k]? = some x)(hy:l[k+1]? = some y):x<y:=by
 obtain⟨h1,rfl⟩:=uA.1 hx;obtain⟨h2,rfl⟩:=uA.1 hy;exact (tO.1 h) k (k+1) h1 h2 (by omega)
theorem zLI{F:NP}{w:World}(m:qW)(hm:zA6 m=true)(uv:Value)(hu:Sl F w 1 yI uv (yF m)) :
  Calls Tryz.prog 200 #[zDU m uv] w λe w'=>e=.returned .nilIface/\zF w w':=by
 obtain⟨o1,o2,o3,o4,o5,o6⟩:=(vV m).1 hm;have A2:m.used.length<=m.blocks:=zDM m.used 0 m.blocks o5 (λn hn=>⟨tH _,o6 n hn⟩) (tH _);have HU:=oh hu;have Ak:(yF m).length=m.used.length:=by unfold yF;rw[wS]
 have Al:Hid (∀(k x:Nat),m.used[k]? = some x->(yF m)[k]? = some (x:Int)):=oh (λk x h=>by unfold yF;rw[tQ,h];rfl);have Bb:=oh (λk hk=>zSp o4 (k:=k) hk);have Ay:=oh (λ(k x y:Nat) (hx:m.used[k]? = some x) (hy:m.used[k+1]? = some y)=>zRW o5 hx hy);have Bc:Hid (∀(k x:Nat),m.used[k]? = some x->x<m.blocks):=oh (λk x h=>o6 x (uU h));have Ae:Hid (∀k:Nat,k<m.used.length->∃x,m.used[k]? = some x):=oh (λk h=>⟨_,uB h⟩);obtain⟨ua,uc,rfl,i1,i2,i3, -⟩:=hu;unfold maxLen at i2;have Af:=oh Ak;rw[Ak] at HU i1 i3 ⊢;obtain⟨g,b,u⟩:=m;simp only at *;unfold zDU;simp only;obtain⟨n,hn⟩:∃n,n=u.length:=⟨_,rfl⟩;rw[<- hn] at A2 o3 i1 i3 Ae Af HU ⊢;clear o4 o5 o6 hm Ak hn;have M0:Hid (zF w (w.alloc (.cells #[.int .u64 (g:Int),.int .i64 (b:Int),.slice ua n uc] 133))):=oh ((zss w).alloc _);have e1:decide ((b:Int)<8)=false:=by simp;omega
 have e2:decide (256<(b:Int))=false:=by simp;omega
 have e3:decide ((n:Int)<6)=false:=by simp;omega
 have e4:decide (b<n)=false:=by simp;omega
 go_enter Tryz.func200, Tryz.ntmps200
 go_wp2_with fail;go_loopg [3,33] n (λr v3 v33 wr=>∃k:Nat,k+r=n/\v3=.bool false/\v33=.int .i64 k/\wr=w.alloc (.cells #[.int .u64 (g:Int),.int .i64 (b:Int),.slice ua n uc] 133))
 case atStart=>exact⟨0,by omega,rfl,rfl,rfl⟩
 case round =>
  obtain⟨k,hk,rfl,rfl,rfl⟩:=hrel;by_cases A4:k<n
  .obtain⟨x,hx⟩:=Ae.out k A4;have Bj:=Bc.out k x hx;obtain⟨qb,qoff,Be,hc⟩:=HU.out.elem (by rw[Af.out];exact A4) M0.out;have d0:=hc 0 (.int .i64 x) (by
    have:=Al.out k x hx;obtain⟨h1,h2⟩:=uA.1 this;rw[h2];rfl)
   simp only[uT,wC] at d0;subst Be;have i1:(0:Int)<=(k:Int):=by omega
   have i2:(k:Int)<(n:Int):=by omega
   by_cases h6:k<6
   .have Az:=Bb.out k h6;rw[hx] at Az;cases Az
    cases k with
    | zero =>
     clear hc hx;simp only[uT] at d0;go_wp2_with fail;go_roundg (gk-1)
     case measure=>omega
     case rel=>exact⟨1,by omega,rfl,by go_num,rfl⟩
    | succ j =>
     obtain⟨y,hy⟩:=Ae.out j (by omega);have Bf:=Ay.out j y _ hy hx;obtain⟨qb2,qoff2,A0,Ab⟩:=HU.out.elem (k:=j) (by rw[Af.out];omega) M0.out;injection A0 with A0;injection A0 with A0 A3;subst A0;subst A3;have d1:=Ab 0 (.int .i64 y) (by
      have:=Al.out j y hy;obtain⟨h1,h2⟩:=uA.1 this;rw[h2];rfl)
     simp only[uT,wC] at d1;clear hc Ab hx hy;go_wp2_with fail;go_roundg (gk-1)
     case measure=>omega
     case rel=>exact⟨j+1+1,by omega,rfl,by go_num,rfl⟩
   .obtain⟨j,rfl⟩:∃j,k=j+1:=⟨k-1,by omega⟩;obtain⟨y,hy⟩:=Ae.out j (by omega);have Bf:=Ay.out j y _ hy hx;obtain⟨qb2,qoff2,A0,Ab⟩:=HU.out.elem (k:=j) (by rw[Af.out];omega) M0.out;injection A0 with A0;injection A0 with A0 A3;subst A0;subst A3;have d1:=Ab 0 (.int .i64 y) (by
     have:=Al.out j y hy;obtain⟨h1,h2⟩:=uA.1 this;rw[h2];rfl)
    simp only[uT,wC] at d1;clear hc Ab hx hy;go_wp2_with fail;go_roundg (gk-1)
    case measure=>omega
    case rel=>exact⟨j+1+1,by omega,rfl,by go_num,rfl⟩
  .obtain rfl:k=n:=by omega
   go_wp2_with fail;go_ret;exact⟨rfl,M0.out⟩
def zC3(gen:Nat):Value:=.agg #[.int .i64 (place gen 0:Int),.int .i64 (place gen 1:Int)]
theorem Tryz.twoSize:(Tryz.prog.info? 181).map (·.size)=some 2:=by kernel_rfl
theorem zDN(gen:Nat)(hg:gen<18446744073709551616)(w:World) :
  Calls Tryz.prog 97 #[.int .u64 (gen:Int)] w λe w'=>e=.returned (zC3 gen)/\zF w w':=by
 have hm:gen % 2=0\/gen % 2=1:=by omega
 have Am:bits .and .u64 (gen:Int) 1=((gen % 2:Nat):Int):=by
  have:=u64_and_nat gen 1 hg (by decide);rw[nat_mask1] at this;exact this
 have h0:(place gen 0:Int)=2+2 * ((gen % 2:Nat):Int):=by unfold place;omega
 have h1:(place gen 1:Int)=3+2 * ((gen % 2:Nat):Int):=by unfold place;omega
 have HP:Hid (zC3 gen=.agg #[.int .i64 (2+2 * ((gen % 2:Nat):Int)),.int .i64 (3+2 * ((gen % 2:Nat):Int))]):=oh (by rw[zC3,h0,h1]);obtain⟨q,hq⟩:∃q,q=gen % 2:=⟨_,rfl⟩;rw[<- hq] at Am hm HP;clear h0 h1 hq
 go_enter Tryz.func97, Tryz.ntmps97
 go_wp2_with fail;refine bodyPost_ret (results_cell_row rfl _ _ w.heap.size 181 #[.int .i64 (2+2 * (q:Int)),.int .i64 (3+2 * (q:Int))] (0,0) _ rfl (zG.new w _ _) Tryz.underlying181 rfl Tryz.twoSize) rfl ?_;exact⟨by rw[HP.out],(zss w).alloc _⟩
theorem Tryz.eqTwo(a b c d:Int)(w:World):(Op.equalIn 10000 181 (.agg #[.int .i64 a,.int .i64 b]) (.agg #[.int .i64 c,.int .i64 d])).run Tryz.prog w=.ok (decide (a=c) && decide (b=d)) w:=by
 have u3:=Tryz.underlying3;have a3:=Tryz.isAgg3;have z3:=Tryz.sizeOf3;rw[show (10000:Nat)=9999+1 from rfl,Op.equalIn];simp only[Sem.run_bind,run_underlying Tryz.underlying181,Result.andThen_ok];simp only[Std.Legacy.Range.forIn_eq_forIn_range',Std.Legacy.Range.size,nO,rK,Nat.div_one,List.range'_succ,List.range'_zero,List.forIn_cons,List.forIn_nil];go_simp;by_cases h1:a=c <;> by_cases h2:b=d <;> simp[h1,h2]
theorem zN2(gen:Nat)(hg:gen<18446744073709551616)(i:Nat)(hi:i<1000)(w:World) :
  Calls Tryz.prog 201 #[.int .u64 (gen:Int),.int .i64 (i:Int)] w λe w'=>e=.returned (.bool (zAw gen i))/\zF w w':=by
 have Bg:=oh (zDN gen hg w);obtain⟨q,hq⟩:∃q,q=place gen 0:=⟨_,rfl⟩;have An:place gen 1=q+1:=by rw[hq];unfold place;omega
 have Bk:q<6:=by rw[hq];unfold place;omega
 have HP:Hid (zC3 gen=.agg #[.int .i64 (q:Int),.int .i64 ((q:Int)+1)]):=oh (by rw[zC3,An,<- hq];rfl);have HI:Hid (zAw gen i=(decide (i=q) || decide (i=q+1))):=oh (by rw[zAw,An,<- hq]);clear hq An hg
 go_enter Tryz.func201, Tryz.ntmps201
 go_wp2_with fail;refine Bg.out.mono ?_;rintro e w1 ⟨rfl,m1⟩;rw[HP.out];have Ao:=oh (m1.alloc (.cells #[.int .i64 (q:Int),.int .i64 ((q:Int)+1)] 181));clear m1;have eq2:=Tryz.eqTwo;have e1:decide ((q:Int)+1=(q:Int))=false:=by simp;omega
 have e2:decide ((q:Int)=(q:Int)+1)=false:=by simp;omega
 by_cases h0:i=q
 .subst h0;go_wp2_with fail;go_ret;exact⟨yB (by rw[HI.out];simp),Ao.out⟩
 .have e3:decide ((i:Int)=(q:Int))=false:=by simp;omega
  by_cases h1:i=q+1
  .subst h1;go_wp2_with fail;go_ret;exact⟨yB (by rw[HI.out];simp),Ao.out⟩
  .have e4:decide ((i:Int)=(q:Int)+1)=false:=by simp;omega
   go_wp2_with fail;go_ret;exact⟨yB (by rw[HI.out];simp[h0,h1]),Ao.out⟩
end Go.Proofs.YtalpfcaakpgkmaaGreatDoor
