import Derived.Test.YtalpfcaakpgkmaaGreatDoorR28
import Derived.BigQuiet
namespace Go.Proofs.YtalpfcaakpgkmaaGreatDoor
open Lib renaming hid->oh
set_option maxHeartbeats 4000000
set_option maxRecDepth 100000
open Go.RowKit
attribute [local go_sem ↓] Go.wp_at_zero Go.wp_at_succ
theorem yC.alloc'{α:Type}{F:NP}{w:World}{base:Nat}{e:TypeId}{sz:Nat}{enc:α->List Value}{v:Value}{l:List α}(h:yC F w base e sz enc v l)(o:Obj):yC F (w.alloc o) base e sz enc v l:=h.ext ((zss w).alloc o)
theorem zSV{F:NP}{w:World}{b off U c:Nat}{l:List Int}(h:Sl F w 1 yI (.slice (some ⟨b,off,none⟩) U c) l)(h6:6<=U)(hU:U=l.length):Sl F w 1 yI (.slice (some ⟨b,off+6,none⟩) (U-6) (c-6)) (l.drop 6):=by
 have:=h.sub 6 U (by omega) (uD _);rw[uY (by rw[wN,hU];omega),wC] at this;exact this
theorem zRg{F:NP}{w:World}{a:Option Addr}{U:Nat}{l:List Int}(hU:U=l.length)(h:U=6):Sl F w 1 yI (.slice a (U-6) 0) (l.drop 6):=by
 have e:l.drop 6=[]:=tY (by omega);rw[e,h];exact⟨a,0,rfl,uD _,by simp[maxLen],by simp,.inl rfl⟩
theorem zQe(v:Value)(w:World) : Calls Tryz.prog 164 #[v,.int .i64 0,.int .i64 0] w λe w'=>e=.returned (.tuple #[])/\w=w':=by
 go_enter Tryz.func164, Tryz.ntmps164
 go_wp2_with fail;go_loopg [6] 0 (λm v6 wr=>wr=w/\v6=.int .i64 1/\m=0)
 case atStart=>exact⟨rfl,rfl,rfl⟩
 case round =>
  obtain⟨rfl,rfl,rfl⟩:=hrel;go_wp2_with fail;go_end0
  exact⟨rfl,rfl⟩
theorem zTJ(v n:Value)(w:World) : Calls Tryz.prog 101 #[v,.int .i64 0,.int .i64 0,n] w λe w'=>e=.returned (.tuple #[])/\w=w':=by
 have HI:=oh (zQe v)
 go_enter Tryz.func101, Tryz.ntmps101
 go_wp2_with fail;go_loopg [1,2] 0 (λm v1 v2 wr=>wr=w/\v1=.int .i64 0/\v2=.int .i64 0/\m=0)
 case atStart=>exact⟨rfl,rfl,rfl,rfl⟩
 case round =>
  obtain⟨rfl,rfl,rfl,rfl⟩:=hrel;go_wp2_with fail;refine (HI.out _).mono ?_;rintro e w1 ⟨rfl,rfl⟩;go_wp2_with fail;refine bodyPost_ret (v:=.tuple #[]) (by simp[results,Tryz.results101,go_sem]) rfl ?_;exact⟨rfl,rfl⟩
theorem zRh(w:World) : Calls Tryz.prog 174 #[.int .u64 0] w λe w'=>(∃v,e=.returned v)/\w=w':=by
 go_enter Tryz.func174, Tryz.ntmps174
 go_wp2_with fail;go_ret;exact⟨⟨_,rfl⟩,rfl⟩
theorem zSx(w:World) : Calls Tryz.prog 102 #[.int .u64 0] w λe w'=>(∃v,e=.returned v)/\w=w':=by
 have HL:=oh zRh
 go_enter Tryz.func102, Tryz.ntmps102
 go_wp2_with fail;refine (HL.out _).mono ?_;rintro e w1 ⟨⟨v,rfl⟩,rfl⟩;go_wp2_with fail;go_ret;exact⟨⟨_,rfl⟩,rfl⟩
theorem zSy(a:Option Addr)(c:Nat)(w:World) : Calls Tryz.prog 51 #[.slice a 0 c] w λe w'=>e=.returned (.tuple #[])/\w=w':=by
 have HL:=oh zSx;have HQ:=oh (zTJ (.slice a 0 c))
 go_enter Tryz.func51, Tryz.ntmps51
 go_wp2_with fail;refine (HL.out _).mono ?_;rintro e w1 ⟨⟨v,rfl⟩,rfl⟩;go_wp2_with fail;refine (HQ.out v _).mono ?_;rintro e w1 ⟨rfl,rfl⟩;go_wp2_with fail;go_end0
 exact⟨rfl,rfl⟩
theorem zLv{n:Nat}(h:8<=n):zQB n=zAj n [0,1]:=by
 refine pD (λj=>?_);unfold zQB;rw[pT,pT];by_cases hj:j<n
 .rw[zA2 _ hj];by_cases h1:1=j
  .subst h1;simp;omega
  .rw[if_neg h1];by_cases h0:0=j
   .subst h0;simp;omega
   .rw[if_neg h0,tW,if_pos hj,if_neg (by simp;omega)]
 .have e:(zAj n [0,1])[j]? = none:=wT (by rw[zBo];omega);rw[e,if_neg (by omega),if_neg (by omega)];exact wT (by simp;omega)
def vT(m:qW):List Nat:=[2,3,4,5]++m.used.drop 6
theorem zFW{m:qW}(hm:zA6 m=true):[0,1]++vT m=m.used:=by
 obtain⟨_,_,_,h,_,_⟩:=(vV m).1 hm;have:=uZ 6 m.used;rw[h] at this;rw[vT,<- this];simp
theorem zLw{m:qW}(hm:zA6 m=true){k x:Nat}(hx:(vT m)[k]? = some x):2<=x/\x<m.blocks/\x ∉ [0,1]++(vT m).take k:=by
 obtain⟨_,_,_,_,h5,h6⟩:=(vV m).1 hm;have hu:=zFW hm;have C8:m.used[k+2]? = some x:=by
  rw[<- hu,wV (by simp)];simpa using hx
 obtain⟨hl,he⟩:=uA.1 C8;have C9:∀y∈[0,1]++(vT m).take k,y<x:=λy hy=>by
  have e:[0,1]++(vT m).take k=m.used.take (k+2):=by
   rw[<- hu,List.take_append];simp
  rw[e] at hy;obtain⟨j,hj,rfl⟩:=wF hy;rw[pV,<- he];rw[wB] at hj;exact (tO.1 h5) j (k+2) (by omega) hl (by omega)
 refine⟨?_,h6 x (uU C8),λh=>pB _ (C9 x h)⟩;have:=C9 1 (by simp);omega
theorem zGE(m:qW):(vT m).map (λ(i:Nat)=>(i:Int))=([2,3,4,5]:List Int)++(yF m).drop 6:=by
 unfold vT yF;rw[rH,List.map_drop];rfl
section
variable {P P' F F':NP}{ad:Nat->Addr}{w w':World}{d:Nat}{D:zJ}
def StR[zQ](F:NP)(w:World)(P:NP)(S d c sp:Nat)(s:yG)(home root keys:Int)(G:GA)(l:List Nat):Prop :=
 jK F w P c sp G l/\(∃a cc,zG w S (stC d (.pointer (some ⟨c,0,none⟩)) (.pointer (some ⟨sp,0,none⟩)) s home root keys (.slice a 0 cc) false) 106)/\¬ P S/\F S
def StO(F:NP)(w:World)(P:NP)(S d c sp:Nat)(s:yG)(home root keys:Int)(C:qL)(l:List Nat):Prop :=
 ∃sb bvs Pd b2,CaR F w d c sb bvs Pd C/\SpR w sp b2 l/\(∀k,P k ↔ (caF c sb Pd k\/spF sp b2 k))/\(∀k,caF c sb Pd k->¬ spF sp b2 k)/\(∃a cc,zG w S (stC d (.pointer (some ⟨c,0,none⟩)) (.pointer (some ⟨sp,0,none⟩)) s home root keys (.slice a 0 cc) false) 106)/\¬ P S/\F S
theorem StO.st[zQ]{S c sp:Nat}{s:yG}{home root keys:Int}{C:qL}{G:GA}{l:List Nat}(h:StO F w P S d c sp s home root keys C l)(hi:yJ C)(hr:qZ C G)(hc:G.cost<=1000000)(Ce:zF8 d l):StR F w P S d c sp s home root keys G l:=by
 obtain⟨sb,bvs,Pd,b2,h1,h2,h3,h4,h5,h6,h7⟩:=h;exact⟨⟨d,sb,bvs,Pd,b2,C,h1,hi,hr,hc,h2,h3,h4,Ce⟩,h5,h6,h7⟩
def zNG(F P:NP)(ad:Nat->Addr)(w:World)(d:Nat)(D:zJ)(s:yG)(m:qW)(q:Nat)(e:Ending)(w':World):Prop :=
 ∃S c sp P' F',e=.returned (.tuple #[.pointer (some ⟨S,0,none⟩),.nilIface])/\StO F' w' P' S d c sp s 0 s.root s.keys ⟨D,List.replicate q qM,0⟩ (zAj D.blocks m.used)/\zX P P' F F' ad w w'
abbrev stZ(d:Nat):Array Value:=#[.pointer (some ⟨d,0,none⟩),.pointer none,.pointer none,.int .u64 0,.int .i64 0,.int .i64 0,.int .i64 0,.int .i64 0,.int .i64 0,.int .i64 0,.int .i64 0,.slice none 0 0,.bool false]
end
theorem zQf(v:Value)(w:World) : Calls Tryz.prog 164 #[v,.int .i64 0,.int .i64 1] w λe w'=>e=.returned (.tuple #[])/\w=w':=by
 go_enter Tryz.func164, Tryz.ntmps164
 go_wp2_with fail;go_loopg [6] 0 (λm v6 wr=>wr=w/\v6=.int .i64 1/\m=0)
 case atStart=>exact⟨rfl,rfl,rfl⟩
 case round =>
  obtain⟨rfl,rfl,rfl⟩:=hrel;go_wp2_with fail;go_end0
  exact⟨rfl,rfl⟩
theorem zTL(v n:Value)(w:World) : Calls Tryz.prog 101 #[v,.int .i64 0,.int .i64 1,n] w λe w'=>e=.returned (.tuple #[])/\w=w':=by
 have HI:=oh (zQf v)
 go_enter Tryz.func101, Tryz.ntmps101
 go_wp2_with fail;go_loopg [1,2] 0 (λm v1 v2 wr=>wr=w/\v1=.int .i64 0/\v2=.int .i64 1/\m=0)
 case atStart=>exact⟨rfl,rfl,rfl,rfl⟩
 case round =>
  obtain⟨rfl,rfl,rfl,rfl⟩:=hrel;go_wp2_with fail;refine (HI.out _).mono ?_;rintro e w1 ⟨rfl,rfl⟩;go_wp2_with fail;refine bodyPost_ret (v:=.tuple #[]) (by simp[results,Tryz.results101,go_sem]) rfl ?_;exact⟨rfl,rfl⟩
theorem zRi(w:World) : Calls Tryz.prog 174 #[.int .u64 1] w λe w'=>(∃v,e=.returned v)/\w=w':=by
 go_enter Tryz.func174, Tryz.ntmps174
 go_wp2_with fail;go_ret;exact⟨⟨_,rfl⟩,rfl⟩
theorem zSz(w:World) : Calls Tryz.prog 102 #[.int .u64 1] w λe w'=>(∃v,e=.returned v)/\w=w':=by
 have HL:=oh zRi
 go_enter Tryz.func102, Tryz.ntmps102
 go_wp2_with fail;refine (HL.out _).mono ?_;rintro e w1 ⟨⟨v,rfl⟩,rfl⟩;go_wp2_with fail;go_ret;exact⟨⟨_,rfl⟩,rfl⟩
theorem zS0(a:Option Addr)(c:Nat)(w:World) : Calls Tryz.prog 51 #[.slice a 1 c] w λe w'=>e=.returned (.tuple #[])/\w=w':=by
 have HL:=oh zSz;have HQ:=oh (zTL (.slice a 1 c))
 go_enter Tryz.func51, Tryz.ntmps51
 go_wp2_with fail;refine (HL.out _).mono ?_;rintro e w1 ⟨⟨v,rfl⟩,rfl⟩;go_wp2_with fail;refine (HQ.out v _).mono ?_;rintro e w1 ⟨rfl,rfl⟩;go_wp2_with fail;go_end0
 exact⟨rfl,rfl⟩
section
variable {P P' F F':NP}{ad:Nat->Addr}{w w':World}{d:Nat}{D:zJ}
theorem zIT(hL:yH F ad w)(h:DkS w P d D)(ho:D.off=false)(s:yG)(Aj:openS (D.look 0) 0=some s)(Ak:openS (D.look 1) 1=none)(Al:∃r,zV (D.look 1) ((1:Nat):Int)=.inr r)(hb:s.blocks=D.blocks)(hz:s.size=D.size)(B6:(D.look 0).length=D.size)(B7:(D.look 1).length=D.size)
  (S:Nat) (B8:¬ P S) (B9:F S) (cv sv:Value) (s0:yG) (h0 root keys:Int) (dead:Bool) (hB:zG w S (stC d cv sv s0 h0 root keys (.slice none 0 0) dead) 106) :
  Calls Tryz.prog 48 #[.pointer (some ⟨S,0,none⟩)] w λe w'=>e=.returned .nilIface/\(∃a c,zG w' S (stC d cv sv s 0 root keys (.slice a 1 c) dead) 106 /\ yC (λ_=>False) w' w.heap.size 3 1 yI (.slice a 1 c) [1])/\zA (λj=>j=S) w w':=by
 obtain⟨q1,q2,q3,q4,q5,q6⟩:=h.lim;have HL:Hid (∀w',zA F w w'->yH F ad w'):=oh (λw' k=>hL.mods k);have Bv:=oh B9;have Ba:=oh (zHh hL h ho 0 1 (by omega) (by omega));have hf:∀{g:Nat},w.heap.size<g->¬ F g:=λhg f=>by have:=hL.lt _ f;omega
 have A2:Hid (∀{W:World} {v:Value} {l:List UInt8},l.length=D.size->qD w.heap.size D.size W v l->Sl F W 1 zZ v l):=oh (λAm ⟨g,h1,h2,h3⟩=>by rw[h1];exact zCq h3 Am (hf h2) (by omega));clear hf;have Bb:Hid (∀W,zA F w W->∀av bv,qD w.heap.size D.size W av (D.look 0)->qD w.heap.size D.size W bv (D.look 1) -> Calls Tryz.prog 95 #[av,bv] W λe w'=>∃ev,e=.returned (.tuple #[yL s,.int .i64 0,ev])/\zAb F ad w' ev none/\zF W w'):=oh (λW m av bv ha Bw=>by
  obtain⟨g,b,z,r,k⟩:=s;exact zEn (HL.out W m) av bv _ _ (A2.out B6 ha) (A2.out B7 Bw) (by omega) (by omega) (by omega) (by omega) (λe=>by rw[Aj] at e;cases e) (λ_=>Al) Aj Ak)
 have Bc:Hid (∀W,zA F w W->∀bv,qD w.heap.size D.size W bv (D.look 1) -> Calls Tryz.prog 96 #[bv,.int .i64 1] W λe w'=>∃f,e=.returned (.tuple #[.agg #[.int .u64 0,.int .i64 0,.int .i64 0,.int .i64 0,.int .i64 0],zP f])/\zF W w'):=oh (λW m bv hb=>by
  refine (vF (HL.out W m) bv _ (A2.out B7 hb) (by omega) (by omega) 1 (by omega) (λ_=>Al)).mono ?_;rintro e w' ⟨ev,rfl,h2,h3⟩;rw[Ak] at h2 ⊢;obtain⟨f,rfl, -⟩:=h2;exact⟨f,rfl,h3⟩)
 have Bd:Hid (∀W,DkS W P d D -> Calls Tryz.prog 47 #[.pointer (some ⟨d,0,none⟩)] W λe w'=>e=.returned (.agg #[.int .i64 (D.blocks:Int),.int .i64 (D.size:Int)])/\zF W w'):=oh (λW m=>m.geo);have HD:=oh h;have An:Hid (yL s=.agg #[.int .u64 (s.gen:Int),.int .i64 (D.blocks:Int),.int .i64 (D.size:Int),.int .i64 (s.root:Int),.int .i64 (s.keys:Int)]):=oh (by rw[yL,hb,hz]);have Ao:Hid (s=⟨s.gen,D.blocks,D.size,s.root,s.keys⟩):=oh (by rw[<- hb,<- hz]);obtain⟨DB,Be⟩:∃n,n=D.blocks:=⟨_,rfl⟩;obtain⟨DZ,Ap⟩:∃n,n=D.size:=⟨_,rfl⟩;rw[<- Be,<- Ap] at An Ao Bd;rw[<- Ap] at Ba A2 Bb Bc;clear Be Ap;obtain⟨g,Bf⟩:∃g,g=s.gen:=⟨_,rfl⟩;obtain⟨r,hr⟩:∃g,g=s.root:=⟨_,rfl⟩;obtain⟨k,hk⟩:∃g,g=s.keys:=⟨_,rfl⟩;rw[<- Bf,<- hr,<- hk] at An Ao;have hS:=hB.lt;have c0:=hB.d 0 (.pointer (some ⟨d,0,none⟩)) rfl;have HB:=oh hB;have Bx:=oh B8;clear Bf hr hk B9 hL h ho Aj Ak Al hb hz B6 B7 hB B8 q1 q2 q3 q4 q5 q6
 go_enter Tryz.func48, Tryz.ntmps48
 go_wp2_with fail;refine Ba.out.mono ?_;rintro e w1 ⟨v0,v1,rfl,Aq,Ar,m1⟩;obtain⟨a0,rfl, -, -⟩:=_root_.id Aq;obtain⟨a1,rfl, -, -⟩:=_root_.id Ar;have As:=oh Aq;have At:=oh Ar;simp only[zAT] at As At ⊢;have Ac:=oh m1;have Au:=oh (HB.out.ext m1);have By:S<w1.heap.size:=Au.out.lt;clear m1 c0 Aq Ar;go_upto_if 16 with fail
 obtain⟨W2,Ad⟩:∃W,W=w1.alloc (.cells #[.slice (some ⟨a0,0,none⟩) DZ DZ,.slice (some ⟨a1,0,none⟩) DZ DZ] 178):=⟨_,rfl⟩;have m2:zF w1 W2:=by rw[Ad];exact (zss w1).alloc _
 have A7:zG W2 w1.heap.size #[.slice (some ⟨a0,0,none⟩) DZ DZ,.slice (some ⟨a1,0,none⟩) DZ DZ] 178:=by rw[Ad];exact zG.new w1 _ _
 obtain⟨Y,hY⟩:∃Y,Y=w1.heap.size:=⟨_,rfl⟩;rw[<- hY] at A7 By;rw[<- Ad,<- hY];have Ae:=oh (Ac.out.trans m2);have Bg:=oh (Au.out.ext m2);have A4:=oh (qD.mods As.out m2 (λ_ _ _ f=>f));have A5:=oh (qD.mods At.out m2 (λ_ _ _ f=>f));have Bh:=oh A7;have y0:=A7.k 0 rfl;have y1:=A7.k 1 rfl;clear m2 A7 Ad hY Ac Au As At;go_wp2_with fail;refine (Bb.out _ Ae.out.ext _ _ A4.out A5.out).mono ?_;rintro e w3 ⟨ev,rfl,hE,m3⟩;cases hE
 rw[An.out];have Av:=oh (Ae.out.trans m3);have A3:=Bg.out.ext m3;have Bi:=oh A3;have Af:=oh (qD.mods A4.out m3 (λ_ _ _ f=>f));have Ag:=oh (qD.mods A5.out m3 (λ_ _ _ f=>f));have Bj:=oh (Bh.out.ext m3);have s3:=A3.k 3 rfl;have s4:=A3.k 4 rfl;have s5:=A3.k 5 rfl;have s6:=A3.k 6 rfl;have s7:=A3.k 7 rfl;have s8:=A3.k 8 rfl;have sf:=A3.frozen;clear m3 A3 y0 y1 Ae Bg A4 A5 Bh;go_upto_if 34 with fail
 obtain⟨W4,A8⟩:∃W,W=zEI w3 S g DB DZ r k 0:=⟨_,rfl⟩;have m4:zA (λj=>j=S) w3 W4:=by rw[A8];exact zE1
 have Bk:zG W4 S (stC d cv sv ⟨g,DB,DZ,r,k⟩ 0 root keys (.slice none 0 0) dead) 106:=by rw[A8];exact zFp Bi.out _ _ _ _ _ _
 unfold zEI at A8;rw[<- A8];have Bz:Y≠S:=by omega
 have C0:Hid (zA (λj=>j=S) w W4):=oh (Av.out.ext.trans m4);have Ah:=oh Bk;have C1:=oh ((HD.out.at Av.out).far m4 (λj hj h=>Bx.out (h ▸ hj)));have Aw:=oh (qD.mods Ag.out m4 (λj hj _ h=>by omega));have C2:=oh (Bj.out.mods m4 Bz);clear m4 Bk A8 s3 s4 s5 s6 s7 s8 sf Av Bi Af Ag Bj;have Bl:=oh (λW (m:zF W4 W)=>(⟨(Ah.out.ext m).cell rfl,(Ah.out.ext m).cell rfl,(Ah.out.ext m).cell rfl⟩:W.cell? ⟨S,0,none⟩=some (.pointer (some ⟨d,0,none⟩))/\W.cell? ⟨S,4,none⟩=some (.int .i64 (DB:Int))/\W.cell? ⟨S,5,none⟩=some (.int .i64 (DZ:Int))));have zd:=Bl.out _ (zss W4).drew;have eqg:∀(a b c d:Int) (w:World),(Op.equalIn 10000 53 (.agg #[.int .i64 a,.int .i64 b]) (.agg #[.int .i64 c,.int .i64 d])).run Tryz.prog w=.ok (decide (a=c) && decide (b=d)) w:=λa b c d w=>Tryz.eqGeo 9998 a b c d w
 go_wp2_with fail;go_region_held3 (λw'=>w'.cell? ⟨S,0,none⟩=some (.pointer (some ⟨d,0,none⟩))/\w'.cell? ⟨S,4,none⟩=some (.int .i64 (DB:Int))/\w'.cell? ⟨S,5,none⟩=some (.int .i64 (DZ:Int)))
  (first|(with_reducible exact zd)|(with_reducible exact z5)|fail)
  (first
   | (go_at_call 47;(with_reducible refine (Bd.out _ (C1.out.at (zss W4).drew)).mono ?_);rintro e w5 ⟨rfl,m5⟩;have xw5:=(zss W4).drew.trans m5;have z5:=Bl.out _ xw5)
   | fail)
 have Cf:=oh xw5;have Ax:=oh (Ah.out.ext xw5);have Ay:=oh (qD.mods Aw.out xw5 (λ_ _ _ f=>f));have Az:=oh (C2.out.ext xw5);have Bm:Hid (zA (λj=>j=S) w w5):=oh (C0.out.trans xw5.ext);clear zd z5 xw5 m5;have A9:zA F w w5:=Bm.out.mono (λj h=>by have h':j=S:=h;rw[h'];exact Bv.out);have Aa:=oh (λW (m:zF w5 W)=>Bc.out W (A9.trans m.ext) _ (qD.mods Ay.out m (λ_ _ _ f=>f)));have A0:=oh (λW (m:zF w5 W)=>(⟨(Ax.out.ext m).cell rfl,(Az.out.ext m).cell rfl,(Az.out.ext m).cell rfl⟩:W.cell? ⟨S,8,none⟩=some (.int .i64 0)/\W.cell? ⟨Y,0,none⟩=some (.slice (some ⟨a0,0,none⟩) DZ DZ)/\W.cell? ⟨Y,1,none⟩=some (.slice (some ⟨a1,0,none⟩) DZ DZ)));have zd:=A0.out _ (zss w5).drew;have za:=A0.out _ ((zss w5).alloc (.cells #[.int .u64 0,.int .i64 0,.int .i64 0,.int .i64 0,.int .i64 0] 55)).drew;have n1:S≠w5.heap.size:=λe=>by have:=Ax.out.lt;omega
 have n2:Y≠w5.heap.size:=λe=>by have:=Az.out.lt;omega
 have wa:IntKind.i64.wrap (1-0)=1:=by decide
 have wb:IntKind.i64.wrap 1=1:=by decide
 clear A9;go_wp2_with fail;go_region_held3 (λw'=>w'.cell? ⟨S,8,none⟩=some (.int .i64 0)/\w'.cell? ⟨Y,0,none⟩=some (.slice (some ⟨a0,0,none⟩) DZ DZ)/\w'.cell? ⟨Y,1,none⟩=some (.slice (some ⟨a1,0,none⟩) DZ DZ))
  (first|(with_reducible exact zd)|(with_reducible exact z5)|(with_reducible exact z7)|(with_reducible exact z6)|(with_reducible exact za)|fail)
  (first
   | (go_at_call 96;((with_reducible refine (Aa.out _ (zss w5).drew).mono ?_);rintro e w6 ⟨ff,rfl,m6⟩;have x6:=(zss w5).drew.trans m6;have z5:=A0.out _ x6;have z7:=A0.out _ (x6.alloc (.cells #[.int .u64 0,.int .i64 0,.int .i64 0,.int .i64 0,.int .i64 0] 55));have hB:zG (w6.alloc (.cells #[.int .u64 0,.int .i64 0,.int .i64 0,.int .i64 0,.int .i64 0] 55)) w6.heap.size #[.int .u64 0,.int .i64 0,.int .i64 0,.int .i64 0,.int .i64 0] 55:=zG.new w6 _ _;have b0:=hB.d 0 (.int .u64 0) rfl;have b1:=hB.d 1 (.int .i64 0) rfl;have b2:=hB.d 2 (.int .i64 0) rfl;have b3:=hB.d 3 (.int .i64 0) rfl;have b4:=hB.d 4 (.int .i64 0) rfl;have bf:=hB.frozen;have lo:w5.heap.size<=w6.heap.size:=x6.size;have z6:=A0.out _ (x6.alloc (.cells #[.int .u64 0,.int .i64 0,.int .i64 0,.int .i64 0,.int .i64 0] 55));have Bn:∃X3 w3,X3=w6.heap.size/\w3=w6.alloc (.cells #[.int .u64 0,.int .i64 0,.int .i64 0,.int .i64 0,.int .i64 0] 55)/\zG w3 X3 #[.int .u64 0,.int .i64 0,.int .i64 0,.int .i64 0,.int .i64 0] 55 /\ zF w5 w3:=⟨_,_,rfl,rfl,zG.new w6 _ _,x6.alloc _⟩))
   | (go_at_call 96;((with_reducible refine (Aa.out _ ((zss w5).alloc (.cells #[.int .u64 0,.int .i64 0,.int .i64 0,.int .i64 0,.int .i64 0] 55)).drew).mono ?_);rintro e w6 ⟨ff,rfl,m6⟩;have x6:=((zss w5).alloc (.cells #[.int .u64 0,.int .i64 0,.int .i64 0,.int .i64 0,.int .i64 0] 55)).drew.trans m6;have z5:=A0.out _ x6;have z7:=z5;have hB:zG w6 w5.heap.size #[.int .u64 0,.int .i64 0,.int .i64 0,.int .i64 0,.int .i64 0] 55:=zG.ext (w:=(w5.alloc (.cells #[.int .u64 0,.int .i64 0,.int .i64 0,.int .i64 0,.int .i64 0] 55)).drew) (zG.new w5 _ _) m6;have b0:=hB.d 0 (.int .u64 0) rfl;have b1:=hB.d 1 (.int .i64 0) rfl;have b2:=hB.d 2 (.int .i64 0) rfl;have b3:=hB.d 3 (.int .i64 0) rfl;have b4:=hB.d 4 (.int .i64 0) rfl;have bf:=hB.frozen;have lo:w5.heap.size<=w5.heap.size:=uD _;have z6:=A0.out _ (zA.set5 (F:=λ_=>False) x6 (R:=w5.heap.size) (.inl lo) (.int .u64 0) (.int .i64 0) (.int .i64 0) (.int .i64 0) (.int .i64 0));have Bn:∃X3 w3,X3=w5.heap.size/\w3=(((((w6.setCell ⟨w5.heap.size,0,none⟩ (.int .u64 0)).setCell ⟨w5.heap.size,1,none⟩ (.int .i64 0)).setCell ⟨w5.heap.size,2,none⟩ (.int .i64 0)).setCell ⟨w5.heap.size,3,none⟩ (.int .i64 0)).setCell ⟨w5.heap.size,4,none⟩ (.int .i64 0))/\zG w3 X3 #[.int .u64 0,.int .i64 0,.int .i64 0,.int .i64 0,.int .i64 0] 55 /\ zF w5 w3:=⟨_,_,rfl,rfl,zG.set5 hB (.int .u64 0) (.int .i64 0) (.int .i64 0) (.int .i64 0) (.int .i64 0),zA.set5 (F:=λ_=>False) x6 (R:=w5.heap.size) (.inl lo) (.int .u64 0) (.int .i64 0) (.int .i64 0) (.int .i64 0) (.int .i64 0)⟩))
   | fail)
 all_goals
  obtain⟨X3,w3,Bo,Bp,hC,B0⟩:=Bn;rw[<- Bp,<- Bo];have A1:=oh (Ax.out.ext B0);have B1:Hid (zA (λj=>j=S) w w3):=oh (Bm.out.trans B0.ext);have s8:=A1.out.d 8 (.int .i64 0) rfl;have s11:=A1.out.d 11 (.slice none 0 0) rfl;have sf:=A1.out.frozen;have s3:=A1.out.k 3 rfl;have s4:=A1.out.k 4 rfl;have s5:=A1.out.k 5 rfl;have s6:=A1.out.k 6 rfl;have s7:=A1.out.k 7 rfl;have x0:=hC.d 0 (.int .u64 0) rfl;have x1:=hC.d 1 (.int .i64 0) rfl;have x2:=hC.d 2 (.int .i64 0) rfl;have x3:=hC.d 3 (.int .i64 0) rfl;have x4:=hC.d 4 (.int .i64 0) rfl;have Cg:Hid (w.heap.size<=w3.heap.size):=oh B1.out.size;clear Bp Bo hC B0 zd za z5 z7 z6 x6 m6 hB b0 b1 b2 b3 b4 bf lo n1 n2;go_wp2_with fail;go_quiet (fail)
  go_wp2_with fail;obtain⟨W7,B2⟩:∃W,W=w3.drewN nq:=⟨_,rfl⟩;have x7:zF w3 W7:=by rw[B2];exact (zss w3).drewN nq
  rw[<- B2];have A6:=oh (A1.out.ext x7);have Bq:Hid (zA (λj=>j=S) w W7):=oh (B1.out.trans x7.ext);have s8:=A6.out.d 8 (.int .i64 0) rfl;have s11:=A6.out.d 11 (.slice none 0 0) rfl;have sf:=A6.out.frozen;have Ch:S<W7.heap.size:=A6.out.lt;have C3:Hid (w.heap.size<=W7.heap.size):=oh Bq.out.size;clear B2 x7 s3 s4 s5 s6 s7 x0 x1 x2 x3 x4 A1 B1;have n1:S≠W7.heap.size:=by omega
  have Ab:=oh (λW (m:zF W7 W)=>(⟨(A6.out.ext m).cell rfl,(A6.out.ext m).cell rfl⟩:W.cell? ⟨S,8,none⟩=some (.int .i64 0)/\W.cell? ⟨S,11,none⟩=some (.slice none 0 0)));have zd:=Ab.out _ (zss W7).drew;have za:=Ab.out _ ((zss W7).alloc (.cells #[.int .i64 1] 3)).drew;have B3:Hid (∀t,1<=(Question.appendCap 1 0 3).cut t/\(Question.appendCap 1 0 3).cut t<=maxLen):=oh (λt=>by
   simp only[Question.cut,maxLen];have:=pE t (show 0<2 ^ 63-1 by omega);omega)
  have Ci:¬ 281474976710656<Builtin.nextslicecap 1 0 * Tryz.t3.bytes:=by decide
  go_region_with (fail)
  all_goals
   obtain⟨cp,Br⟩:∃cp,cp=(Question.appendCap 1 0 3).cut (W7.tape (W7.drawn+1) (Question.appendCap 1 0 3)):=⟨_,rfl⟩;have hc:=B3.out (W7.tape (W7.drawn+1) (Question.appendCap 1 0 3));rw[<- Br] at hc ⊢;clear Br;go_wp2_with fail;go_ret;obtain⟨W8,Ai⟩:∃W,W=W7.setCell ⟨S,11,none⟩ (.slice (some ⟨W7.heap.size+1,0,none⟩) 1 cp):=⟨_,rfl⟩;have B4:W8.heap.size=W7.heap.size:=by rw[Ai];simp
   have Bs:=A6.out.set 11 (.slice (some ⟨W7.heap.size+1,0,none⟩) 1 cp);have C4:zA (λj=>j=S) w W8:=by rw[Ai];exact Bq.out.trans (zA.setCell (F:=λj=>j=S) (zss W7) (p:=⟨S,11,none⟩) (.inr rfl) _)
   rw[<- Ai] at Bs ⊢;have B5:zG ((W8.alloc (.cells #[.int .i64 1] 3)).alloc (.cells (#[.int .i64 1]++Builtin.zeroCells #[.int .i64 0] (cp-1)) 3)) (W7.heap.size+1) (#[.int .i64 1]++Builtin.zeroCells #[.int .i64 0] (cp-1)) 3:=by
    have:=zG.new (W8.alloc (.cells #[.int .i64 1] 3)) (#[.int .i64 1]++Builtin.zeroCells #[.int .i64 0] (cp-1)) 3;have e:(W8.alloc (.cells #[.int .i64 1] 3)).heap.size=W7.heap.size+1:=by rw[<- B4];simp
    rw[e] at this;exact this
   clear Ai;have x9:zF W8 ((W8.alloc (.cells #[.int .i64 1] 3)).alloc (.cells (#[.int .i64 1]++Builtin.zeroCells #[.int .i64 0] (cp-1)) 3)):=((zss W8).alloc _).alloc _;obtain⟨C5,C6⟩:=hc;refine⟨rfl,⟨some ⟨W7.heap.size+1,0,none⟩,cp,?_,?_⟩,C4.trans (x9.drew.drew.ext)⟩
   .rw[Ao.out];exact zG.ext (by simpa[stC] using Bs) x9.drew.drew
   .exact yC.made (l:=[(1:Int)]) (cap:=cp) B5.drew.drew (by have:=C3.out;omega) (λf=>f) C5 C6 (by simp[Builtin.zeroCells];omega) (by simp[yI]) vH.len
theorem zIU(hL:yH F ad w)(h:DkS w P d D)(ho:D.off=false)(s:yG)(Ak:openS (D.look 1) 1=some s)(Aj:openS (D.look 0) 0=none)(Al:∃r,zV (D.look 0) ((0:Nat):Int)=.inr r)(hb:s.blocks=D.blocks)(hz:s.size=D.size)(B6:(D.look 0).length=D.size)(B7:(D.look 1).length=D.size)
  (S:Nat) (B8:¬ P S) (B9:F S) (cv sv:Value) (s0:yG) (h0 root keys:Int) (dead:Bool) (hB:zG w S (stC d cv sv s0 h0 root keys (.slice none 0 0) dead) 106) :
  Calls Tryz.prog 48 #[.pointer (some ⟨S,0,none⟩)] w λe w'=>e=.returned .nilIface/\(∃a c,zG w' S (stC d cv sv s 1 root keys (.slice a 1 c) dead) 106 /\ yC (λ_=>False) w' w.heap.size 3 1 yI (.slice a 1 c) [0])/\zA (λj=>j=S) w w':=by
 obtain⟨q1,q2,q3,q4,q5,q6⟩:=h.lim;have HL:Hid (∀w',zA F w w'->yH F ad w'):=oh (λw' k=>hL.mods k);have Bv:=oh B9;have Ba:=oh (zHh hL h ho 0 1 (by omega) (by omega));have hf:∀{g:Nat},w.heap.size<g->¬ F g:=λhg f=>by have:=hL.lt _ f;omega
 have A2:Hid (∀{W:World} {v:Value} {l:List UInt8},l.length=D.size->qD w.heap.size D.size W v l->Sl F W 1 zZ v l):=oh (λAm ⟨g,h1,h2,h3⟩=>by rw[h1];exact zCq h3 Am (hf h2) (by omega));clear hf;have Bb:Hid (∀W,zA F w W->∀av bv,qD w.heap.size D.size W av (D.look 0)->qD w.heap.size D.size W bv (D.look 1) -> Calls Tryz.prog 95 #[av,bv] W λe w'=>∃ev,e=.returned (.tuple #[yL s,.int .i64 1,ev])/\zAb F ad w' ev none/\zF W w'):=oh (λW m av bv ha Bw=>by
  obtain⟨g,b,z,r,k⟩:=s;exact zEV (HL.out W m) av bv _ _ (A2.out B6 ha) (A2.out B7 Bw) (by omega) (by omega) (by omega) (by omega) (λ_=>Al) (λe=>by rw[Ak] at e;cases e) Aj Ak)
 have Bc:Hid (∀W,zA F w W->∀bv,qD w.heap.size D.size W bv (D.look 0) -> Calls Tryz.prog 96 #[bv,.int .i64 0] W λe w'=>∃f,e=.returned (.tuple #[.agg #[.int .u64 0,.int .i64 0,.int .i64 0,.int .i64 0,.int .i64 0],zP f])/\zF W w'):=oh (λW m bv hb=>by
  refine (vF (HL.out W m) bv _ (A2.out B6 hb) (by omega) (by omega) 0 (by omega) (λ_=>Al)).mono ?_;rintro e w' ⟨ev,rfl,h2,h3⟩;rw[Aj] at h2 ⊢;obtain⟨f,rfl, -⟩:=h2;exact⟨f,rfl,h3⟩)
 have Bd:Hid (∀W,DkS W P d D -> Calls Tryz.prog 47 #[.pointer (some ⟨d,0,none⟩)] W λe w'=>e=.returned (.agg #[.int .i64 (D.blocks:Int),.int .i64 (D.size:Int)])/\zF W w'):=oh (λW m=>m.geo);have HD:=oh h;have An:Hid (yL s=.agg #[.int .u64 (s.gen:Int),.int .i64 (D.blocks:Int),.int .i64 (D.size:Int),.int .i64 (s.root:Int),.int .i64 (s.keys:Int)]):=oh (by rw[yL,hb,hz]);have Ao:Hid (s=⟨s.gen,D.blocks,D.size,s.root,s.keys⟩):=oh (by rw[<- hb,<- hz]);obtain⟨DB,Be⟩:∃n,n=D.blocks:=⟨_,rfl⟩;obtain⟨DZ,Ap⟩:∃n,n=D.size:=⟨_,rfl⟩;rw[<- Be,<- Ap] at An Ao Bd;rw[<- Ap] at Ba A2 Bb Bc;clear Be Ap;obtain⟨g,Bf⟩:∃g,g=s.gen:=⟨_,rfl⟩;obtain⟨r,hr⟩:∃g,g=s.root:=⟨_,rfl⟩;obtain⟨k,hk⟩:∃g,g=s.keys:=⟨_,rfl⟩;rw[<- Bf,<- hr,<- hk] at An Ao;have hS:=hB.lt;have c0:=hB.d 0 (.pointer (some ⟨d,0,none⟩)) rfl;have HB:=oh hB;have Bx:=oh B8;clear Bf hr hk B9 hL h ho Aj Ak Al hb hz B6 B7 hB B8 q1 q2 q3 q4 q5 q6
 go_enter Tryz.func48, Tryz.ntmps48
 go_wp2_with fail;refine Ba.out.mono ?_;rintro e w1 ⟨v0,v1,rfl,Aq,Ar,m1⟩;obtain⟨a0,rfl, -, -⟩:=_root_.id Aq;obtain⟨a1,rfl, -, -⟩:=_root_.id Ar;have As:=oh Aq;have At:=oh Ar;simp only[zAT] at As At ⊢;have Ac:=oh m1;have Au:=oh (HB.out.ext m1);have By:S<w1.heap.size:=Au.out.lt;clear m1 c0 Aq Ar;go_upto_if 16 with fail
 obtain⟨W2,Ad⟩:∃W,W=w1.alloc (.cells #[.slice (some ⟨a0,0,none⟩) DZ DZ,.slice (some ⟨a1,0,none⟩) DZ DZ] 178):=⟨_,rfl⟩;have m2:zF w1 W2:=by rw[Ad];exact (zss w1).alloc _
 have A7:zG W2 w1.heap.size #[.slice (some ⟨a0,0,none⟩) DZ DZ,.slice (some ⟨a1,0,none⟩) DZ DZ] 178:=by rw[Ad];exact zG.new w1 _ _
 obtain⟨Y,hY⟩:∃Y,Y=w1.heap.size:=⟨_,rfl⟩;rw[<- hY] at A7 By;rw[<- Ad,<- hY];have Ae:=oh (Ac.out.trans m2);have Bg:=oh (Au.out.ext m2);have A4:=oh (qD.mods As.out m2 (λ_ _ _ f=>f));have A5:=oh (qD.mods At.out m2 (λ_ _ _ f=>f));have Bh:=oh A7;have y0:=A7.k 0 rfl;have y1:=A7.k 1 rfl;clear m2 A7 Ad hY Ac Au As At;go_wp2_with fail;refine (Bb.out _ Ae.out.ext _ _ A4.out A5.out).mono ?_;rintro e w3 ⟨ev,rfl,hE,m3⟩;cases hE
 rw[An.out];have Av:=oh (Ae.out.trans m3);have A3:=Bg.out.ext m3;have Bi:=oh A3;have Af:=oh (qD.mods A4.out m3 (λ_ _ _ f=>f));have Ag:=oh (qD.mods A5.out m3 (λ_ _ _ f=>f));have Bj:=oh (Bh.out.ext m3);have s3:=A3.k 3 rfl;have s4:=A3.k 4 rfl;have s5:=A3.k 5 rfl;have s6:=A3.k 6 rfl;have s7:=A3.k 7 rfl;have s8:=A3.k 8 rfl;have sf:=A3.frozen;clear m3 A3 y0 y1 Ae Bg A4 A5 Bh;go_upto_if 34 with fail
 obtain⟨W4,A8⟩:∃W,W=zEI w3 S g DB DZ r k 1:=⟨_,rfl⟩;have m4:zA (λj=>j=S) w3 W4:=by rw[A8];exact zE1
 have Bk:zG W4 S (stC d cv sv ⟨g,DB,DZ,r,k⟩ 1 root keys (.slice none 0 0) dead) 106:=by rw[A8];exact zFp Bi.out _ _ _ _ _ _
 unfold zEI at A8;rw[<- A8];have Bz:Y≠S:=by omega
 have C0:Hid (zA (λj=>j=S) w W4):=oh (Av.out.ext.trans m4);have Ah:=oh Bk;have C1:=oh ((HD.out.at Av.out).far m4 (λj hj h=>Bx.out (h ▸ hj)));have Aw:=oh (qD.mods Af.out m4 (λj hj _ h=>by omega));have C2:=oh (Bj.out.mods m4 Bz);clear m4 Bk A8 s3 s4 s5 s6 s7 s8 sf Av Bi Af Ag Bj;have Bl:=oh (λW (m:zF W4 W)=>(⟨(Ah.out.ext m).cell rfl,(Ah.out.ext m).cell rfl,(Ah.out.ext m).cell rfl⟩:W.cell? ⟨S,0,none⟩=some (.pointer (some ⟨d,0,none⟩))/\W.cell? ⟨S,4,none⟩=some (.int .i64 (DB:Int))/\W.cell? ⟨S,5,none⟩=some (.int .i64 (DZ:Int))));have zd:=Bl.out _ (zss W4).drew;have eqg:∀(a b c d:Int) (w:World),(Op.equalIn 10000 53 (.agg #[.int .i64 a,.int .i64 b]) (.agg #[.int .i64 c,.int .i64 d])).run Tryz.prog w=.ok (decide (a=c) && decide (b=d)) w:=λa b c d w=>Tryz.eqGeo 9998 a b c d w
 go_wp2_with fail;go_region_held3 (λw'=>w'.cell? ⟨S,0,none⟩=some (.pointer (some ⟨d,0,none⟩))/\w'.cell? ⟨S,4,none⟩=some (.int .i64 (DB:Int))/\w'.cell? ⟨S,5,none⟩=some (.int .i64 (DZ:Int)))
  (first|(with_reducible exact zd)|(with_reducible exact z5)|fail)
  (first
   | (go_at_call 47;(with_reducible refine (Bd.out _ (C1.out.at (zss W4).drew)).mono ?_);rintro e w5 ⟨rfl,m5⟩;have xw5:=(zss W4).drew.trans m5;have z5:=Bl.out _ xw5)
   | fail)
 have Cf:=oh xw5;have Ax:=oh (Ah.out.ext xw5);have Ay:=oh (qD.mods Aw.out xw5 (λ_ _ _ f=>f));have Az:=oh (C2.out.ext xw5);have Bm:Hid (zA (λj=>j=S) w w5):=oh (C0.out.trans xw5.ext);clear zd z5 xw5 m5;have A9:zA F w w5:=Bm.out.mono (λj h=>by have h':j=S:=h;rw[h'];exact Bv.out);have Aa:=oh (λW (m:zF w5 W)=>Bc.out W (A9.trans m.ext) _ (qD.mods Ay.out m (λ_ _ _ f=>f)));have A0:=oh (λW (m:zF w5 W)=>(⟨(Ax.out.ext m).cell rfl,(Az.out.ext m).cell rfl,(Az.out.ext m).cell rfl⟩:W.cell? ⟨S,8,none⟩=some (.int .i64 1)/\W.cell? ⟨Y,0,none⟩=some (.slice (some ⟨a0,0,none⟩) DZ DZ)/\W.cell? ⟨Y,1,none⟩=some (.slice (some ⟨a1,0,none⟩) DZ DZ)));have zd:=A0.out _ (zss w5).drew;have za:=A0.out _ ((zss w5).alloc (.cells #[.int .u64 0,.int .i64 0,.int .i64 0,.int .i64 0,.int .i64 0] 55)).drew;have n1:S≠w5.heap.size:=λe=>by have:=Ax.out.lt;omega
 have n2:Y≠w5.heap.size:=λe=>by have:=Az.out.lt;omega
 have wa:IntKind.i64.wrap (1-1)=0:=by decide
 have wb:IntKind.i64.wrap 0=0:=by decide
 clear A9;go_wp2_with fail;go_region_held3 (λw'=>w'.cell? ⟨S,8,none⟩=some (.int .i64 1)/\w'.cell? ⟨Y,0,none⟩=some (.slice (some ⟨a0,0,none⟩) DZ DZ)/\w'.cell? ⟨Y,1,none⟩=some (.slice (some ⟨a1,0,none⟩) DZ DZ))
  (first|(with_reducible exact zd)|(with_reducible exact z5)|(with_reducible exact z7)|(with_reducible exact z6)|(with_reducible exact za)|fail)
  (first
   | (go_at_call 96;((with_reducible refine (Aa.out _ (zss w5).drew).mono ?_);rintro e w6 ⟨ff,rfl,m6⟩;have x6:=(zss w5).drew.trans m6;have z5:=A0.out _ x6;have z7:=A0.out _ (x6.alloc (.cells #[.int .u64 0,.int .i64 0,.int .i64 0,.int .i64 0,.int .i64 0] 55));have hB:zG (w6.alloc (.cells #[.int .u64 0,.int .i64 0,.int .i64 0,.int .i64 0,.int .i64 0] 55)) w6.heap.size #[.int .u64 0,.int .i64 0,.int .i64 0,.int .i64 0,.int .i64 0] 55:=zG.new w6 _ _;have b0:=hB.d 0 (.int .u64 0) rfl;have b1:=hB.d 1 (.int .i64 0) rfl;have b2:=hB.d 2 (.int .i64 0) rfl;have b3:=hB.d 3 (.int .i64 0) rfl;have b4:=hB.d 4 (.int .i64 0) rfl;have bf:=hB.frozen;have lo:w5.heap.size<=w6.heap.size:=x6.size;have z6:=A0.out _ (x6.alloc (.cells #[.int .u64 0,.int .i64 0,.int .i64 0,.int .i64 0,.int .i64 0] 55));have Bn:∃X3 w3,X3=w6.heap.size/\w3=w6.alloc (.cells #[.int .u64 0,.int .i64 0,.int .i64 0,.int .i64 0,.int .i64 0] 55)/\zG w3 X3 #[.int .u64 0,.int .i64 0,.int .i64 0,.int .i64 0,.int .i64 0] 55 /\ zF w5 w3:=⟨_,_,rfl,rfl,zG.new w6 _ _,x6.alloc _⟩))
   | (go_at_call 96;((with_reducible refine (Aa.out _ ((zss w5).alloc (.cells #[.int .u64 0,.int .i64 0,.int .i64 0,.int .i64 0,.int .i64 0] 55)).drew).mono ?_);rintro e w6 ⟨ff,rfl,m6⟩;have x6:=((zss w5).alloc (.cells #[.int .u64 0,.int .i64 0,.int .i64 0,.int .i64 0,.int .i64 0] 55)).drew.trans m6;have z5:=A0.out _ x6;have z7:=z5;have hB:zG w6 w5.heap.size #[.int .u64 0,.int .i64 0,.int .i64 0,.int .i64 0,.int .i64 0] 55:=zG.ext (w:=(w5.alloc (.cells #[.int .u64 0,.int .i64 0,.int .i64 0,.int .i64 0,.int .i64 0] 55)).drew) (zG.new w5 _ _) m6;have b0:=hB.d 0 (.int .u64 0) rfl;have b1:=hB.d 1 (.int .i64 0) rfl;have b2:=hB.d 2 (.int .i64 0) rfl;have b3:=hB.d 3 (.int .i64 0) rfl;have b4:=hB.d 4 (.int .i64 0) rfl;have bf:=hB.frozen;have lo:w5.heap.size<=w5.heap.size:=uD _;have z6:=A0.out _ (zA.set5 (F:=λ_=>False) x6 (R:=w5.heap.size) (.inl lo) (.int .u64 0) (.int .i64 0) (.int .i64 0) (.int .i64 0) (.int .i64 0));have Bn:∃X3 w3,X3=w5.heap.size/\w3=(((((w6.setCell ⟨w5.heap.size,0,none⟩ (.int .u64 0)).setCell ⟨w5.heap.size,1,none⟩ (.int .i64 0)).setCell ⟨w5.heap.size,2,none⟩ (.int .i64 0)).setCell ⟨w5.heap.size,3,none⟩ (.int .i64 0)).setCell ⟨w5.heap.size,4,none⟩ (.int .i64 0))/\zG w3 X3 #[.int .u64 0,.int .i64 0,.int .i64 0,.int .i64 0,.int .i64 0] 55 /\ zF w5 w3:=⟨_,_,rfl,rfl,zG.set5 hB (.int .u64 0) (.int .i64 0) (.int .i64 0) (.int .i64 0) (.int .i64 0),zA.set5 (F:=λ_=>False) x6 (R:=w5.heap.size) (.inl lo) (.int .u64 0) (.int .i64 0) (.int .i64 0) (.int .i64 0) (.int .i64 0)⟩))
   | fail)
 all_goals
  obtain⟨X3,w3,Bo,Bp,hC,B0⟩:=Bn;rw[<- Bp,<- Bo];have A1:=oh (Ax.out.ext B0);have B1:Hid (zA (λj=>j=S) w w3):=oh (Bm.out.trans B0.ext);have s8:=A1.out.d 8 (.int .i64 1) rfl;have s11:=A1.out.d 11 (.slice none 0 0) rfl;have sf:=A1.out.frozen;have s3:=A1.out.k 3 rfl;have s4:=A1.out.k 4 rfl;have s5:=A1.out.k 5 rfl;have s6:=A1.out.k 6 rfl;have s7:=A1.out.k 7 rfl;have x0:=hC.d 0 (.int .u64 0) rfl;have x1:=hC.d 1 (.int .i64 0) rfl;have x2:=hC.d 2 (.int .i64 0) rfl;have x3:=hC.d 3 (.int .i64 0) rfl;have x4:=hC.d 4 (.int .i64 0) rfl;have Cg:Hid (w.heap.size<=w3.heap.size):=oh B1.out.size;clear Bp Bo hC B0 zd za z5 z7 z6 x6 m6 hB b0 b1 b2 b3 b4 bf lo n1 n2;go_wp2_with fail;go_quiet (fail)
  go_wp2_with fail;obtain⟨W7,B2⟩:∃W,W=w3.drewN nq:=⟨_,rfl⟩;have x7:zF w3 W7:=by rw[B2];exact (zss w3).drewN nq
  rw[<- B2];have A6:=oh (A1.out.ext x7);have Bq:Hid (zA (λj=>j=S) w W7):=oh (B1.out.trans x7.ext);have s8:=A6.out.d 8 (.int .i64 1) rfl;have s11:=A6.out.d 11 (.slice none 0 0) rfl;have sf:=A6.out.frozen;have Ch:S<W7.heap.size:=A6.out.lt;have C3:Hid (w.heap.size<=W7.heap.size):=oh Bq.out.size;clear B2 x7 s3 s4 s5 s6 s7 x0 x1 x2 x3 x4 A1 B1;have n1:S≠W7.heap.size:=by omega
  have Ab:=oh (λW (m:zF W7 W)=>(⟨(A6.out.ext m).cell rfl,(A6.out.ext m).cell rfl⟩:W.cell? ⟨S,8,none⟩=some (.int .i64 1)/\W.cell? ⟨S,11,none⟩=some (.slice none 0 0)));have zd:=Ab.out _ (zss W7).drew;have za:=Ab.out _ ((zss W7).alloc (.cells #[.int .i64 0] 3)).drew;have B3:Hid (∀t,1<=(Question.appendCap 1 0 3).cut t/\(Question.appendCap 1 0 3).cut t<=maxLen):=oh (λt=>by
   simp only[Question.cut,maxLen];have:=pE t (show 0<2 ^ 63-1 by omega);omega)
  have Ci:¬ 281474976710656<Builtin.nextslicecap 1 0 * Tryz.t3.bytes:=by decide
  go_region_with (fail)
  all_goals
   obtain⟨cp,Br⟩:∃cp,cp=(Question.appendCap 1 0 3).cut (W7.tape (W7.drawn+1) (Question.appendCap 1 0 3)):=⟨_,rfl⟩;have hc:=B3.out (W7.tape (W7.drawn+1) (Question.appendCap 1 0 3));rw[<- Br] at hc ⊢;clear Br;go_wp2_with fail;go_ret;obtain⟨W8,Ai⟩:∃W,W=W7.setCell ⟨S,11,none⟩ (.slice (some ⟨W7.heap.size+1,0,none⟩) 1 cp):=⟨_,rfl⟩;have B4:W8.heap.size=W7.heap.size:=by rw[Ai];simp
   have Bs:=A6.out.set 11 (.slice (some ⟨W7.heap.size+1,0,none⟩) 1 cp);have C4:zA (λj=>j=S) w W8:=by rw[Ai];exact Bq.out.trans (zA.setCell (F:=λj=>j=S) (zss W7) (p:=⟨S,11,none⟩) (.inr rfl) _)
   rw[<- Ai] at Bs ⊢;have B5:zG ((W8.alloc (.cells #[.int .i64 0] 3)).alloc (.cells (#[.int .i64 0]++Builtin.zeroCells #[.int .i64 0] (cp-1)) 3)) (W7.heap.size+1) (#[.int .i64 0]++Builtin.zeroCells #[.int .i64 0] (cp-1)) 3:=by
    have:=zG.new (W8.alloc (.cells #[.int .i64 0] 3)) (#[.int .i64 0]++Builtin.zeroCells #[.int .i64 0] (cp-1)) 3;have e:(W8.alloc (.cells #[.int .i64 0] 3)).heap.size=W7.heap.size+1:=by rw[<- B4];simp
    rw[e] at this;exact this
   clear Ai;have x9:zF W8 ((W8.alloc (.cells #[.int .i64 0] 3)).alloc (.cells (#[.int .i64 0]++Builtin.zeroCells #[.int .i64 0] (cp-1)) 3)):=((zss W8).alloc _).alloc _;obtain⟨C5,C6⟩:=hc;refine⟨rfl,⟨some ⟨W7.heap.size+1,0,none⟩,cp,?_,?_⟩,C4.trans (x9.drew.drew.ext)⟩
   .rw[Ao.out];exact zG.ext (by simpa[stC] using Bs) x9.drew.drew
   .exact yC.made (l:=[(0:Int)]) (cap:=cp) B5.drew.drew (by have:=C3.out;omega) (λf=>f) C5 C6 (by simp[Builtin.zeroCells];omega) (by simp[yI]) vH.len
end
theorem Tryz.mapSize8:(Tryz.prog.info? 133).map (·.size)=some 3:=by kernel_rfl
theorem zHG{F:NP}{ad:Nat->Addr}{w:World}(hL:yH F ad w)(i gen blocks:Nat)(hi:i<6)(bv:Value)(l:List UInt8)(hb:Sl F w 1 zZ bv l)(h1:256<=l.length)(h2:l.length<=1024)(hr:∃r,zV l (i:Int)=.inr r) :
  Calls Tryz.prog 154 #[bv,.int .i64 (i:Int),.int .u64 (gen:Int),.int .i64 (blocks:Int)] w λe w'=>∃f,e=.returned (.tuple #[zDU ⟨0,0,[]⟩ (.slice none 0 0),zP f])/\zF w w':=by
 have HB:Hid (∀w',zF w w'->Sl F w' 1 zZ bv l):=oh (λw' k=>hb.ext k);have HL:Hid (∀w',zF w w'->yH F ad w'):=oh (λw' k=>hL.mods k.ext);have z5 : 2 < w.heap.size:=uF (by decide) hL.size;have G5:Hid (∀w',zF w w'->w'.cell? ⟨2,0,none⟩=some (.iface 448 (.pointer (some (ad 5))))):=oh (λw' m=>(hL.mods m.ext).c5);have HR:=oh hr;have H1:=oh (And.intro h1 h2);obtain⟨ba,bc,rfl, -⟩:=hb;obtain⟨bl,Ca⟩:∃n,n=l.length:=⟨_,rfl⟩;rw[<- Ca] at HB ⊢;obtain⟨W0,Bu⟩:∃W0,W0=w.alloc (.cells #[.int .u64 0,.int .i64 0,.slice none 0 0] 133):=⟨_,rfl⟩;have Cb:zF w W0:=by rw[Bu];exact (zss w).alloc _
 have C7:zG W0 w.heap.size #[.int .u64 0,.int .i64 0,.slice none 0 0] 133:=by rw[Bu];exact zG.new w _ _
 have Cc:=oh Cb;have Cj:=oh C7;have Cm:=C7.lt;have g5:=G5.out _ (zss w);have Ck:max (i:Int) (-1)=(i:Int):=by omega
 clear Cb C7 hL hr h1 h2 Ca
 go_enter Tryz.func154, Tryz.ntmps154
 go_wp2_with fail;rw[<- Bu];refine (zAF (HL.out _ Cc.out) _ _ _ _ 5 (.sent 5 (by decide) (by decide))).mono ?_;rintro e w1 ⟨f1,rfl, -,m1⟩;have Ac:=oh (Cc.out.trans m1);have Cl:=oh (Cj.out.ext m1);clear m1 g5 Bu;go_wp2_with fail;refine (zDL (HL.out _ Ac.out) _ l (HB.out _ Ac.out) H1.out.1 H1.out.2 (i:Int)).mono ?_;rintro e w2 ⟨m2,⟨p,pv,h3, -, -⟩|⟨pg,k,f, -,rfl, -⟩⟩
 .obtain⟨r,hr⟩:=HR.out;rw[hr] at h3;cases h3
 have Ae:=oh (Ac.out.trans m2);have Cd:=oh (Cl.out.ext m2);clear m2;unfold qC zP;have Bt:=Cd.out.ext ((zss w2).alloc gE);have r0:=Bt.d 0 (.int .u64 0) rfl;have r1:=Bt.d 1 (.int .i64 0) rfl;have r2:=Bt.d 2 (.slice none 0 0) rfl;have rf:=Bt.frozen;clear Bt;go_wp2_with fail;refine bodyPost_ret (zC rfl _ _ w.heap.size 133 #[.int .u64 0,.int .i64 0,.slice none 0 0] _ rfl ((Cd.out.ext ((zss w2).alloc gE)).set3 (.int .u64 0) (.int .i64 0) (.slice none 0 0)) Tryz.underlying133 rfl Tryz.mapSize8) rfl ?_;refine⟨f1,rfl,(Ae.out.trans ((zss w2).alloc _)).trans' (zA.set3 (F:=λk=>k=w.heap.size) zr (R:=w.heap.size) (.inr rfl) (.int .u64 0) (.int .i64 0) (.slice none 0 0)) (λi hi h=>by have h':i=w.heap.size:=h;omega)⟩
end Go.Proofs.YtalpfcaakpgkmaaGreatDoor
