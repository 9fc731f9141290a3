import Derived.Test.YtalpfcaakpgkmaaGreatDoorR47
import Derived.IntWalk
import Derived.Laws.BitsAllLaws
import Derived.Deep.RegionHeld3
import Derived.BigQuiet
namespace Go.Proofs.YtalpfcaakpgkmaaGreatDoor
open Lib renaming hid->oh
set_option maxHeartbeats 4000000
set_option maxRecDepth 100000
section
open Go.RowKit
attribute [local go_sem ↓] Go.wp_at_zero Go.wp_at_succ
section
variable {F P:NP}{ad:Nat->Addr}{w w':World}{d:Nat}{D:zJ}
def zRK(F P:NP)(ad:Nat->Addr)(w:World)(d:Nat)(D:zJ)(e:Ending)(w':World):Prop :=
 ∃P' F',e=.returned (.bool true)/\DkS w' P' d D/\zX P P' F F' ad w w'
theorem zMc(hL:yH F ad w)(hP:∀k,P k->F k)(h:DkS w P d D)(hb:D.blocks=120)(hz:D.size=256)(blk bit mask:Nat)(h1:blk<65536)(h2:bit<65536)(h3:mask<4294967296)(q:Nat)(hq:zG w q #[.int .u16 (blk:Int),.int .u16 (bit:Int),.int .u32 (mask:Int)] 26)(Bf:¬ P q) :
  Calls Tryz.prog 8 #[.pointer (some ⟨d,0,none⟩),.slice (some ⟨q,0,none⟩) 1 1] w (zRK F P ad w d (jS D (blk % 120) (bit % 2048) (mask ||| 1))):=by
 obtain⟨mk,Ae⟩:∃mk,mk=mask ||| 1:=⟨_,rfl⟩
 have Aa:mk<4294967296:=by rw[Ae];exact Nat.or_lt_two_pow (n:=32) h3 (by decide)
 have v4:bits .or .u32 (mask:Int) 1=(mk:Int):=by
  have:=u32_or_nat mask 1 h3 (by decide);rw[Ae];exact this
 obtain⟨bt,An⟩:∃bt,bt=bit % 2048:=⟨_,rfl⟩;obtain⟨bb,A4⟩:∃bb,bb=blk % 120:=⟨_,rfl⟩;have Ao:bt<2048:=by omega
 have Ap:bb<120:=by omega
 have v1:(bit:Int).tmod 2048=(bt:Int):=by rw[tD (by omega),An];rfl
 have v2:IntKind.i64.wrap (bt:Int)=(bt:Int):=IntWalk.i64_in _ (by omega);have v3:IntKind.u16.wrap (bt:Int)=(bt:Int):=by show (bt:Int) % 65536=_;omega
 have v5:(blk:Int).tmod 120=(bb:Int):=by rw[tD (by omega),A4];rfl
 have v6:IntKind.i64.wrap (bb:Int)=(bb:Int):=IntWalk.i64_in _ (by omega);have v7:IntKind.u16.wrap (bb:Int)=(bb:Int):=by show (bb:Int) % 65536=_;omega
 rw[<- Ae,<- An,<- A4];have HC:=oh (DkS.hit (hL.mods (zss w).drew.ext) hP (h.at (zss w).drew) bb bt mk (by omega) (by rw[hz];omega) Aa);have HQ:=oh hq;have Aq:=oh Bf;have Cd:=oh (zX.ext hL hP (zss w).drew);have q0:=hq.d 0 (.int .u16 (blk:Int)) rfl;have q1:=hq.d 1 (.int .u16 (bit:Int)) rfl;have q2:=hq.d 2 (.int .u32 (mask:Int)) rfl;clear hL hP h hb hz Ae An A4 Ao Ap Aa hq Bf h1 h2 h3
 go_enter Tryz.func8, Tryz.ntmps8
 go_wp2_with fail;go_loopg [5] 1 (λm v5 wr=>(m=1/\v5=.int .i64 0/\wr=w)\/(m=0/\v5=.int .i64 1/\Hid (∃P' F',DkS wr P' d (jS D bb bt mk)/\zX P P' F F' ad w wr)))
 case atStart=>exact .inl ⟨rfl,rfl,rfl⟩
 case round =>
  rcases hrel with ⟨rfl,rfl,rfl⟩|⟨rfl,rfl,HR⟩
  .have z0:(wr.drew).cell? ⟨q,0,none⟩=some (.int .u16 (blk:Int)):=q0;have z1:(wr.drew).cell? ⟨q,1,none⟩=some (.int .u16 (bit:Int)):=q1;have z2:(wr.drew).cell? ⟨q,2,none⟩=some (.int .u32 (mask:Int)):=q2;go_wp2_with fail;go_region_held3 (λw'=>w'.cell? ⟨q,0,none⟩=some (.int .u16 (blk:Int))/\w'.cell? ⟨q,1,none⟩=some (.int .u16 (bit:Int))/\w'.cell? ⟨q,2,none⟩=some (.int .u32 (mask:Int)))
    (first|(with_reducible exact⟨z0,z1,z2⟩)|(with_reducible exact⟨x0,x1,x2⟩)|fail)
    (first
     | (go_at_call 20;(with_reducible refine HC.out.mono ?_);rintro e w2 ⟨P2,F2,rfl,Bg,Ab⟩;have x0:=Ab.cellK (w:=wr.drew) z0 Aq.out;have x1:=Ab.cellK (w:=wr.drew) z1 Aq.out;have x2:=Ab.cellK (w:=wr.drew) z2 Aq.out)
     | fail)
   have Ar:Hid (∃P' F',DkS w2 P' d (jS D bb bt mk)/\zX P P' F F' ad wr w2):=oh ⟨P2,F2,Bg,Cd.out.trans Ab⟩;clear Bg Ab x0 x1 x2 z0 z1 z2 q0 q1 q2;go_wp2_with fail;go_roundg 0
   case measure=>omega
   case rel=>exact .inr ⟨rfl,by go_num,Ar⟩
  .go_wp2_with fail;go_ret;obtain⟨P',F',h5,h6⟩:=HR.out;exact⟨P',F',rfl,h5,h6⟩
end
section
variable {P P' F F':NP}{ad:Nat->Addr}{w w':World}{S d c sp:Nat}{s:yG}{root keys:Int}{G G':GA}{l l':List Nat}
def zGp[zQ](F:NP)(w:World)(P:NP)(S d c sp:Nat)(s:yG)(root keys:Int)(G:GA)(l:List Nat):Prop :=
 jK F w P c sp G l/\(∃hm il,zG w S (stC d (.pointer (some ⟨c,0,none⟩)) (.pointer (some ⟨sp,0,none⟩)) s hm root keys il false) 106)/\¬ P S/\F S
theorem StX.st[zQ]{C:qL}{R:Prop}(h:StX R F w P S d c sp s root keys C l)(hi:yJ C)(hr:qZ C G)(hc:G.cost<=1000000)(Bh:zF8 d l):zGp F w P S d c sp s root keys G l:=by
 obtain⟨sb,bvs,Pd,b2,h1,h2,h3,h4,h5,h6,h7⟩:=h;obtain⟨hm,a,n,cc, -,h5⟩:=h5;exact⟨⟨d,sb,bvs,Pd,b2,C,h1,hi,hr,hc,h2,h3,h4,Bh⟩,⟨_,_,h5⟩,h6,h7⟩
theorem zRL[zQ]{D:zJ}{m:qW}(hd:d=zFM)(h0:vL=0)(hL:yH F ad w)(hP:∀k,P k->F k)(h:DkS w P d D)(hD:zCK D)(hX:zBM D s m)(Ce:yA D (place s.gen 0)=false\/yA D (place s.gen 1)=false)(Cf:(yA D 0=false/\yA D 1=false)\/(yA D (place s.gen 0)=false/\yA D (place s.gen 1)=false))(q:Nat)(h3:3<=q)(Bi:q<=64) :
  Calls Tryz.prog 10 #[.pointer (some ⟨d,0,none⟩),.int .i64 (q:Int)] w λe w'=>∃S c sp P' F',e=.returned (.tuple #[.pointer (some ⟨S,0,none⟩),.nilIface])/\zGp F' w' P' S d c sp s s.root s.keys (zAI D) (zAj D.blocks m.used)/\zX P P' F F' ad w w':=by
 have hr:=zJf (D:=D) (λid hi=>by omega) hD q h3 Bi;rw[zO2 h0] at hr;obtain⟨r1,r2⟩:=hr;refine (zKB hL hP h hD s m hX Ce Cf q h3 Bi).mono ?_;rintro e w' ⟨S,c,sp,P',F',e1,e2,e3⟩;exact⟨S,c,sp,P',F',e1,e2.st r1 r2 (tH _) ⟨hd,λi hi=>by omega⟩,e3⟩
theorem zGp.at[zQ](h:zGp F w P S d c sp s root keys G l)(m:zF w w'):zGp F w' P S d c sp s root keys G l:=by
 obtain⟨h1,⟨a,cc,h2⟩,h3,h4⟩:=h;exact⟨h1.at m,⟨a,cc,h2.ext m⟩,h3,h4⟩
theorem zGp.nxt[zQ](h:zGp F w P S d c sp s root keys G l)(n:zX P P' F F' ad w w')(hG:jK F' w' P' c sp G' l'):zGp F' w' P' S d c sp s root keys G' l':=by
 obtain⟨h1,⟨a,cc,h2⟩,h3,h4⟩:=h;exact⟨hG,⟨a,cc,n.blk h2 h3⟩,n.not h2.lt h3,n.grow S h4⟩
theorem zR3[zQ](h:zGp F w P S d c sp s root keys G l)(op:ByteArray) : Calls Tryz.prog 52 #[.pointer (some ⟨S,0,none⟩),.string op] w λe w'=>e=.returned .nilIface/\w=w':=by
 obtain⟨h1,⟨a,cc,h2⟩,h3,h4⟩:=h;have c12:=h2.d 12 (.bool false) rfl;clear h1 h2 h3 h4
 go_enter Tryz.func52, Tryz.ntmps52
 go_wp2_with fail;go_ret;exact⟨rfl,rfl⟩
theorem zR4[zQ](h:zGp F w P S d c sp s root keys G l)(hg:s.gen+1<18446744073709551616) : Calls Tryz.prog 54 #[.pointer (some ⟨S,0,none⟩)] w λe w'=>e=.returned (pgV c sp (s.gen+1))/\zF w w':=by
 obtain⟨h1,⟨a,cc,h2⟩,h3,h4⟩:=h;have c1:=h2.d 1 (.pointer (some ⟨c,0,none⟩)) rfl;have c2:=h2.d 2 (.pointer (some ⟨sp,0,none⟩)) rfl;have c3:=h2.d 3 (.int .u64 (s.gen:Int)) rfl;have hS:=h2.lt;have D2:=oh (zG.new w #[.pointer none,.pointer none,.int .u64 0] 117);have Bj:S≠w.heap.size:=λe=>by omega
 obtain⟨g,As⟩:∃g,g=s.gen:=⟨_,rfl⟩;have Cg:Hid (pgV c sp (s.gen+1)=.agg #[.pointer (some ⟨c,0,none⟩),.pointer (some ⟨sp,0,none⟩),.int .u64 ((g:Int)+1)]):=oh (by rw[As];rfl);rw[<- As] at c3 hg;clear h1 h2 h3 h4 As
 go_enter Tryz.func54, Tryz.ntmps54
 go_wp2_with fail;go_region
 go_wp2_with fail;refine bodyPost_ret (results_cell_row rfl _ _ w.heap.size 117 #[.pointer (some ⟨c,0,none⟩),.pointer (some ⟨sp,0,none⟩),.int .u64 ((g:Int)+1)] (0,0) _ rfl (zG.drew (zG.new w _ _)) Tryz.underlying117 rfl Tryz.stPgSize) rfl ?_;exact⟨by rw[Cg.out],((zss w).alloc _).drew⟩
def zSI:Option ByteArray ⊕ Err->Option Err
 | .inl _=>none
 | .inr e=>some e
def zSJ:Option ByteArray ⊕ Err->ByteArray
 | .inl (some v)=>v
 | _=>⟨#[]⟩
def zS8:Option ByteArray ⊕ Err->Bool
 | .inl (some _)=>true
 | _=>false
theorem zKy.norm{r:Option ByteArray ⊕ Err}{e:Ending}(h:zKy F ad w r e):∃ev,e=.returned (.tuple #[.string (zSJ r),.bool (zS8 r),ev])/\zAb F ad w ev (zSI r):=by
 match r,h with
 | .inl (some v),h=>exact⟨_,h,rfl⟩
 | .inl none,h=>exact⟨_,h,rfl⟩
 | .inr (l,k),⟨f,h,he⟩=>exact⟨_,h,f,rfl,he⟩
def zSj[zQ](F P:NP)(ad:Nat->Addr)(w:World)(S d c sp:Nat)(s:yG)(root keys:Int)(G:GA)(l:List Nat)(r:Option ByteArray ⊕ Err)(e:Ending)(w':World):Prop :=
 ∃P' F' ev,e=.returned (.tuple #[.string (zSJ r),.bool (zS8 r),ev])/\zAb F' ad w' ev (zN1 (zSI r))/\zGp F' w' P' S d c sp s root keys G l/\zX P P' F F' ad w w'
theorem zS9[zQ](hL:yH F ad w)(hP:∀k,P k->F k)(h:zGp F w P S d c sp s root keys G l)(hg:s.gen+1<18446744073709551616)(key:ByteArray)(hk:zKc G root key) :
  Calls Tryz.prog 11 #[.pointer (some ⟨S,0,none⟩),.string key] w (zSj F P ad w S d c sp s root keys G l (zBj G root key)):=by
 have Ch:=oh (λop=>zR3 h op);have Bk:=oh (λW (m:zF w W)=>zR4 (h.at m) hg);have At:=oh (λW (m:zF w W)=>zQ6 (hL.mods m.ext) hP (h.at m).1 (s.gen+1) root key hk);have Ci:=oh h;have HN:=oh (λW (m:zF w W)=>zX.ext hL hP m);have c9:Hid (∀W,zF w W->W.cell? ⟨S,9,none⟩=some (.int .i64 root)):=oh (λW m=>by obtain⟨_,⟨a,cc,h2⟩,_,_⟩:=h.at m;exact h2.cell rfl);clear hL hP h hg hk;obtain⟨pg,Bl⟩:∃pg,pg=pgV c sp (s.gen+1):=⟨_,rfl⟩;rw[<- Bl] at Bk At;clear Bl;obtain⟨r,hr⟩:∃r,r=zBj G root key:=⟨_,rfl⟩;rw[<- hr] at At ⊢;clear hr
 go_enter Tryz.func11, Tryz.ntmps11
 go_wp2_with fail;refine (Ch.out _).mono ?_;rintro e w1 ⟨rfl,rfl⟩;have zd:=c9.out _ (zss w).drew;go_wp2_with fail;go_region_held3 (λw'=>w'.cell? ⟨S,9,none⟩=some (.int .i64 root))
  (first|(with_reducible exact zd)|(with_reducible exact z5)|(with_reducible exact z6)|fail)
  (first
   | (go_at_call 54;(with_reducible refine (Bk.out _ (zss w).drew).mono ?_);rintro e w5 ⟨rfl,m5⟩;have x5:=(zss w).drew.trans m5;have z5:=c9.out _ x5)
   | (go_at_call 53;((with_reducible refine (At.out _ x5).mono ?_);rintro e w6 ⟨P6,F6,Bm,n6,Bn⟩;obtain⟨ev6,rfl,Bo⟩:=Bn.norm;have h6:=(Ci.out.at x5).nxt n6 Bm;have n06:=(HN.out _ x5).trans n6;have z6:w6.cell? ⟨S,9,none⟩=some (.int .i64 root):=(by obtain⟨_,⟨a,cc,h2⟩,_,_⟩:=h6;exact h2.cell rfl)))
   | fail)
 have H6:=oh h6;have N06:=oh n06;have Cj:=oh Bo;clear h6 n06 n6 Bm z5 z6 zd x5 m5 Bn Bo;go_wp2_with fail;refine (wrap_res N06.out.env _ _ _ Cj.out).mono ?_;rintro e w7 ⟨ev7,rfl,Bp,m7⟩;have Ck:=oh Bp;have Bq:=oh m7;clear Bp m7;go_wp2_with fail;go_ret3
 exact⟨P6,F6,ev7,rfl,Ck.out,H6.out.at Bq.out,N06.out.trans (zX.ext N06.out.env N06.out.sub Bq.out)⟩
end
end
section
open Go.RowKit
section
variable {G:GA}{root:Int}{key:ByteArray}{r:Option ByteArray ⊕ Nat}
theorem zGV(hk:jO key=true)(h0:root≠0)(h:LkR G key 16 [] root r):zKc G root key/\(∀x,r=.inl x->zBj G root key=.inl x)/\(∀k,r=.inr k->∃l,zBj G root key=.inr (l,k)):=by
 obtain⟨h1,h2,h3⟩:=h;refine⟨⟨h2,λst n e hf he=>h3 st n e hf he⟩,?_⟩;unfold zBj;rw[zM7 hk];simp only;rw[if_neg h0];cases hf:jM G key 16 [] root with
 | inr e =>
  obtain⟨l,k⟩:=e;rw[hf] at h1;unfold lkF at h1;refine⟨λx hx=>?_,λk' hk'=>?_⟩
  .rw[hx] at h1;cases h1
  .rw[hk'] at h1;injection h1 with h1;exact⟨_,by rw[<- h1]⟩
 | inl p =>
  obtain⟨st,n⟩:=p;rw[hf] at h1;unfold lkF at h1;simp only at h1 ⊢;cases he:n.entries[(zAN n key).1]? with
  | none =>
   rw[he] at h1;simp only at h1;refine⟨λx hx=>?_,λk' hk'=>?_⟩
   .rw[hx] at h1;injection h1 with h1;rw[h1]
   .rw[hk'] at h1;cases h1
  | some e =>
   rw[he] at h1;simp only at h1 ⊢;by_cases hb:(zAN n key).2=true
   .rw[if_pos hb] at h1 ⊢;cases hv:jQ G e with
    | inl v =>
     rw[hv] at h1;simp only at h1 ⊢;refine⟨λx hx=>?_,λk' hk'=>?_⟩
     .rw[hx] at h1;injection h1 with h1;rw[h1]
     .rw[hk'] at h1;cases h1
    | inr e =>
     obtain⟨l,k⟩:=e;rw[hv] at h1;simp only at h1 ⊢;refine⟨λx hx=>?_,λk' hk'=>?_⟩
     .rw[hx] at h1;cases h1
     .rw[hk'] at h1;injection h1 with h1;exact⟨_,by rw[<- h1]⟩
   .rw[if_neg hb] at h1 ⊢;refine⟨λx hx=>?_,λk' hk'=>?_⟩
    .rw[hx] at h1;injection h1 with h1;rw[h1]
    .rw[hk'] at h1;cases h1
end
theorem zPm{l:List UInt8}{id:Int}{r:Err}(h:zV l id=.inr r):r.2=5:=by
 unfold zV at h;split at h
 .injection h with h;rw[<- h]
 .split at h
  .injection h with h;rw[<- h]
  .cases h
section
variable {D:zJ}{s:yG}{m:qW}{dd:Nat}{ps:List zL}{pgs:List Nat}{i bit mask:Nat}
theorem zPn(h:zCK D)(hi:i<D.blocks)(hs:yA (jS D i bit mask) i=true):zCD (zAI D) (zAI (jS D i bit mask)) i:=by
 refine⟨rfl,rfl,λj hj=>zMa h hi hj bit mask,?_⟩;obtain⟨r,hr⟩:=zBG.1 hs;have h':=zGT h hi bit mask;have hv:(zAI (jS D i bit mask)).view i=some (zV ((jS D i bit mask).lasting.getD i []) (i:Int)):=by
  show (if i<D.blocks then some (zV ((jS D i bit mask).look i) i) else none)=_;rw[if_pos hi,h'.last]
 have h5:=zPm hr;obtain⟨l,k⟩:=r;simp only at h5;subst h5;exact⟨l,by rw[hv,hr]⟩
theorem zFL.hit_mount(h:zFL D s m dd ps pgs)(bit mask:Nat):(yA (jS D i bit mask) (place s.gen 0)=false\/yA (jS D i bit mask) (place s.gen 1)=false) /\
  ((yA (jS D i bit mask) 0=false/\yA (jS D i bit mask) 1=false)\/(yA (jS D i bit mask) (place s.gen 0)=false/\yA (jS D i bit mask) (place s.gen 1)=false)):=by
 obtain⟨h1,h2,_⟩:=h.shut;have p0:=h2 0 (by omega);have p1:=h2 1 (by omega);have Bh:2<=place s.gen 0/\place s.gen 0+1=place s.gen 1:=by unfold place;omega
 constructor
 .by_cases e:i=place s.gen 0
  .right;rw[jL D (by omega)];exact p1
  .left;rw[jL D (λe'=>e e'.symm)];exact p0
 .by_cases e:i<2
  .right;rw[jL D (by omega),jL D (by omega)];exact⟨p0,p1⟩
  .left;rw[jL D (by omega),jL D (by omega)];exact⟨h1 0 (by omega),h1 1 (by omega)⟩
theorem zFL.hit_tree(h:zFL D s m dd ps pgs)(hi:i∈pgs)(hb:bit<8 * D.size)(hm:mask % 2=1)(A:yP)(hA:A.seen=[]) :
  s.root≠0/\zRw i e0 none ps pgs A (yZ (dkQ (jS D i bit mask)) s.gen s.size 16 (s.root:Int) A) (λkey r=>LkR (zAI (jS D i bit mask)) key 16 [] (s.root:Int) r):=by
 have hd:=h.well.dry;have Af:=(h.td.lt i hi).2;have A0:i<D.blocks:=Af;have hs:yA (jS D i bit mask) i=true:=zIz (by rw[hd.lenL];exact A0) (h.shut.2.2 i hi) (by rw[hd.last,hd.len i A0];exact hb) hm;have Br:(zAI D).blocks<=256:=hd.b256;have h':=zGT hd A0 bit mask;rcases h.td.tree with ⟨_,_,_,h3⟩|⟨_,h2⟩
 .rw[h3] at hi;cases hi
 .obtain⟨r,hr⟩:=vX.head _ _ _ _ _ _ h2;have h3:=h.td.lt s.root (by rw[hr];simp);have D3:=(h.td.few Br).2;refine⟨by omega,?_⟩;rw[h.well.siz];refine zMS (zPn hd A0 hs) (zBp.dry h') ?_ (uD _) hd.s256 Br dd _ _ _ _ _ h2 hi 16 A (by omega) (by
   rw[hA,wP];exact tI.2 (h.td.nodup.imp (λh e=>h (by omega))))
  obtain⟨r,hr⟩:=zBG.1 hs;rw[zNO (show i<(jS D i bit mask).blocks from A0),hr]
end
def zNs(D:zJ)(s:yG)(ps:List zL)(A:yP):Prop :=
 ∀x∈ps,zKc (zAI D) (s.root:Int) x.1/\(x.1∈A.lost->∃l,zBj (zAI D) (s.root:Int) x.1=.inr (l,5))/\(x.1 ∉ A.lost->zBj (zAI D) (s.root:Int) x.1=.inl (some x.2)\/(A.blind=true/\∃l,zBj (zAI D) (s.root:Int) x.1=.inr (l,5)))
section
variable {D:zJ}{s:yG}{m:qW}{dd:Nat}{ps:List zL}{pgs:List Nat}{i bit mask:Nat}
theorem Spo.tells(h:Spo D s m dd ps pgs)(A:yP)(hA:A.lost=[]):zNs D s ps A:=λx hx=>by
 have hb:(zAI D).blocks<=256:=h.dry.b256;rcases h.td.tree with ⟨_,_,h3,_⟩|⟨h1,h2⟩
 .rw[h3] at hx;cases hx
 .obtain⟨r,hr⟩:=vX.head _ _ _ _ _ _ h2;have h3:=h.td.lt s.root (by rw[hr];simp);have hd:=(h.td.few hb).2;have hl:=vX.lkR h.dry.s256 hb dd _ _ _ _ _ h2 16 [] x.1 (by omega) (zEA _);obtain⟨a1,a2,_⟩:=zGV (h.td.ok x hx).1 (by omega) hl;refine⟨a1,λhm=>(by rw[hA] at hm;cases hm),λ_=>.inl ?_⟩;rw[a2 _ rfl,zLh h.td.sorted hx]
theorem zFL.hit_tells(h:zFL D s m dd ps pgs)(hi:i<D.blocks)(hb:bit<8 * D.size)(hm:mask % 2=1)(hp:ps.length<=1000) :
  (zCl (jS D i bit mask) s).few/\zNs (jS D i bit mask) s ps (zCl (jS D i bit mask) s):=by
 by_cases hn:i∈pgs
 .obtain⟨A,hA⟩:∃A,A=yP.hd (zC0 (jS D i bit mask) s.gen):=⟨_,rfl⟩;obtain⟨h0,w,lost,r1,r2,r3,r4⟩:=h.hit_tree hn hb hm A (by rw[hA];rfl);have A5:zCl (jS D i bit mask) s=yZ (dkQ (jS D i bit mask)) s.gen s.size 16 (s.root:Int) A:=by
   unfold zCl;rw[if_neg (by omega),hA]
  rw[A5];obtain⟨A',hA'⟩:∃A',A'=yZ (dkQ (jS D i bit mask)) s.gen s.size 16 (s.root:Int) A:=⟨_,rfl⟩;rw[<- hA'] at r1 ⊢;have D4:=(h.td.few h.well.dry.b256).1;have D5:=zJ2 (jS D i bit mask) s.gen;have hl:A'.lost=lost:=by rw[r1.lost,hA];rfl
  have Ag:A'.blind=decide (w=3):=by rw[r1.blind,hA];rfl
  have Cl:lost.length<=100000:=by
   have:=r1.one;omega
  refine⟨⟨?_,?_,?_,?_,?_⟩,λx hx=>?_⟩
  .obtain⟨y,hy,hs⟩:=r1.seen;have Au:=hs.length_le;rw[hy,hA];show ([]++y).length<=1000;have e:(iL pgs).length=pgs.length:=by simp[iL]
   simp only[wP];omega
  .rw[r1.finds,hA];show (zC0 (jS D i bit mask) s.gen++_).length<=1000;simp only[uC,uG,uL];omega
  .have:=r1.ids;rw[hA] at this;have e:(yP.hd (zC0 (jS D i bit mask) s.gen)).ids.length=0:=rfl;omega
  .rw[hl];exact Cl
  .have:=r1.keys;rw[hA] at this;have e:(yP.hd (zC0 (jS D i bit mask) s.gen)).keys=0:=rfl;omega
  .obtain⟨t1,t2⟩:=r4 x.1 (zEA _);have hk:=(h.td.ok x hx).1;have hf:=zLh h.td.sorted hx;rw[hf] at t2;have h0':(s.root:Int)≠0:=by omega
   by_cases hm:x.1∈lost
   .obtain⟨a1,_,a3⟩:=zGV hk h0' (t1 hm);exact⟨a1,λ_=>a3 5 rfl,λhn=>absurd (by rw[hl];exact hm) hn⟩
   .rcases t2 hm with t2|⟨t2,t3⟩
    .obtain⟨a1,a2,_⟩:=zGV hk h0' t2;exact⟨a1,λhn=>absurd (by rw[hl] at hn;exact hn) hm,λ_=>.inl (a2 _ rfl)⟩
    .obtain⟨a1,_,a3⟩:=zGV hk h0' t3;exact⟨a1,λhn=>absurd (by rw[hl] at hn;exact hn) hm,λ_=>.inr ⟨by rw[Ag,t2];rfl,a3 5 rfl⟩⟩
 .have Av:=h.hit_spo hi hb hm hn;exact⟨zOT Av hp,Av.tells _ (by rw[zGo Av];rfl)⟩
end
end
section
open Go.RowKit
attribute [local go_sem ↓] Go.wp_at_zero Go.wp_at_succ
theorem zR5(m:Nat):(m ||| 1) % 2=1:=by
 have h:decide ((m ||| 1) % 2=1)=true:=by rw[<- Nat.testBit_zero,Nat.testBit_or];simp
 exact rR h
def zFZ(k:ByteArray)(l:List ByteArray):Bool:=l.any λy=>y.toList == k.toList
theorem zKC(k:ByteArray)(l:List ByteArray):zFZ k l=true ↔ k∈l:=by
 unfold zFZ;rw[List.any_eq_true];exact⟨λ⟨y,h1,h2⟩=>by rw[<- toList_inj (eq_of_beq h2)];exact h1,λh=>⟨k,h,by simp⟩⟩
theorem zR6(d:Nat):∃i:zQ,d = @zFM i /\ @vL i=0:=⟨⟨⟨d,0,λ_=>[]⟩⟩,rfl,rfl⟩
section
variable {ad:Nat->Addr}{w w' wm wr:World}
def zKD[zQ](ad:Nat->Addr)(wm:World)(Pm Fm:NP)(S d c sp:Nat)(s:yG)(G:GA)(l:List Nat)(Rb:Nat)(rv:Array Value)(wv lv:Value)(ps:List zL)(lost:List ByteArray)(wr:World):Prop :=
 ∃P1 F1,zGp F1 wr P1 S d c sp s s.root s.keys G l/\zX Pm P1 Fm F1 ad wm wr/\zG wr Rb rv 37 /\ ¬ P1 Rb/\Sl F1 wr 2 zCE wv ps/\Sl F1 wr 1 vW lv lost
theorem zKD.ext[zQ]{Pm Fm:NP}{S d c sp:Nat}{s:yG}{G:GA}{l:List Nat}{Rb:Nat}{rv:Array Value}{wv lv:Value}{ps:List zL}{lost:List ByteArray}(h:zKD ad wm Pm Fm S d c sp s G l Rb rv wv lv ps lost wr)(m:zF wr w'):zKD ad wm Pm Fm S d c sp s G l Rb rv wv lv ps lost w':=by
 obtain⟨P1,F1,h1,h2,h3,h4,h5,h6⟩:=h;exact⟨P1,F1,h1.at m,h2.trans (zX.ext h2.env h2.sub m),h3.ext m,h4,h5.ext m,h6.ext m⟩
theorem zI0(hL:yH NoB ad w)(Bs:zEZ ad)(lv:Value)(L:List zL)(hl:Sl NoB w 2 zCE lv L)(blk bit mask:Nat)(h1:blk<65536)(h2:bit<65536)(h3:mask<4294967296) :
  Calls Tryz.prog 3 #[lv,.agg #[.int .u16 (blk:Int),.int .u16 (bit:Int),.int .u32 (mask:Int)]] w λe w'=>e=.returned (.bool true)/\zF w w':=by
 obtain⟨w0,Ah⟩:∃W,W=w.alloc (.cells #[.int .u16 (blk:Int),.int .u16 (bit:Int),.int .u32 (mask:Int)] 26):=⟨_,rfl⟩;have m0:zF w w0:=by rw[Ah];exact (zss w).alloc _
 have Cm:Hid (zG w0 w.heap.size #[.int .u16 (blk:Int),.int .u16 (bit:Int),.int .u32 (mask:Int)] 26):=oh (by rw[Ah];exact zG.new w _ _);have Cn:=oh (zIw (hL.mods m0.ext) lv L (hl.ext m0));have HL:=oh (hL.mods m0.ext);have Co:=oh Bs;have Aw:=oh (And.intro h1 (And.intro h2 h3));have Cp:=oh m0;have Cq:=oh Ah;obtain⟨la,lc,rfl, -⟩:=hl;clear hL Bs h1 h2 h3 m0 Ah
 go_enter Tryz.func3, Tryz.ntmps3
 go_wp2_with fail;rw[<- Cq.out];refine Cn.out.mono ?_;rintro e w1 ⟨d,D,Pd,F,s,m,dd,pgs,wa,wc,rfl,hD,hC,Bt,Bu,Cr,Ax,Ac,hN,A6⟩;obtain⟨ps,Bv⟩:∃ps,ps=(zAa L (min L.length 20)).1:=⟨_,rfl⟩;rw[<- Bv] at hC Ac A6 ⊢;have Ai:=Cm.out.ext (hN.stp.mods:zF w0 w1);have q0:=Ai.d 0 (.int .u16 (blk:Int)) rfl;have q1:=Ai.d 1 (.int .u16 (bit:Int)) rfl;have q2:=Ai.d 2 (.int .u32 (mask:Int)) rfl;have Bw:=oh (zG.new w1 #[.int .u16 (blk:Int),.int .u16 (bit:Int),.int .u32 (mask:Int)] 26);have m2:zF w1 (w1.alloc (.cells #[.int .u16 (blk:Int),.int .u16 (bit:Int),.int .u32 (mask:Int)] 26)):=(zss w1).alloc _;have A1:=oh (hN.trans (zX.ext hN.env hN.sub m2));have Ay:=oh (zMc A1.out.env A1.out.sub (hD.at m2) Bt Bu blk bit mask Aw.out.1 Aw.out.2.1 Aw.out.2.2 w1.heap.size Bw.out (λh=>by have:=hD.bd _ h;omega));obtain⟨D',hD'⟩:∃D',D'=jS D (blk % 120) (bit % 2048) (mask ||| 1):=⟨_,rfl⟩;rw[<- hD'] at Ay;have A0:blk % 120<D.blocks:=by omega
 have A4:bit % 2048<8 * D.size:=by omega
 have A7:=zR5 mask;have Az:Hid (zBM D' s m):=oh (by rw[hD'];exact hC.hit_head A0 A4 A7);have Bx:Hid (zCK D'):=oh (by rw[hD'];exact zGT hC.well.dry A0 _ _);obtain⟨t1,t2⟩:=hC.hit_tells A0 A4 A7 (by omega:ps.length<=1000);rw[<- hD'] at t1 t2;have Aj:=oh t1;have Ak:=oh t2;have B0:=oh (hC.hit_mount (i:=blk % 120) (bit % 2048) (mask ||| 1));rw[<- hD'] at B0;have Cs:Hid (s.gen+1<18446744073709551616):=oh (by omega);have Ct:=oh (A6.ext m2);have D6:=oh Ac;clear hD hC Bt Bu Cr Ax hN Bv Ai A0 A4 A7 t1 t2 m2 hD' A6;go_wp2_with fail;refine Ay.out.mono ?_;rintro e w3 ⟨P3,F3,rfl,B1,B2⟩;have A9:=oh (A1.out.trans B2);have B3:=oh (B2.sl A1.out.sub Ct.out);have Cu:=oh B1;have B4:=oh (zIy (A9.out.env.anti (Q:=NoB) (λ_ h=>h.elim)) B1 Bx.out.off Az.out (zPa Az.out) Aj.out);obtain⟨A,hA⟩:∃A,A=zCl D' s:=⟨_,rfl⟩;rw[<- hA] at B4 Ak Aj;clear B1 B2 hA q0 q1 q2 Ay Bw;go_wp2_with fail;refine B4.out.mono ?_;rintro e w4 ⟨fa,fc,ia,ic,la2,lc2,rfl, -, -,By,B5⟩;obtain⟨rv,B6⟩:∃rv:Array Value,rv=#[.int .u64 (s.gen:Int),.slice fa A.finds.length fc,.int .i64 (A.ids.length:Int),.slice ia A.ids.length ic,.int .i64 (A.keys:Int),.slice la2 A.lost.length lc2,.bool A.blind]:=⟨_,rfl⟩;have m5:=B5.alloc (.cells #[.int .u64 (s.gen:Int),.slice fa A.finds.length fc,.int .i64 (A.ids.length:Int),.slice ia A.ids.length ic,.int .i64 (A.keys:Int),.slice la2 A.lost.length lc2,.bool A.blind] 37);have x5:zF w4 (w4.alloc (.cells #[.int .u64 (s.gen:Int),.slice fa A.finds.length fc,.int .i64 (A.ids.length:Int),.slice ia A.ids.length ic,.int .i64 (A.keys:Int),.slice la2 A.lost.length lc2,.bool A.blind] 37)):=(zss w4).alloc _;have Al:=oh (zG.new w4 #[.int .u64 (s.gen:Int),.slice fa A.finds.length fc,.int .i64 (A.ids.length:Int),.slice ia A.ids.length ic,.int .i64 (A.keys:Int),.slice la2 A.lost.length lc2,.bool A.blind] 37);have A8:=oh (A9.out.trans (zX.ext A9.out.env A9.out.sub m5));have B7:=oh ((By.slF (F:=F3) (λk hk=>A9.out.env.lt k hk) zBm.len (by have:=Aj.out.2.2.2.1;omega)).ext x5);have B8:=oh (B3.out.ext m5);obtain⟨iK,Bz,C0⟩:=zR6 d;have B9:=oh (zRL Bz C0 A8.out.env A8.out.sub (Cu.out.at m5) Bx.out Az.out B0.out.1 B0.out.2 4 (by omega) (by omega));rw[show ((4:Nat):Int)=4 from rfl] at B9;have C1:Hid (¬ P3 w4.heap.size):=oh (λh=>by have:=A9.out.stp.bd _ h;have:=B5.size;omega);clear By B5 m5 x5 Bz C0 B4;have Al:Hid (zG (w4.alloc (.cells #[.int .u64 (s.gen:Int),.slice fa A.finds.length fc,.int .i64 (A.ids.length:Int),.slice ia A.ids.length ic,.int .i64 (A.keys:Int),.slice la2 A.lost.length lc2,.bool A.blind] 37)) w4.heap.size rv 37):=oh (by rw[B6];exact Al.out);have C2:=oh B6;clear B6;go_wp2_with fail;refine B9.out.mono ?_;rintro e w6 ⟨S,c,sp,P6,F6,rfl,Ba,A3⟩;obtain⟨G,hG⟩:∃G,G=zAI D':=⟨_,rfl⟩;obtain⟨l,hl⟩:∃l,l=zAj D'.blocks m.used:=⟨_,rfl⟩;unfold zNs at Ak;rw[<- hG,<- hl] at Ba;rw[<- hG] at Ak;have C3:Hid (zKD ad w6 P6 F6 S d c sp s G l w4.heap.size rv (.slice wa ps.length wc) (.slice la2 A.lost.length lc2) ps A.lost w6):=oh ⟨P6,F6,Ba,zX.refl (A8.out.trans A3).env (A8.out.trans A3).sub,A3.blk Al.out C1.out,A3.not Al.out.lt C1.out,A3.sl A8.out.sub B8.out,A3.sl A8.out.sub B7.out⟩;have C4:=oh (A8.out.trans A3);obtain⟨R,hR⟩:∃R,R=w4.heap.size:=⟨_,rfl⟩;rw[<- hR] at C3 ⊢;clear Ba A3 hG hl hR B9;go_wp2_with fail;go_loopg [12] ps.length (λz v12 wr=>∃i,i+z=ps.length/\v12=.int .i64 (i:Int)/\Hid (zKD ad w6 P6 F6 S d c sp s G l R rv (.slice wa ps.length wc) (.slice la2 A.lost.length lc2) ps A.lost wr))
 case atStart=>exact⟨0,by omega,rfl,C3⟩
 case round =>
  obtain⟨i,D7,rfl,HS⟩:=hrel;obtain⟨wo,rfl⟩:∃wo:World,wo=wr:=⟨_,rfl⟩;obtain⟨zo,rfl⟩:∃zo:Nat,zo=gk:=⟨_,rfl⟩;by_cases Af:i<ps.length
  .obtain⟨P1,F1,g1,g2,g3,g4,g5,g6⟩:=HS.out;obtain⟨x,hx⟩:∃x,x=ps[i]:=⟨_,rfl⟩;obtain⟨k1,k2,k3⟩:=Ak.out x (by rw[hx];exact tB Af);obtain⟨qb,qoff,Cv,C5,hc⟩:=g5.elemF Af;have d0:=hc 0 (.string x.1) (by rw[hx];rfl);have d1:=hc 1 (.string x.2) (by rw[hx];rfl);simp only[uT] at d0;have C6:¬ P1 qb:=λhp=>C5 (g2.sub qb hp)
   have D0:=oh d0;have D1:=oh d1;have C7:=oh C6;have C8:=oh (zS9 g2.env g2.sub g1 Cs.out x.1 k1);obtain⟨r,hr⟩:∃r,r=zBj G (s.root:Int) x.1:=⟨_,rfl⟩;rw[<- hr] at C8 k2 k3;have K2:=oh k2;have K3:=oh k3;have G1:=oh (And.intro g2 (And.intro g3 (And.intro g4 (And.intro g5 g6))));subst Cv;have i1:(0:Int)<=(i:Int):=by omega
   have i2:(i:Int)<(ps.length:Int):=by omega
   clear g1 g2 g3 g4 g5 g6 hx k1 k2 k3 C5 C6 hc hr;go_wp2_with fail;refine C8.out.mono ?_;rintro e w9 ⟨P9,F9,ev,rfl,C9,Ca,A2⟩;obtain⟨g2,g3,g4,g5,g6⟩:=G1.out;have Bb:=oh (A2.blk g3 g4);have Cb:=oh (A2.sl g2.sub g6);have Cw:Hid (zKD ad w6 P6 F6 S d c sp s G l R rv (.slice (some ⟨qb,qoff,none⟩) ps.length wc) (.slice la2 A.lost.length lc2) ps A.lost w9):=oh ⟨P9,F9,Ca,g2.trans A2,Bb.out,A2.not g3.lt g4,A2.sl g2.sub g5,Cb.out⟩;have Am:=oh C9;have Cx:=oh A2.env;have E0:=oh (zHO A2.stp.mods D0.out C7.out);have E1:=oh (zHO A2.stp.mods D1.out C7.out);clear d0 d1 g2 g3 g4 g5 g6 C9 Ca A2;have D8:A.lost.length<=100000:=Aj.out.2.2.2.1;go_wp2_with fail;go_loopg [16,17] A.lost.length (λz u16 u17 wq=>∃k,k+z=A.lost.length/\u16=.bool (zFZ x.1 (A.lost.take k))/\u17=.int .i64 (k:Int)/\Hid (zF w9 wq))
   case atStart=>exact⟨0,by omega,rfl,rfl,oh zr⟩
   case round =>
    obtain⟨k,D9,rfl,rfl,HQ⟩:=hrel;have c5:=(Bb.out.ext HQ.out).d 5 (.slice la2 A.lost.length lc2) (by rw[C2.out];rfl);have c6:=(Bb.out.ext HQ.out).d 6 (.bool A.blind) (by rw[C2.out];rfl);have y0:=zE HQ.out E0.out;have y1:=zE HQ.out E1.out;by_cases hk:k<A.lost.length
    .obtain⟨y,hy⟩:∃y,A.lost[k]? = some y:=⟨_,uB hk⟩;have Au:A.lost[k]=y:=by rw[uB hk] at hy;injection hy
     obtain⟨yb,yoff,Cy,Cc⟩:=Cb.out.elem hk HQ.out;have e0:=Cc 0 (.string y) (by rw[Au];rfl);simp only[wC,uT] at e0;have HN:Hid (zFZ x.1 (A.lost.take (k+1))=(zFZ x.1 (A.lost.take k) || (y.toList == x.1.toList))):=oh (by
      rw[vO _ k y hy];unfold zFZ;rw[List.any_append];simp)
     have j1:(0:Int)<=(k:Int):=by omega
     have j2:(k:Int)<(A.lost.length:Int):=by omega
     subst Cy;clear hy Au Cc;obtain⟨b,hb⟩:∃b,b=zFZ x.1 (A.lost.take k):=⟨_,rfl⟩;rw[<- hb] at HN ⊢;clear hb;cases b
     .by_cases Bc:x.1=y
      .subst Bc;have A1:Hid (zFZ x.1 (A.lost.take (k+1))=true):=oh (by rw[HN.out];simp);go_wp2_with fail;go_quiet (fail)
       go_wp2_with fail;go_roundg (gk-1)
       case measure=>omega
       case rel=>exact⟨k+1,by omega,by rw[A1.out],by go_num,oh (HQ.out.trans (zr.drewN _))⟩
      .have Bj:(y.toList == x.1.toList)=false:=by rw[uR];exact λe=>Bc (toList_inj e).symm
       have A1:Hid (zFZ x.1 (A.lost.take (k+1))=false):=oh (by rw[HN.out,Bj];rfl);clear Bc;go_wp2_with fail;go_quiet (fail)
       go_wp2_with fail;go_roundg (gk-1)
       case measure=>omega
       case rel=>exact⟨k+1,by omega,by rw[A1.out],by go_num,oh (HQ.out.trans (zr.drewN _))⟩
     .have A1:Hid (zFZ x.1 (A.lost.take (k+1))=true):=oh (by rw[HN.out];rfl);go_wp2_with fail;go_quiet (fail)
      go_wp2_with fail;go_roundg (gk-1)
      case measure=>omega
      case rel=>exact⟨k+1,by omega,by rw[A1.out],by go_num,oh (HQ.out.trans (zr.drewN _))⟩
    .have A5:A.lost.take k=A.lost:=uY (by omega);have Da:k=A.lost.length:=by omega
     rw[A5];have Bd:=oh (Cw.out.ext HQ.out);have HT:=oh (zLm (Cx.out.mods HQ.out.ext) Co.out ev _ (Am.out.mods HQ.out.ext) 5 (by omega));rw[show ((5:Nat):Int)=5 from rfl] at HT;by_cases hm:x.1∈A.lost
     .obtain⟨el,he⟩:=K2.out hm;have HE:=Am.out;rw[he] at HE HT;obtain⟨f,rfl, -⟩:=HE;rw[(zKC x.1 A.lost).2 hm];unfold zP at *;go_wp2_with fail;refine HT.out.mono ?_;rintro e w10 ⟨rfl,rfl⟩;go_wp2_with fail;go_roundg (zo-1)
      case measure=>omega
      case rel=>exact⟨i+1,by omega,by go_num,Bd⟩
     .rw[Bool.eq_false_iff.2 (λe=>hm ((zKC x.1 A.lost).1 e))];rcases K3.out hm with he|⟨Ag,el,he⟩
      .have HE:=Am.out;rw[he] at HE;obtain rfl:ev=.nilIface:=HE;rw[he];go_wp2_with fail;go_roundg (zo-1)
       case measure=>omega
       case rel=>exact⟨i+1,by omega,by go_num,Bd⟩
      .have HE:=Am.out;rw[he] at HE HT;obtain⟨f,rfl, -⟩:=HE;rw[Ag] at c6;clear Ag;unfold zP at *;go_wp2_with fail;refine HT.out.mono ?_;rintro e w10 ⟨rfl,rfl⟩;go_wp2_with fail;go_roundg (zo-1)
       case measure=>omega
       case rel=>exact⟨i+1,by omega,by go_num,Bd⟩
  .obtain⟨P1,F1,g1,g2, -⟩:=HS.out;have HX:Hid (zF w wo):=oh (Cp.out.trans ((C4.out.trans g2).stp.mods));have Cz:=oh (zMb (HL.out.mods ((C4.out.trans g2).stp.mods)));clear g1 g2;go_wp2_with fail;refine Cz.out.mono ?_;rintro e w10 ⟨rfl,Ad⟩;have Be:=oh (HX.out.trans Ad);clear Ad;go_wp2_with fail;go_ret;exact⟨rfl,Be.out⟩
end
end
end Go.Proofs.YtalpfcaakpgkmaaGreatDoor
