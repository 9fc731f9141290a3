import Derived.Test.YtchklfmggpconaaGreatDoorK40
import Derived.IntWalk
import Derived.Test.YtchklfmggpconaaGreatDoorK44
namespace Go.Proofs.YtchklfmggpconaaGreatDoor
open Lib renaming hid→oh
set_option maxHeartbeats 8000000
set_option maxRecDepth 100000
open Go.RowKit
attribute [local go_sem ↓] Go.wp_at_zero Go.wp_at_succ
section
variable {G:GA}{gen:Nat}
theorem Kids.eachT{T:TreeT}{lo:ByteArray}{hi:Option ByteArray}{kk:List ByteArray}{cc:List Int}{ps:List PairS}{q:List Nat}(h:Kids T lo hi kk cc ps q):∀k∈cc,∃lo' hi' l' q',T lo' hi' k.toNat l' q':=λk hk=>by
 obtain⟨n,lo',hi',l',q',rfl,t,_⟩:=h.each k hk;exact⟨lo',hi',l',q',by rw[Int.toNat_natCast];exact t⟩
theorem TrD.trE:∀(d:Nat) (lo:ByteArray) (hi:Option ByteArray) (id:Nat) (l:List PairS) (q:List Nat),TrD G gen d lo hi id l q→TrE G.node id d
 | 0,_,_,_,_,_,h=>h.elim
 | d+1,lo,hi,id,l,q,h=>by
  obtain⟨n,q,hp,hr,rfl,h⟩:=h;have hn:=pgn_node hp;rcases h with ⟨hl,rfl,hne,he,_⟩|⟨hl,hk⟩
  ·exact .leaf hn hl (λe=>by
    have:=he.len;rw[e] at this;exact hne (List.length_eq_zero_iff.1 (by simpa using this.symm)))
  ·exact .inner hn hl (λk hk'=>by
    obtain⟨lo',hi',l',q',t⟩:=hk.eachT k hk';exact TrD.trE d _ _ _ _ _ t)
theorem TD.treeE{root d:Nat}{ps:List PairS}{pgs:List Nat}(h:TD G gen root d ps pgs)(hs:256≤G.size)(hb:G.blocks≤256):TreeE G root d ps:=by
 refine⟨h.treeG hs hb,λhr=>?_⟩;rcases h.tree with ⟨h0,_,_,_⟩|⟨_,hT⟩
 ·exact absurd h0 hr
 ·exact TrD.trE _ _ _ _ _ _ hT
theorem upP_all:∀(l:List PairS) (m:Nat),l.length≤m→upP e0 l m=l
 | [],m,_=>by cases m <;> rfl
 | x :: l,0,h=>by simp at h
 | x :: l,m+1,h=>by
  rw[upP,if_pos (by simp[belowB]),upP_all l m (by simpa using h)]
theorem ltS_e0(k:ByteArray):ltS k e0=false:=by
 cases h:ltS k e0 with
 | false=>rfl
 | true =>
  unfold ltS at h;rw[show e0.toList=[] from by simp[ByteArray.toList_eq]] at h;cases hk:k.toList <;> rw[hk] at h <;> simp[Op.bytesLess] at h
theorem seekP_e0(l:List PairS):seekP e0 l=0:=by
 cases l with
 | nil=>rfl
 | cons x l=>simp[seekP,ltS_e0,List.findIdx_cons]
end
section
variable {P P' F F':Nat→Prop}{ad:Nat→Addr}{w w':World}{c s:Nat}{G:GA}{l:List Nat}{gen root d:Nat}{ps:List PairS}{pgs:List Nat}
theorem rangeT_any(hL:Env F ad w)(hP:∀k,P k→F k)(h:PgR F w P c s G l)(g:Nat)(hT:TD G gen root d ps pgs)(hs:256≤G.size)(hb:G.blocks≤256)(hlen:ps.length≤1000) :
  Calls Tryz.prog 49 #[pgV c s g,.int .i64 (root:Int),.string e0,.string e0,.int .i64 65535] w (RangeD F P ad w c s G l ps):=by
 obtain⟨H,hl,ht,hH⟩:=h.tot;have hT2:=hT.up hl;have hs2:256≤H.size:=by rw[hl.size];exact hs
 have hb2:H.blocks≤256:=by rw[hl.blocks];exact hb
 have hd:=(hT2.few hb2).2;have hR:=range_any hL hP hH hlen ht (by omega) (hT2.treeE hs2 hb2) g e0 e0 65535 (by unfold askB boundB;simp);rw[seekP_e0,List.drop_zero,upP_all ps _ (by show ps.length≤65535;omega)] at hR;refine hR.mono ?_;rintro e w' ⟨P',F',hG,hN,hr⟩;exact⟨P',F',hG.le hl,hN,hr⟩
theorem dumpT_any(hL:Env F ad w)(hP:∀k,P k→F k)(h:PgR F w P c s G l)(g:Nat)(hT:TD G gen root d ps pgs)(hs:256≤G.size)(hb:G.blocks≤256)(hlen:ps.length≤1000) :
  Calls Tryz.prog 18 #[pgV c s g,.int .i64 (root:Int)] w (RangeD F P ad w c s G l ps):=by
 have m0:Ext w (w.alloc (.cells #[.pointer (some ⟨c,0,none⟩),.pointer (some ⟨s,0,none⟩),.int .u64 (g:Int)] 31)):=(Mods.refl _ w).alloc _;have HB0:=oh (Blk.new w #[.pointer (some ⟨c,0,none⟩),.pointer (some ⟨s,0,none⟩),.int .u64 (g:Int)] 31);have HM0:=oh m0;have HRD:=λW=>bready_ok (c:=c) (s:=s) (w:=W) ⟨#[98,117,108,107,46,68,117,109,112]⟩ g
 have HRG:=λW (m:Ext w W)=>rangeT_any (hL.mods m.ext) hP (h.at m) g hT hs hb hlen
 unfold pgV at HRD HRG ⊢;have HRD:=oh HRD;have HRG:=oh HRG;have HNX:=oh (λW (m:Ext w W)=>Nxt.ext hL hP m);clear hL hP h m0
 go_enter Tryz.func18, Tryz.ntmps18
 go_wp2_with fail;refine (HRD.out _).mono ?_;rintro e w1 ⟨rfl,hm1⟩;have HM1:=oh (HM0.out.trans hm1);have hB1:=HB0.out.ext hm1;have b0:=hB1.cell (o:=0) (v:=.pointer (some ⟨c,0,none⟩)) rfl;have b1:=hB1.cell (o:=1) (v:=.pointer (some ⟨s,0,none⟩)) rfl;have b2:=hB1.cell (o:=2) (v:=.int .u64 (g:Int)) rfl;clear hm1 hB1;go_wp2_with fail;refine (HRG.out _ HM1.out).mono ?_;rintro e w2 ⟨P2,F2,hG2,hN2,v,rfl,hv⟩;have HFIN:Hid (PgR F2 w2 P2 c s G l∧Nxt P P2 F F2 ad w w2∧Sl F2 w2 2 encP v ps):=oh ⟨hG2,(HNX.out _ HM1.out).trans hN2,hv⟩;clear hG2 hN2 hv;go_wp2_with fail;refine (wrap_nil _ _).mono ?_;rintro e w3 ⟨rfl,rfl⟩;go_wp2_with fail;refine bodyPost_ret (v:=.tuple #[v,.nilIface]) (by simp[results,Tryz.results18,go_sem]) rfl ?_;exact⟨P2,F2,HFIN.out.1,HFIN.out.2.1,v,rfl,HFIN.out.2.2⟩
end
def awP:List PairS:=[(⟨#[97]⟩,⟨#[120]⟩),(⟨#[98]⟩,⟨#[]⟩)]
theorem awP_ok:SortedP awP∧PairsOk awP:=by
 constructor
 ·exact List.pairwise_cons.2 ⟨by decide +kernel,List.pairwise_cons.2 ⟨by simp,List.Pairwise.nil⟩⟩
 ·intro x hx;simp only[awP,List.mem_cons,List.not_mem_nil,or_false] at hx;rcases hx with rfl|rfl <;> decide +kernel
theorem awake15_any{ad:Nat→Addr}{w:World}(hL:Env NoB ad w) : Calls Tryz.prog 9 #[] w λe w'=>e=.returned (.bool true)∧Ext w w':=by
 have HL:=oh hL;obtain⟨G',l',root,d,pgs,hld,hlaid⟩:=laid15 awP_ok.1 awP_ok.2 (by decide) (by intro x hx;simp only[awP,List.mem_cons,List.not_mem_nil,or_false] at hx;rcases hx with rfl|rfl <;> decide);have HLD:=oh hld;have HLA:=oh hlaid;clear hL hld hlaid
 go_enter Tryz.func9, Tryz.ntmps9
 go_wp2_with fail;refine (pager15_any HL.out).mono ?_;rintro e w1 ⟨c,s,P,F,rfl,hG,hN⟩;have hS:=LG.startZ (gen:=5) hG hN 5 rfl;obtain⟨wb,hwb⟩:∃wb,wb=w1.alloc (.cells #[.pointer (some ⟨c,0,none⟩),.pointer (some ⟨s,0,none⟩),.int .u64 5] 31):=⟨_,rfl⟩;rw[← hwb] at hS;obtain⟨wl,hwl⟩:∃wl,wl=wb.alloc (.cells #[.string ⟨#[97]⟩,.string ⟨#[120]⟩,.string ⟨#[98]⟩,.string ⟨#[]⟩] 25):=⟨_,rfl⟩;have hbl:Ext wb wl:=by rw[hwl];exact (Mods.refl _ _).alloc _
 have hSl:=hS.ext hbl;have hlt:Blk wl wb.heap.size #[.string ⟨#[97]⟩,.string ⟨#[120]⟩,.string ⟨#[98]⟩,.string ⟨#[]⟩] 25:=by rw[hwl];exact Blk.new wb _ _
 have hrow:Sl F wl 2 encP (.slice (some ⟨wb.heap.size,0,none⟩) 2 2) awP:=Sl.duo (x:=((⟨#[97]⟩,⟨#[120]⟩):PairS)) (y:=((⟨#[98]⟩,⟨#[]⟩):PairS)) hlt rfl (λf=>by have:=hS.env.lt _ f;omega);have HLO:=Load15_any hSl.env hSl.sub hSl.pg 5 (by omega) new250.1 awP _ hrow awP_ok.1 awP_ok.2 (by decide) (by show 0≤800000;omega) root HLD.out;rw[pgV5] at HLO ⊢;have HLO:=oh HLO;have hsz:wb.heap.size=w1.heap.size+1:=by rw[hwb];simp
 have t0:=hS.c0;have t1:=hS.c1;have t2:_=some (Value.int .u64 5):=hS.c2;have t0:=cell_alloc t0 (.cells #[.string ⟨#[97]⟩,.string ⟨#[120]⟩,.string ⟨#[98]⟩,.string ⟨#[]⟩] 25);rw[hwb] at t0 t1 t2;have HWB:=oh hwb;have HWL:=oh hwl;have HSZ:=oh hsz;have HSL:=oh hSl;clear hG hN hS hbl hSl hlt hrow hwb hwl hsz t0;have t0:(w1.alloc (.cells #[.pointer (some ⟨c,0,none⟩),.pointer (some ⟨s,0,none⟩),.int .u64 5] 31)).cell? ⟨w1.heap.size,0,none⟩=some (.pointer (some ⟨c,0,none⟩)):=(Blk.new w1 _ _).cell (o:=0) rfl;go_wp2_with fail;rw[← HWB.out,← HSZ.out,← HWL.out];refine HLO.out.mono ?_;rintro e w2 ⟨P2,F2,hG2,hN2,rfl⟩;have hS2:=HSL.out.step hN2 hG2;have t0:=hS2.c0;have t1:=hS2.c1;have t2:_=some (Value.int .u64 5):=hS2.c2;have HDU:=dumpT_any hS2.env hS2.sub hS2.pg 5 HLA.out.td (by rw[HLA.out.size];omega) (by rw[HLA.out.blk];omega) (by decide);rw[pgV5] at HDU;have HDU:=oh HDU;have HS2:=oh hS2;clear hG2 hN2 hS2;go_wp2_with fail;refine HDU.out.mono ?_;rintro e w3 hd;obtain⟨P3,F3,hS3,v,rfl,hv⟩:=HS2.out.done hd;have HX:=oh hS3.ext0;obtain⟨va,vc,rfl,h1,h2,h3, -⟩:=id hv;obtain⟨qb,qoff,hqa,hqF,hcc⟩:=hv.elemF (k:=0) (by decide);have d1:=hcc 1 (.string ⟨#[120]⟩) rfl;simp only[Nat.zero_mul,Nat.add_zero] at d1;subst hqa;have hal:awP.length=2:=rfl;rw[hal];clear hd hS3 hv hcc hqF t0 t1 t2 h1 h3 hal;go_wp2_with fail;go_ret;exact⟨rfl,HX.out⟩
section
variable {F P P' F' P1 F1 P0 F0 Q Q':Nat→Prop}{ad:Nat→Addr}{w w' w0 w1:World}{c s gen ra rb da db:Nat}{G:GA}{l:List Nat}{A B:List PairS}
def DfS(F0 P0:Nat→Prop)(ad:Nat→Addr)(w0:World)(K:TwC)(bx by_:Nat)(i j:Nat)(v:Value)(o:List ChV)(wr:World):Prop :=
 ∃F P sx sy stx sty vx vy,TwI F P ad wr K bx by_ i j vx vy sx sy stx sty∧Nxt P0 (twQ K P sx sy) F0 F ad w0 wr∧LocR w0 F (twQ K P sx sy) wr 67 5 encCh v o∧vx=valO K.A i vx∧vy=valO K.B j vy
theorem DfS.start{K:TwC}{bx by_:Nat}{sx sy:Value}{stx sty:List FrE}{w2:World}{F2 P2:Nat→Prop}(n0:Nxt P (SdQ P1 K.qx K.kx sx) F F1 ad w w1)(hx:SdI F1 P1 ad w1 bx K.c K.s K.gen K.qx K.kx K.rx K.G K.l K.A K.dx 0 (valO K.A 0 emS) sx stx)
  (n2:Nxt P1 (SdQ P2 K.qy K.ky sy) F1 F2 ad w1 w2) (hy:SdI F2 P2 ad w2 by_ K.c K.s K.gen K.qy K.ky K.ry K.G K.l K.B K.dy 0 (valO K.B 0 emS) sy sty):DfS F P ad w K bx by_ 0 0 (.slice none 0 0) [] w2:=by
 obtain⟨k1,k2⟩:=hx.other n2 (λk hk=>(hx.subB k hk).2) hx.cu.sub hy.cu.pg (λk hk=>.inl (.inl hk));have hv:∀L:List PairS,valO L 0 emS=valO L 0 (valO L 0 emS):=λL=>by unfold valO;cases L[0]? <;> rfl
 have n3:=n2.part (Q:=SdB K.qx K.kx sx) (λk hk=>(hx.subB k hk).1) hx.cu.env;have n4:Nxt P (λk=>P1 k∨SdB K.qx K.kx sx k) F F1 ad w w1:=n0.perm (λk=>Iff.rfl) (λk=>by
  constructor
  ·rintro ((h|h)|h)
   ·exact .inl h
   ·exact .inr (.inl h)
   ·exact .inr (.inr h)
  ·rintro (h|(h|h))
   ·exact .inl (.inl h)
   ·exact .inl (.inr h)
   ·exact .inr h)
 have n5:Nxt P (twQ K P2 sx sy) F F2 ad w w2:=(n4.trans n3).perm (λk=>Iff.rfl) (λk=>by
  constructor
  ·rintro (((h|h)|h)|(h|h))
   ·exact .inl (.inl (.inl h))
   ·exact .inr (.inl h)
   ·exact .inr (.inr h)
   ·exact .inl (.inl (.inr h))
   ·exact .inl (.inr h)
  ·rintro (((h|h)|h)|(h|h))
   ·exact .inl (.inl (.inl h))
   ·exact .inr (.inl h)
   ·exact .inr (.inr h)
   ·exact .inl (.inl (.inr h))
   ·exact .inl (.inr h))
 exact⟨F2,P2,sx,sy,stx,sty,_,_,⟨k1,hy,λq hq hx=>k2 q hx (hq.imp .inr id)⟩,n5,LocR.nil _ _ _ _ _ _ _,hv _,hv _⟩
theorem DfS.ext{K:TwC}{bx by_ i j:Nat}{v:Value}{o:List ChV}(h:DfS F0 P0 ad w0 K bx by_ i j v o w)(m:Ext w w'):DfS F0 P0 ad w0 K bx by_ i j v o w':=by
 obtain⟨F,P,sx,sy,stx,sty,vx,vy,h1,h2,h3,h4,h5⟩:=h;have h6:=h1.ext m;exact⟨F,P,sx,sy,stx,sty,vx,vy,h6.1,h2.trans h6.2,h3.ext m,h4,h5⟩
theorem DfS.ext0{K:TwC}{bx by_ i j:Nat}{v:Value}{o:List ChV}(h:DfS F0 P0 ad w0 K bx by_ i j v o w):w0.heap.size≤w.heap.size:=by
 obtain⟨F,P,sx,sy,stx,sty,vx,vy,h1,h2,h3,h4,h5⟩:=h;exact h2.stp.mods.size
theorem DfS.own{K:TwC}{bx by_ i j:Nat}{v:Value}{o:List ChV}(h:DfS F0 P0 ad w0 K bx by_ i j v o w):Own (λ_=>False) w w0.heap.size 67 5 encCh v o:=by
 obtain⟨F,P,sx,sy,stx,sty,vx,vy,h1,h2,h3,h4,h5⟩:=h;exact h3.1
theorem DfS.app{K:TwC}{bx by_ i j:Nat}{v v':Value}{o o':List ChV}(h:DfS F0 P0 ad w0 K bx by_ i j v o w)(ho:Own (λ_=>False) w' w0.heap.size 67 5 encCh v' o')(m:Mods (λk=>v.ownBlock=some k) w w'){k:Nat}(hat:v'.ownBlock=v.ownBlock∨v'.ownBlock=some k)(hK:w.heap.size≤k) :
  DfS F0 P0 ad w0 K bx by_ i j v' o' w':=by
 obtain⟨F,P,sx,sy,stx,sty,vx,vy,h1,h2,h3,h4,h5⟩:=h;obtain⟨j1,j2⟩:=LocR.app h2 h3 ho m hat hK;exact⟨plusV F v',P,sx,sy,stx,sty,vx,vy,h1.app h3 h2 ho m hat hK,j1,j2,h4,h5⟩
theorem DfS.done{K:TwC}{bx by_ i j:Nat}{v:Value}{o:List ChV}(hL:Env F0 ad w0)(h:DfS F0 P0 ad w0 K bx by_ i j v o w)(hl:o.length≤140737488355328) :
  ∃P',PgR (λk=>F0 k∨P' k) w P' K.c K.s K.G K.l∧Nxt P0 P' F0 (λk=>F0 k∨P' k) ad w0 w∧Sl (λk=>F0 k∨P' k) w 5 encCh v o:=by
 obtain⟨F,P,sx,sy,stx,sty,vx,vy,h1,h2,h3,h4,h5⟩:=h;have n:=(h2.shrink (P2:=P) (λk hk=>.inl (.inl (.inl hk))));refine⟨P,h1.x.cu.pg.anti (λk hk=>hk.elim (h2.grow k) (h1.x.cu.sub k)),n.least,?_⟩;exact Own.sl (F:=λk=>F0 k∨P k) ⟨h3.1.1,λg hg hf=>hf.elim (λhf=>by have h1:=(h3.1.lt g hg).1;have h2:=hL.lt g hf;omega) (λhp=>(h3.2 g hg).2 (.inl (.inl (.inl hp))))⟩ encCh_ok.len hl
theorem DfS.cells{K:TwC}{bx by_ i j:Nat}{v:Value}{o:List ChV}(h:DfS F0 P0 ad w0 K bx by_ i j v o w):w.cell? ⟨K.qx,0,none⟩=some (.pointer (some ⟨K.kx,0,none⟩))∧w.cell? ⟨K.qy,0,none⟩=some (.pointer (some ⟨K.ky,0,none⟩)):=by
 obtain⟨F,P,sx,sy,stx,sty,vx,vy,h1,h2,h3,h4,h5⟩:=h;exact⟨h1.x.c0,h1.y.c0⟩
theorem DfS.onX{K:TwC}{bx by_ i j:Nat}{v:Value}{o:List ChV}(h:DfS F0 P0 ad w0 K bx by_ i j v o w) : Calls Tryz.prog 42 #[.pointer (some ⟨K.kx,0,none⟩)] w λe w'=>e=.returned (.bool (decide (i<K.A.length)))∧w=w':=by
 obtain⟨F,P,sx,sy,stx,sty,vx,vy,h1,h2,h3,h4,h5⟩:=h;exact onS h1.x
theorem DfS.onY{K:TwC}{bx by_ i j:Nat}{v:Value}{o:List ChV}(h:DfS F0 P0 ad w0 K bx by_ i j v o w) : Calls Tryz.prog 42 #[.pointer (some ⟨K.ky,0,none⟩)] w λe w'=>e=.returned (.bool (decide (j<K.B.length)))∧w=w':=by
 obtain⟨F,P,sx,sy,stx,sty,vx,vy,h1,h2,h3,h4,h5⟩:=h;exact onS h1.y
theorem DfS.step{K:TwC}{bx by_ i j:Nat}{v:Value}{o:List ChV}(h:DfS F0 P0 ad w0 K bx by_ i j v o w)(ht:K.G.total)(hdx:K.dx≤16)(hdy:K.dy≤16)(hon:i<K.A.length∨j<K.B.length) :
  Calls Tryz.prog 43 #[.pointer (some ⟨K.qx,0,none⟩),.pointer (some ⟨K.qy,0,none⟩)] w λe w'=>∃(c:ChV) (b:Bool) (i' j':Nat),e=.returned (.tuple #[.agg #[.string c.key,.bool c.was,.bool c.is,.string c.old,.string c.new],.bool b,.nilIface])∧DfS F0 P0 ad w0 K bx by_ i' j' v o w'∧i≤i'∧j≤j'∧i+j<i'+j'∧i'≤max i K.A.length∧j'≤max j K.B.length∧diffP (K.A.drop i) (K.B.drop j)=(if b=true then [c] else [])++diffP (K.A.drop i') (K.B.drop j'):=by
 obtain⟨F,P,sx,sy,stx,sty,vx,vy,h1,h2,h3,h4,h5⟩:=h;have key:∀{c:ChV} {b:Bool} {i' j':Nat} {vx' vy':ByteArray},(vx'=valO K.A i' vx')→(vy'=valO K.B j' vy')→i≤i'→j≤j'→i+j<i'+j'→i'≤max i K.A.length→j'≤max j K.B.length→diffP (K.A.drop i) (K.B.drop j)=(if b=true then [c] else [])++diffP (K.A.drop i') (K.B.drop j') →
   ∀e w',StpR F P ad w K bx by_ i' j' vx' vy' sx sy c b e w'→∃(c:ChV) (b:Bool) (i' j':Nat),e=.returned (.tuple #[.agg #[.string c.key,.bool c.was,.bool c.is,.string c.old,.string c.new],.bool b,.nilIface])∧DfS F0 P0 ad w0 K bx by_ i' j' v o w'∧i≤i'∧j≤j'∧i+j<i'+j'∧i'≤max i K.A.length∧j'≤max j K.B.length∧diffP (K.A.drop i) (K.B.drop j)=(if b=true then [c] else [])++diffP (K.A.drop i') (K.B.drop j'):=by
  rintro c b i' j' vx' vy' q1 q2 q3 q4 q5 q6 q7 q8 e w' ⟨rfl,F2,P2,s2,t2,u2,v2,k1,k2⟩;exact⟨c,b,i',j',rfl,⟨F2,P2,s2,t2,u2,v2,vx',vy',k1,h2.trans k2,h3.nxt k2,q1,q2⟩,q3,q4,q5,q6,q7,q8⟩
 have hv:∀(L:List PairS) (n:Nat) (u:ByteArray),valO L n u=valO L n (valO L n u):=λL n u=>by unfold valO;cases L[n]? <;> rfl
 have hd:∀{L:List PairS} {n:Nat} {z:PairS},L[n]? = some z→L.drop n=z :: L.drop (n+1):=λ{L n z} h=>by
  have hk:=(List.getElem?_eq_some_iff.1 h).1;rw[List.drop_eq_getElem_cons hk];rw[List.getElem?_eq_getElem hk] at h;injection h with h;rw[h]
 cases hx:K.A[i]? with
 | none =>
  have hi:K.A.length≤i:=List.getElem?_eq_none_iff.1 hx;have hj:j<K.B.length:=by omega
  obtain⟨y,hy⟩:∃y,K.B[j]? = some y:=⟨_,List.getElem?_eq_getElem hj⟩;have hvy:vy=y.2:=by rw[h5];unfold valO;rw[hy]
  refine (step_ins h1 ht hdy hy hvy (.inl hx)).mono (key h4 (hv _ _ _) (by omega) (by omega) (by omega) (by omega) (by omega) ?_);rw[hd hy,List.drop_eq_nil_of_le hi,diff_step];rfl
 | some x =>
  have hi:=(List.getElem?_eq_some_iff.1 hx).1;have hvx:vx=x.2:=by rw[h4];unfold valO;rw[hx]
  cases hy:K.B[j]? with
  | none =>
   have hj:K.B.length≤j:=List.getElem?_eq_none_iff.1 hy;refine (step_del h1 ht hdx hx hvx (.inl hy)).mono (key (hv _ _ _) h5 (by omega) (by omega) (by omega) (by omega) (by omega) ?_);rw[hd hx,List.drop_eq_nil_of_le hj,diff_step];rfl
  | some y =>
   have hj:=(List.getElem?_eq_some_iff.1 hy).1;have hvy:vy=y.2:=by rw[h5];unfold valO;rw[hy]
   by_cases g1:ltS x.1 y.1=true
   ·refine (step_del h1 ht hdx hx hvx (.inr ⟨y,hy,g1⟩)).mono (key (hv _ _ _) h5 (by omega) (by omega) (by omega) (by omega) (by omega) ?_);rw[hd hx,hd hy,diff_step];simp only;rw[if_pos g1];rfl
   ·by_cases g2:ltS y.1 x.1=true
    ·refine (step_ins h1 ht hdy hy hvy (.inr ⟨x,hx,g2⟩)).mono (key h4 (hv _ _ _) (by omega) (by omega) (by omega) (by omega) (by omega) ?_);rw[hd hx,hd hy,diff_step];simp only;rw[if_neg g1,if_pos g2];rfl
    ·refine (step_chg h1 ht hdx hdy hx hy hvx hvy (by simpa using g1) (by simpa using g2)).mono (key (hv _ _ _) (hv _ _ _) (by omega) (by omega) (by omega) (by omega) (by omega) ?_);rw[hd hx,hd hy,diff_step];simp only;rw[if_neg g1,if_neg g2];by_cases g3:x.2=y.2
     ·rw[if_pos g3,if_neg (by simp[g3])]
     ·rw[if_neg g3,if_pos (by simp[g3])]
theorem diff15_any(hL:Env F ad w)(hP:∀k,P k→F k)(h:PgR F w P c s G l)(ht:G.total)(hA:TreeE G ra da A)(hB:TreeE G rb db B)(hda:da≤16)(hdb:db≤16)(hla:A.length≤100)(hlb:B.length≤100)(gen:Nat) :
  Calls Tryz.prog 13 #[pgV c s gen,.int .i64 (ra:Int),.int .i64 (rb:Int)] w (PgDone F P ad w c s G l (λF' w' e=>∃v,e=.returned (.tuple #[v,.nilIface])∧Sl F' w' 5 encCh v (diffP A B))):=by
 have m0:Ext w (w.alloc (.cells #[.pointer (some ⟨c,0,none⟩),.pointer (some ⟨s,0,none⟩),.int .u64 (gen:Int)] 31)):=(Mods.refl _ w).alloc _;have HN0:=oh (Nxt.ext hL hP m0);have HB0:=oh (Blk.new w #[.pointer (some ⟨c,0,none⟩),.pointer (some ⟨s,0,none⟩),.int .u64 (gen:Int)] 31);have HNP:Hid (¬ P w.heap.size):=oh (λhp=>by have:=hL.lt _ (hP _ hp);omega);have HOP:=oh (sopen_any HN0.out.env hP (h.at m0) ht hA gen);have HL0:=oh hL;have HG:=oh ht;have HTB:=oh hB;have HLA:=oh hla;have HLB:=oh hlb;have HDA:=oh hda;have HDB:=oh hdb;have c0:=HB0.out.cell (o:=0) (v:=.pointer (some ⟨c,0,none⟩)) rfl;have c1:=HB0.out.cell (o:=1) (v:=.pointer (some ⟨s,0,none⟩)) rfl;have c2:=HB0.out.cell (o:=2) (v:=.int .u64 (gen:Int)) rfl;clear hL hP h m0 ht hA hB hla hlb hda hdb;unfold pgV at HOP ⊢
 go_enter Tryz.func13, Tryz.ntmps13
 go_wp2_with fail;refine HOP.out.mono ?_;rintro e w1 ⟨qx,kx,bx,F1,P1,sx,stx,rfl,hX,hN1, -⟩;have hB1:=hN1.blk HB0.out HNP.out;have d0:=hB1.cell (o:=0) (v:=.pointer (some ⟨c,0,none⟩)) rfl;have d1:=hB1.cell (o:=1) (v:=.pointer (some ⟨s,0,none⟩)) rfl;have d2:=hB1.cell (o:=2) (v:=.int .u64 (gen:Int)) rfl;have HOP2:=oh (sopen_any hX.cu.env hX.cu.sub hX.cu.pg HG.out HTB.out gen);unfold pgV at HOP2;have HX:=oh hX;have HN1:=oh (HN0.out.trans hN1);clear hX hN1 hB1 c0 c1 c2;go_wp2_with fail;refine HOP2.out.mono ?_;rintro e w2 ⟨qy,ky,by_,F2,P2,sy,sty,rfl,hY,hN2, -⟩;obtain⟨K,hK⟩:∃K:TwC,K=⟨c,s,gen,qx,kx,ra,da,qy,ky,rb,db,G,l,A,B⟩:=⟨_,rfl⟩;have hS:DfS F P ad w K bx by_ 0 0 (.slice none 0 0) [] w2:=by
  subst hK;exact DfS.start HN1.out HX.out hN2 hY
 have HS:=oh hS;have HK:=oh hK;have hqx:K.qx=qx:=by rw[hK]
 have hqy:K.qy=qy:=by rw[hK]
 have hkA:K.A=A:=by rw[hK]
 have hkB:K.B=B:=by rw[hK]
 have HKA:=oh hkA;have HKB:=oh hkB;have HKX:Hid (K.kx=kx∧K.ky=ky):=oh ⟨by rw[hK],by rw[hK]⟩;have HQX:=oh (And.intro hqx hqy);have HGK:Hid (K.G.total∧K.dx≤16∧K.dy≤16):=oh (by rw[hK];exact⟨HG.out,HDA.out,HDB.out⟩);clear hS hK hY hN2 d0 d1 d2 hqx hqy hkA hkB;go_wp2_with fail;go_loopg [11] (A.length+B.length) (λm v11 wr=>∃(i j:Nat) (o:List ChV),i≤A.length∧j≤B.length∧(A.length-i)+(B.length-j)=m∧o.length≤i+j∧Hid (DfS F P ad w K bx by_ i j v11 o wr∧o++diffP (A.drop i) (B.drop j)=diffP A B))
 case atStart=>exact⟨0,0,[],by omega,by omega,by omega,by simp,oh ⟨HS.out,rfl⟩⟩
 case round =>
  obtain⟨i,j,o,hi,hj,hm,hol,HC⟩:=hrel;obtain⟨va,vc,rfl,vq1,vq2⟩:=HC.out.1.own.form;obtain⟨x0,y0⟩:=HC.out.1.cells;rw[HQX.out.1,HKX.out.1] at x0;rw[HQX.out.2,HKX.out.2] at y0;have hox:=HC.out.1.onX;have hoy:=HC.out.1.onY;rw[HKX.out.1,HKA.out] at hox;rw[HKX.out.2,HKB.out] at hoy;have HJ:Hid (i≤A.length∧j≤B.length∧o.length≤i+j∧(A.length-i)+(B.length-j)=gk):=oh ⟨hi,hj,hol,hm⟩;by_cases hon:i<A.length∨j<B.length
  ·have hst:=HC.out.1.step HGK.out.1 HGK.out.2.1 HGK.out.2.2 (by rw[HKA.out,HKB.out];exact hon);rw[HQX.out.1,HQX.out.2,HKA.out,HKB.out] at hst;have HST:=oh hst;have HOX:=oh hox;have HOY:=oh hoy;have hway:decide (i<A.length)=true∨(decide (i<A.length)=false∧decide (j<B.length)=true):=by
    by_cases h1:i<A.length
    ·exact .inl (decide_eq_true h1)
    ·exact .inr ⟨decide_eq_false h1,decide_eq_true (by omega)⟩
   clear hst hox hoy hon hi hj hm hol vq1 vq2;rcases hway with e1|⟨e1,e2⟩
   all_goals
    try rw[e1] at HOX
    try rw[e2] at HOY
    clear e1;go_wp2_with fail;refine HOX.out.mono ?_;rintro e w3 ⟨rfl,rfl⟩;go_wp2_with fail;try (refine HOY.out.mono ?_;rintro e w3 ⟨rfl,rfl⟩;go_wp2_with fail)
    refine HST.out.mono ?_;rintro e w3 ⟨ch,b,i',j',rfl,hS3,q1,q2,q3,q4,q5,q6⟩;have HS3:=oh (hS3.ext ((Mods.refl _ w3).alloc (.cells #[.string ch.key,.bool ch.was,.bool ch.is,.string ch.old,.string ch.new] 67)));have HQ:=oh (And.intro q1 (And.intro q2 (And.intro q3 (And.intro q4 q5))));have HEQ:Hid (o++(if b=true then [ch] else [])++diffP (A.drop i') (B.drop j')=diffP A B):=oh (by rw[← HC.out.2,q6,List.append_assoc]);clear hS3 q1 q2 q3 q4 q5 q6;cases b
    ·go_wp2_with fail;go_roundg ((A.length-i')+(B.length-j'))
     case measure=>have:=HJ.out;have:=HQ.out;omega
     case rel=>exact⟨i',j',o,by have:=HJ.out;have:=HQ.out;omega,by have:=HJ.out;have:=HQ.out;omega,rfl,by have:=HJ.out;have:=HQ.out;omega,oh ⟨HS3.out,by have:=HEQ.out;simpa using this⟩⟩
    ·have HS4:=oh (HS3.out.ext ((Mods.refl _ _).alloc (.cells #[.string ch.key,.bool ch.was,.bool ch.is,.string ch.old,.string ch.new] 67)));have HSO:Hid (Sl (λ_=>False) ((w3.alloc (.cells #[.string ch.key,.bool ch.was,.bool ch.is,.string ch.old,.string ch.new] 67)).alloc (.cells #[.string ch.key,.bool ch.was,.bool ch.is,.string ch.old,.string ch.new] 67)) 5 encCh (.slice (some ⟨w3.heap.size+1,0,none⟩) 1 1) [ch]):=oh (by
      have hz:w3.heap.size+1=(w3.alloc (.cells #[.string ch.key,.bool ch.was,.bool ch.is,.string ch.old,.string ch.new] 67)).heap.size:=by simp
      rw[hz];exact Sl.one (F:=λ_=>False) (x:=ch) (t := 67) (fz:=(0,0)) (heap_at rfl) (λf=>f))
     go_wp2_with (at_builtin;refine wpl_app2 Tryz.elCh encCh_ok rfl _ _ rfl w.heap.size (.slice va o.length vc) (.slice (some ⟨w3.heap.size+1,0,none⟩) 1 1) o [ch] rfl rfl HS4.out.own HSO.out (by have:=HJ.out;have:=HLA.out;have:=HLB.out;simp only[List.length_cons,List.length_nil];omega) HS4.out.ext0 (λf=>f) ?_;simp only[List.length_cons,List.length_nil,Nat.zero_add];intro a6 c6 w6 hO6 hm6 hat6;have HS6:=oh (HS4.out.app hO6 hm6 hat6 (Nat.le_refl _));clear hO6 hm6 hat6);go_roundg ((A.length-i')+(B.length-j'))
     case measure=>have:=HJ.out;have:=HQ.out;omega
     case rel=>exact⟨i',j',o++[ch],by have:=HJ.out;have:=HQ.out;omega,by have:=HJ.out;have:=HQ.out;omega,rfl,by have:=HJ.out;have:=HQ.out;rw[List.length_append];simp only[List.length_cons,List.length_nil];omega,oh ⟨by simpa using HS6.out,by have:=HEQ.out;simpa using this⟩⟩
  ·rw[decide_eq_false (by omega)] at hox hoy;have HOX:=oh hox;have HOY:=oh hoy;have HEQ:Hid (o=diffP A B):=oh (by have:=HC.out.2;rw[List.drop_eq_nil_of_le (by omega),List.drop_eq_nil_of_le (by omega),diff_step] at this;simpa using this);clear hox hoy hon hi hj hm hol vq1 vq2;go_wp2_with fail;refine HOX.out.mono ?_;rintro e w3 ⟨rfl,rfl⟩;go_wp2_with fail;refine HOY.out.mono ?_;rintro e w3 ⟨rfl,rfl⟩;go_wp2_with fail;refine bodyPost_ret (v:=.tuple #[.slice va o.length vc,.nilIface]) (by simp[results,Tryz.results13,go_sem]) rfl ?_;obtain⟨P9,g1,g2,g3⟩:=HC.out.1.done HL0.out (by have:=HJ.out;have:=HLA.out;have:=HLB.out;omega);rw[HK.out] at g1;exact⟨P9,_,g1,g2,_,rfl,by rw[← HEQ.out];exact g3⟩
theorem diffT_any{p1 p2:List Nat}(hL:Env F ad w)(hP:∀k,P k→F k)(h:PgR F w P c s G l)(g:Nat)(hA:TD G gen ra da A p1)(hB:TD G gen rb db B p2)(hs:256≤G.size)(hb:G.blocks≤256)(hla:A.length≤100)(hlb:B.length≤100) :
  Calls Tryz.prog 13 #[pgV c s g,.int .i64 (ra:Int),.int .i64 (rb:Int)] w (PgDone F P ad w c s G l (λF' w' e=>∃v,e=.returned (.tuple #[v,.nilIface])∧Sl F' w' 5 encCh v (diffP A B))):=by
 obtain⟨H,hl,ht,hH⟩:=h.tot;have h1:=(hA.up hl).treeE (by rw[hl.size];exact hs) (by rw[hl.blocks];exact hb);have h2:=(hB.up hl).treeE (by rw[hl.size];exact hs) (by rw[hl.blocks];exact hb);have d1:=(hA.few hb).2;have d2:=(hB.few hb).2;refine (diff15_any hL hP hH ht h1 h2 (by omega) (by omega) hla hlb g).mono ?_;rintro e w' ⟨P',F',q1,q2,q3⟩;exact⟨P',F',q1.le hl,q2,q3⟩
end
theorem docY{F Q:Nat→Prop}{w:World}(a b:List PairS)(av bv:Value)(ha:Sl F w 2 encP av a)(hb:Sl Q w 2 encP bv b)(hla:a.length≤100)(hlb:b.length≤100)(hsa:SortedP a)(hsb:SortedP b) :
  Calls Tryz.prog 15 #[av,bv] w λe w'=>∃kv,e=.returned kv∧Sl (λ_=>False) w' 5 encCh kv (diffP a b)∧Ext w w':=by
 refine (doc15_any a b av bv ha hb hla hlb).mono ?_;rintro e w' ⟨kv,rfl,hO,hm⟩;rw[docDiff_eq hsa hsb] at hO;exact⟨kv,rfl,hO.sl encCh_ok.len (by have:=diff_len a b;omega),hm⟩
theorem BulkDiffs_any{ad:Nat→Addr}{w:World}(hL:Env NoB ad w)(ma mb:List PairS)(mva mvb:Value)(hma:Sl NoB w 2 encP mva ma)(hmb:Sl NoB w 2 encP mvb mb) :
  Calls Tryz.prog 4 #[mva,mvb] w λe w'=>e=.returned (.bool true)∧Ext w w':=by
 have HL:=oh hL;have HTA:=oh (tame15_any ma mva hma);obtain⟨pa,hpa⟩:∃pa,pa=tameP 200 ma:=⟨_,rfl⟩;obtain⟨pb,hpb⟩:∃pb,pb=tameP 200 mb:=⟨_,rfl⟩;have hTA:=tameP_ok 200 ma;have hTB:=tameP_ok 200 mb;have HTB:=oh (λW (m:Ext w W)=>tame15_any (w:=W) mb mvb (hmb.ext m));rw[← hpa] at HTA hTA;rw[← hpb] at HTB hTB;have HA:=oh hTA;have HB:=oh hTB;obtain⟨G1,l1,r1,G2,l2,r2,d1,d2,p1,p2,hld⟩:=twoLaid hTA.sorted hTB.sorted hTA.ok hTB.ok (by have:=hTA.len;omega) (by have:=hTB.len;omega) (λx hx=>by have:=hTA.small x hx;omega) (λx hx=>by have:=hTB.small x hx;omega);have HLD:=oh hld;have HLN:Hid (pa.length≤24∧pb.length≤24):=oh ⟨hTA.len,hTB.len⟩;clear hL hpa hpb hld hTA hTB hma hmb
 go_enter Tryz.func4, Tryz.ntmps4
 go_wp2_with fail;refine HTA.out.mono ?_;rintro e w1 ⟨va,rfl,hOa,hm1⟩;have HSA:Hid (Sl NoB w1 2 encP va pa):=oh (hOa.sl encP_ok.len (by have:=HLN.out;omega));have HX1:=oh hm1;clear hOa hm1;go_wp2_with fail;refine (HTB.out _ HX1.out).mono ?_;rintro e w2 ⟨vb,rfl,hOb,hm2⟩;have HSB:Hid (Sl NoB w2 2 encP vb pb):=oh (hOb.sl encP_ok.len (by have:=HLN.out;omega));have HSA2:=oh (HSA.out.ext hm2);have HX2:=oh (HX1.out.trans hm2);clear hOb hm2;have HLE:=oh (HL.out.mods HX2.out.ext);go_wp2_with fail;refine (pager15_any HLE.out).mono ?_;rintro e w3 ⟨c,s,P,F,rfl,hG,hN⟩;have hS:=LG.startZ (gen:=5) hG hN 5 rfl;have t0:=hS.c0;have t1:=hS.c1;have t2:_=some (Value.int .u64 5):=hS.c2;have HLO:=Load15_any hS.env hS.sub hS.pg 5 (by omega) new250.1 pa _ (hS.sl HSA2.out) HA.out.sorted HA.out.ok (by have:=HLN.out;omega) (by show 0≤800000;omega) r1 HLD.out.ld1;rw[pgV5] at HLO ⊢;have HLO:=oh HLO;have HS:=oh hS;clear hG hN hS;go_wp2_with fail;refine HLO.out.mono ?_;rintro e w4 ⟨P4,F4,hG4,hN4,rfl⟩;have hS4:=HS.out.step hN4 hG4;have t0:=hS4.c0;have t1:=hS4.c1;have t2:_=some (Value.int .u64 5):=hS4.c2;have HLO:=Load15_any hS4.env hS4.sub hS4.pg 5 (by omega) HLD.out.ctx pb _ (hS4.sl HSB.out) HB.out.sorted HB.out.ok (by have:=HLN.out;omega) HLD.out.cost r2 HLD.out.ld2;rw[pgV5] at HLO;have HLO:=oh HLO;have HS4:=oh hS4;clear hG4 hN4 hS4;go_wp2_with fail;refine HLO.out.mono ?_;rintro e w5 ⟨P5,F5,hG5,hN5,rfl⟩;have hS5:=HS4.out.step hN5 hG5;have t0:=hS5.c0;have t1:=hS5.c1;have t2:_=some (Value.int .u64 5):=hS5.c2;have HZ:Hid (256≤G2.size∧G2.blocks≤256):=oh ⟨by rw[HLD.out.size];exact Nat.le_refl _,by rw[HLD.out.blk];omega⟩;have HDF:=diffT_any hS5.env hS5.sub hS5.pg 5 HLD.out.td1 HLD.out.td2 HZ.out.1 HZ.out.2 (by have:=HLN.out;omega) (by have:=HLN.out;omega);rw[pgV5] at HDF;have HDF:=oh HDF;have HS5:=oh hS5;clear hG5 hN5 hS5;go_wp2_with fail;refine HDF.out.mono ?_;rintro e w6 ⟨P6,F6,hG6,hN6,v6,rfl,hv6⟩;have hS6:=HS5.out.step hN6 hG6;have t0:=hS6.c0;have t1:=hS6.c1;have t2:_=some (Value.int .u64 5):=hS6.c2;have HDF:=diffT_any hS6.env hS6.sub hS6.pg 5 HLD.out.td2 HLD.out.td1 HZ.out.1 HZ.out.2 (by have:=HLN.out;omega) (by have:=HLN.out;omega);rw[pgV5] at HDF;have HDF:=oh HDF;have HS6:=oh hS6;have HV6:=oh hv6;clear hG6 hN6 hS6 hv6;go_wp2_with fail;refine HDF.out.mono ?_;rintro e w7 ⟨P7,F7,hG7,hN7,v7,rfl,hv7⟩;have hS7:=HS6.out.step hN7 hG7;have t0:=hS7.c0;have t1:=hS7.c1;have t2:_=some (Value.int .u64 5):=hS7.c2;have HDF:=diffT_any hS7.env hS7.sub hS7.pg 5 HLD.out.td1 HLD.out.td1 HZ.out.1 HZ.out.2 (by have:=HLN.out;omega) (by have:=HLN.out;omega);rw[pgV5,diff_self] at HDF;have HDF:=oh HDF;have HS7:=oh hS7;have HV6:=oh (hN7.sl HS6.out.sub HV6.out);have HV7:=oh hv7;clear hG7 hN7 hS7 hv7;go_wp2_with fail;refine HDF.out.mono ?_;rintro e w8 ⟨P8,F8,hG8,hN8,v8,rfl,hv8⟩;have hS8:=HS7.out.step hN8 hG8;obtain⟨na,nc,rfl, -, -, -, -⟩:=hv8;have HS8:=oh hS8;have HV6:=oh (hN8.sl HS7.out.sub HV6.out);have HV7:=oh (hN8.sl HS7.out.sub HV7.out);have HSA8:=oh (hS8.sl HSA2.out);have HSB8:=oh (hS8.sl HSB.out);have HDL:Hid ((diffP pa pb).length≤100∧(diffP pb pa).length≤100):=oh ⟨by have:=diff_len pa pb;have:=HLN.out;omega,by have:=diff_len pb pa;have:=HLN.out;omega⟩;have HDY:=oh (λW (m:Ext w8 W)=>docY (w:=W) pa pb va vb (HSA8.out.ext m) (HSB8.out.ext m) (by have:=HLN.out;omega) (by have:=HLN.out;omega) HA.out.sorted HB.out.sorted);have HDZ:=oh (λW (m:Ext w8 W)=>docY (w:=W) pb pa vb va (HSB8.out.ext m) (HSA8.out.ext m) (by have:=HLN.out;omega) (by have:=HLN.out;omega) HB.out.sorted HA.out.sorted);have HTU:=oh (λW (m:Ext w8 W)=>turn15_any (w:=W) (diffP pa pb) v6 (HV6.out.ext m) (by have:=HDL.out;omega));have HXX:=oh (HX2.out.trans HS8.out.ext0);have HAW:=oh (λW (m:Ext w8 W)=>awake15_any (w:=W) ((HLE.out.mods HS8.out.ext0.ext).mods m.ext));clear hG8 hN8 hS8 t0 t1 t2;go_wp2_with fail;refine (HDY.out _ (Mods.refl _ _)).mono ?_;rintro e w9 ⟨k9,rfl,hk9,m9⟩;have HSM:=oh (same15_any (diffP pa pb) v6 k9 (HV6.out.ext m9) hk9 (by have:=HDL.out;omega));have HM9:=oh m9;clear hk9 m9;go_wp2_with fail;refine HSM.out.mono ?_;rintro e wa ⟨rfl,ma⟩;have HMA:=oh (HM9.out.trans ma);clear ma;go_wp2_with fail;refine (HDZ.out _ HMA.out).mono ?_;rintro e wb ⟨kb,rfl,hkb,mb⟩;have HMB:=oh (HMA.out.trans mb);have HSM:=oh (same15_any (diffP pb pa) v7 kb (HV7.out.ext HMB.out) hkb (by have:=HDL.out;omega));clear hkb mb;go_wp2_with fail;refine HSM.out.mono ?_;rintro e wc ⟨rfl,mc⟩;have HMC:=oh (HMB.out.trans mc);clear mc;go_wp2_with fail;refine (HTU.out _ HMC.out).mono ?_;rintro e wd ⟨kd,rfl,hOd,md⟩;rw[turn_diff] at hOd;have HMD:=oh (HMC.out.trans md);have HSD:=oh (hOd.sl encCh_ok.len (by have:=HDL.out;omega));clear hOd md;go_wp2_with fail;refine (HDZ.out _ HMD.out).mono ?_;rintro e we ⟨ke,rfl,hke,me⟩;have HME:=oh (HMD.out.trans me);have HSM:=oh (same15_any (diffP pb pa) kd ke (HSD.out.ext me) hke (by have:=HDL.out;omega));clear hke me;go_wp2_with fail;refine HSM.out.mono ?_;rintro e wf ⟨rfl,mf⟩;have HMF:=oh (HME.out.trans mf);clear mf;go_wp2_with fail;refine (HAW.out _ HMF.out).mono ?_;rintro e wg ⟨rfl,mg⟩;have HMG:=oh (HMF.out.trans mg);clear mg;go_wp2_with fail;go_ret;exact⟨rfl,HXX.out.trans HMG.out⟩
end Go.Proofs.YtchklfmggpconaaGreatDoor
