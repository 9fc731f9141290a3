import Derived.Test.YtchklfmggpconaaGreatDoorK40
import Derived.Test.YtchklfmggpconaaGreatDoorK17
import Derived.Test.YtchklfmggpconaaGreatDoorK23
import Derived.Test.YtchklfmggpconaaGreatDoorK22
import Derived.Test.YtchklfmggpconaaGreatDoorK30
import Derived.Test.YtchklfmggpconaaGreatDoorK28
import Derived.Test.YtchklfmggpconaaGreatDoorK26
import Derived.Maps.OwnOps
import Derived.Maps.Views
import Derived.BigQuiet
import Derived.Deep.RegionHeld3
import Derived.Test.YtchklfmggpconaaGreatDoorK39
import Derived.Test.YtchklfmggpconaaGreatDoorK18
namespace Go.Proofs.YtchklfmggpconaaGreatDoor
set_option maxRecDepth 100000
section
open Go.RowKit
attribute [local go_sem ↓] Go.wp_at_zero Go.wp_at_succ
section
variable {F:Nat→Prop}{w w' wr w2:World}
set_option maxHeartbeats 2000000 in
theorem pairs_any(l:List PairS)(lv:Value)(hl:Sl F w 2 encP lv l)(hlen:l.length≤900) :
  Calls Tryz.prog 32 #[lv] w (PairsRes w (pairsP l)):=by
 obtain⟨la,lc,rfl,h1,h2,h3,hll⟩:=hl
 unfold maxLen at h2
 have HLL:=Lib.hid hll
 clear hll
 go_enter Tryz.func32, Tryz.ntmps32
 go_wp2_with fail
 have HO0:Hid (Own NoF (w.alloc (.cells #[] 25)) w.heap.size 25 2 encP (.slice (some ⟨w.heap.size,0,none⟩) 0 0) []):=Lib.hid
  (Own.made (l:=([]:List PairS)) (cur:=#[]) (cap:=0) (heap_at (by simp)) (by omega) (λf=>f) (Nat.le_refl _) (by simp[maxLen]) (by simp) (by simp) (λ_=>rfl))
 have HM0:Hid (Ext w (w.alloc (.cells #[] 25))):=Lib.hid ((Mods.refl _ w).alloc _)
 go_loopg [3,4] l.length (λm v3 v4 wr=>∃(k:Nat),k+m=l.length∧v4=.int .i64 (k:Int)∧Hid (Own NoF wr w.heap.size 25 2 encP v3 (pairsP (l.take k))∧Ext w wr))
 case atStart=>exact⟨0,by omega,rfl,Lib.hid ⟨HO0.out,HM0.out⟩⟩
 case round =>
  obtain⟨k,hkm,rfl,HS⟩:=hrel
  by_cases hlt:k<l.length
  ·obtain⟨b,off,rfl,hb,hF,hc⟩:=Sl.at HLL.out HS.out.2 (λ_ _ f=>f.elim) k hlt
   obtain⟨x,hx⟩:∃x,l[k]? = some x:=⟨_,List.getElem?_eq_getElem hlt⟩
   have hx':l[k]=x:=by rw[List.getElem?_eq_getElem hlt] at hx;exact Option.some.inj hx
   rw[hx'] at hc
   have c0:=hc 0 _ rfl
   simp only[Nat.add_zero] at c0
   have c1:=hc 1 _ rfl
   have HX:Hid (pairsP (l.take (k+1))=addP (pairsP (l.take k)) x):=Lib.hid (by rw[take_one l k x hx,pairsP_snoc])
   clear hc hx hx'
   have i1:(0:Int)≤(k:Int):=by omega
   have i2:(k:Int)<(l.length:Int):=by omega
   cases hkb:keyB x.1 with
   | false =>
    have HK:=Lib.hid (key07_t x.1 wr false hkb)
    have HA:Hid (pairsP (l.take (k+1))=pairsP (l.take k)):=Lib.hid (by rw[HX.out];unfold addP;rw[if_neg (by rw[hkb];simp)])
    clear hkb
    go_wp2_with fail
    refine (HK.out).mono ?_
    rintro e w1 ⟨rfl,rfl⟩
    go_wp2_with fail
    go_roundg (gk-1)
    case measure=>omega
    case rel=>exact⟨k+1,by omega,by go_num,Lib.hid (by rw[HA.out];exact HS.out)⟩
   | true =>
    have HK:=Lib.hid (key07_t x.1 wr true hkb)
    by_cases hv:x.2.size≤4096
    ·have hvI:(x.2.size:Int)≤4096:=by omega
     have HA:Hid (pairsP (l.take (k+1))=withP x.1 x.2 false (pairsP (l.take k))):=Lib.hid (by rw[HX.out];unfold addP;rw[if_pos ⟨hkb,hv⟩])
     have HPL:Hid ((pairsP (l.take k)).length≤900):=Lib.hid (by have:=(pairsP_ok (l.take k)).2.2;rw[List.length_take] at this;omega)
     have HWC:=Lib.hid (with_any (F:=NoF) (w:=wr.drew) (pairsP (l.take k)) _ ((HS.out.1.ext (Mods.refl _ wr).drew).sl encP_ok.len (by have:=HPL.out;omega)) (by have:=HPL.out;omega) x.1 x.2 false)
     clear hkb hv
     go_wp2_with fail
     refine (HK.out).mono ?_
     rintro e w1 ⟨rfl,rfl⟩
     go_wp2_with fail
     go_region_held3 (λw'=>w'.cell? ⟨b,off+k * 2,none⟩=some (.string x.1)∧w'.cell? ⟨b,off+k * 2+1,none⟩=some (.string x.2))
      (first|(with_reducible exact⟨c0,c1⟩)|(with_reducible exact⟨y0,y1⟩)|go_keep)
      (first
       | (go_at_call 45;(with_reducible refine (HWC.out).mono ?_);rintro e w4 ⟨v4,rfl,hO4,hm4⟩;have y0:=cellE (w:=wr.drew) hm4 c0;have y1:=cellE (w:=wr.drew) hm4 c1)
       | fail)
     have HS4:Hid (Own NoF w4 w.heap.size 25 2 encP v4 (pairsP (l.take (k+1)))∧Ext w w4):=Lib.hid ⟨by rw[HA.out];exact hO4.rebase HS.out.2.size,HS.out.2.drew.trans hm4⟩
     clear hO4 hm4 c0 c1 y0 y1
     go_wp2_with fail
     go_roundg (gk-1)
     case measure=>omega
     case rel=>exact⟨k+1,by omega,by go_num,HS4⟩
    ·have hvI:¬ (x.2.size:Int)≤4096:=by omega
     have HA:Hid (pairsP (l.take (k+1))=pairsP (l.take k)):=Lib.hid (by rw[HX.out];unfold addP;rw[if_neg (λh=>hv h.2)])
     clear hkb hv
     go_wp2_with fail
     refine (HK.out).mono ?_
     rintro e w1 ⟨rfl,rfl⟩
     go_wp2_with fail
     go_roundg (gk-1)
     case measure=>omega
     case rel=>exact⟨k+1,by omega,by go_num,Lib.hid (by rw[HA.out];exact HS.out)⟩
  ·have HT:Hid (l.take k=l):=Lib.hid (List.take_of_length_le (by omega))
   go_wp2_with fail
   go_ret
   exact⟨_,rfl,by have:=HS.out.1;rw[HT.out] at this;exact this,HS.out.2⟩
end
end
section
open Go.RowKit
section
variable {P P' F F':Nat→Prop}{ad:Nat→Addr}{w w':World}{c s:Nat}{G G':GA}{l l':List Nat}
end
theorem pgV5(c s:Nat):pgV c s 5=.agg #[.pointer (some ⟨c,0,none⟩),.pointer (some ⟨s,0,none⟩),.int .u64 5]:=rfl
structure LG(ad:Nat→Addr)(w0 w:World)(B c s gen:Nat)(P F:Nat→Prop)(G:GA)(l:List Nat):Prop where
 pg:PgR F w P c s G l
 nx:Nxt NoB P NoB F ad w0 w
 box:Blk w B #[.pointer (some ⟨c,0,none⟩),.pointer (some ⟨s,0,none⟩),.int .u64 (gen:Int)] 31
 nB:¬ P B
 nF:¬ F B
section
variable {ad:Nat→Addr}{w0 w w':World}{B c s gen:Nat}{P P' F F':Nat→Prop}{G G':GA}{l l':List Nat}
theorem LG.env(h:LG ad w0 w B c s gen P F G l):Env F ad w:=h.nx.env
theorem LG.sub(h:LG ad w0 w B c s gen P F G l):∀k,P k→F k:=h.nx.sub
theorem LG.step(h:LG ad w0 w B c s gen P F G l)(n:Nxt P P' F F' ad w w')(g:PgR F' w' P' c s G' l'):LG ad w0 w' B c s gen P' F' G' l' :=
 ⟨g,h.nx.trans n,n.blk h.box h.nB,n.not h.box.lt h.nB,λf=>h.nF (n.oldF B h.box.lt f)⟩
theorem LG.ext(h:LG ad w0 w B c s gen P F G l)(m:Ext w w'):LG ad w0 w' B c s gen P F G l:=h.step (Nxt.ext h.env h.sub m) (h.pg.at m)
theorem LG.ext0(h:LG ad w0 w B c s gen P F G l):Ext w0 w:=h.nx.stp.mods
theorem LG.c0(h:LG ad w0 w B c s gen P F G l):w.cell? ⟨B,0,none⟩=some (.pointer (some ⟨c,0,none⟩)):=h.box.cell rfl
theorem LG.c1(h:LG ad w0 w B c s gen P F G l):w.cell? ⟨B,1,none⟩=some (.pointer (some ⟨s,0,none⟩)):=h.box.cell rfl
theorem LG.c2(h:LG ad w0 w B c s gen P F G l):w.cell? ⟨B,2,none⟩=some (.int .u64 (gen:Int)):=h.box.cell rfl
theorem LG.start(g:PgR F w P c s G l)(n:Nxt NoB P NoB F ad w0 w):LG ad w0 (w.alloc (.cells #[.pointer (some ⟨c,0,none⟩),.pointer (some ⟨s,0,none⟩),.int .u64 (gen:Int)] 31)) w.heap.size c s gen P F G l :=
 ⟨g.at ((Mods.refl _ w).alloc _),n.trans (Nxt.ext n.env n.sub ((Mods.refl _ w).alloc _)),Blk.new w _ _,λf=>by have:=g.bd _ f;omega,λf=>by have:=n.env.lt _ f;omega⟩
theorem LG.startZ(g:PgR F w P c s G l)(n:Nxt NoB P NoB F ad w0 w)(z:Int)(hz:z=(gen:Int)):LG ad w0 (w.alloc (.cells #[.pointer (some ⟨c,0,none⟩),.pointer (some ⟨s,0,none⟩),.int .u64 z] 31)) w.heap.size c s gen P F G l:=by
 subst hz;exact LG.start g n
theorem LG.sl{α:Type}{sz:Nat}{enc:α→List Value}{v:Value}{x:List α}(h:LG ad w0 w B c s gen P F G l)(hv:Sl NoB w0 sz enc v x):Sl F w sz enc v x :=
 hv.step h.ext0 (λk hk _ hf=>(h.nx.oldF k hk hf).elim)
def LgDone(ad:Nat→Addr)(w0:World)(B c s gen:Nat)(G:GA)(l:List Nat)(R:(Nat→Prop)→World→Ending→Prop)(e:Ending)(w':World):Prop :=
 ∃P' F',LG ad w0 w' B c s gen P' F' G l∧R F' w' e
theorem LG.done(h:LG ad w0 w B c s gen P F G l){R:(Nat→Prop)→World→Ending→Prop}{e:Ending}(hd:PgDone F P ad w c s G' l' R e w'):LgDone ad w0 B c s gen G' l' R e w':=by
 obtain⟨P',F',g,n,r⟩:=hd
 exact⟨P',F',h.step n g,r⟩
end
section
variable {G G':GA}{gen:Nat}{T:TreeT}{lo:ByteArray}{hi:Option ByteArray}{l:List PairS}{q:List Nat}{kk:List ByteArray}{cc:List Int}
theorem Kids.parts(h:Kids T lo hi kk cc l q):∃(parts:List (List PairS × List Nat)),parts.length=cc.length∧l=(parts.map (·.1)).flatten∧q=(parts.map (·.2)).flatten ∧
  ∀(i:Nat) (k:Int) (p:List PairS × List Nat),cc[i]? = some k→parts[i]? = some p→∃c:Nat,k=(c:Int)∧T (loAt lo kk i) (hiAt hi kk i) c p.1 p.2:=by
 induction h with
 | @one lo hi c l q h =>
  refine⟨[(l,q)],rfl,by simp,by simp,λi k p hk hp=>?_⟩
  match i,hk,hp with
  | 0,hk,hp =>
   simp at hk hp
   subst hk hp
   exact⟨c,rfl,h⟩
  | i+1,hk,_=>simp at hk
 | @cons lo hi s c keys kids l1 l2 q1 q2 h h2 h3 ih =>
  obtain⟨parts,e1,rfl,rfl,e4⟩:=ih
  have hlen:=h3.len
  refine⟨(l1,q1) :: parts,by simp[e1],by simp,by simp,λi k p hk hp=>?_⟩
  match i,hk,hp with
  | 0,hk,hp =>
   simp at hk hp
   subst hk hp
   exact⟨c,rfl,h⟩
  | i+1,hk,hp =>
   simp only[List.getElem?_cons_succ] at hk hp
   obtain⟨c',rfl,hT⟩:=e4 i k p hk hp
   refine⟨c',rfl,?_⟩
   have e5:loAt lo (s :: keys) (i+1)=loAt s keys i:=by
    unfold loAt
    rw[if_neg (by omega),Nat.add_sub_cancel]
    by_cases h0:i=0
    ·subst h0;simp
    ·rw[if_neg h0]
     have hik:=(List.getElem?_eq_some_iff.1 hk).1
     obtain⟨j,rfl⟩:∃j,i=j+1:=⟨i-1,by omega⟩
     have:j<keys.length:=by omega
     simp[List.getD,this]
   have e6:hiAt hi (s :: keys) (i+1)=hiAt hi keys i:=by unfold hiAt;rw[List.getElem?_cons_succ]
   rw[e5,e6]
   exact hT
theorem EntC.tells{e:EntryA}{v:ByteArray}{ids:List Nat}(h:EntC G gen e v ids)(hs:256≤G.size)(hb:G.blocks≤256):tellsE G.R2 e=some v:=by
 unfold tellsE
 rcases h with ⟨c1,c2,_⟩|⟨c1,c2⟩
 ·rw[if_pos c1,c2]
 ·rw[if_neg c1]
  obtain⟨_,w2,_,w4⟩:=c2.walk hs hb
  unfold GA.R2
  rw[if_pos w2,w4]
theorem Ents.tells{es:List EntryA}(h:Ents G gen es l q)(hs:256≤G.size)(hb:G.blocks≤256):∀(i:Nat) (e:EntryA) (x:PairS),es[i]? = some e→l[i]? = some x→e.key=x.1∧tellsE G.R2 e=some x.2:=by
 induction h with
 | nil=>intro i e x he;simp at he
 | @cons e x ids es l q h1 h2 _ ih =>
  intro i f y hf hy
  match i,hf,hy with
  | 0,hf,hy =>
   simp at hf hy
   subst hf hy
   exact⟨h1,h2.tells hs hb⟩
  | i+1,hf,hy=>exact ih i f y (by simpa using hf) (by simpa using hy)
theorem TrD.tr(hs:256≤G.size)(hb:G.blocks≤256):∀(d:Nat) (lo:ByteArray) (hi:Option ByteArray) (id:Nat) (l:List PairS) (q:List Nat),TrD G gen d lo hi id l q→Tr G.node G.R2 lo hi id d l
 | 0,_,_,_,_,_,h=>h.elim
 | d+1,lo,hi,id,l,q,h=>by
  obtain⟨n,q,hp,hr,rfl,h⟩:=h
  have hn:=(pg_load hp).2
  rcases h with ⟨hl,rfl,hne,he,hbd⟩|⟨hl,hk⟩
  ·exact .leaf hn hl hr he.len (he.tells hs hb) hbd
  ·obtain⟨parts,e1,rfl,rfl,e4⟩:=hk.parts
   refine .inner hn hl hr (by rw[List.length_map];exact e1) (λi k p hkk hp=>?_) hk.keysIn
   rw[List.getElem?_map,Option.map_eq_some_iff] at hp
   obtain⟨pp,hpp,rfl⟩:=hp
   obtain⟨c,rfl,hT⟩:=e4 i k pp hkk hpp
   rw[Int.toNat_natCast]
   exact TrD.tr hs hb d _ _ _ _ _ hT
theorem TD.treeG{root d:Nat}{ps:List PairS}{pgs:List Nat}(h:TD G gen root d ps pgs)(hs:256≤G.size)(hb:G.blocks≤256):TreeG G root d ps:=by
 rcases h.tree with ⟨rfl,rfl,rfl,rfl⟩|⟨hd,hT⟩
 ·exact .inl ⟨rfl,rfl,rfl⟩
 ·have h7:=(h.few hb).2
  obtain⟨r,hr⟩:=TrD.head _ _ _ _ _ _ hT
  have h2:=h.lt root (by rw[hr];simp)
  exact .inr ⟨h2.1,by omega,by omega,TrD.tr hs hb _ _ _ _ _ _ hT⟩
end
end
section
open Go.RowKit Go.Maps
attribute [local go_sem ↓] Go.wp_at_zero Go.wp_at_succ
section
variable {F P P' F' P1 F1:Nat→Prop}{ad:Nat→Addr}{w w' w0:World}{c s gen kb mb:Nat}{G:GA}{l:List Nat}{pv kv pv' kv':Value}{st st':WkS}{ps:List Int}
end
section
variable {F P P' F' P1 F1:Nat→Prop}{ad:Nat→Addr}{w w' w0:World}{c s gen kb mb:Nat}{G:GA}{l:List Nat}{pv kv pv' kv':Value}{st st':WkS}{ps:List Int}
end
end
section
open Go.RowKit Go.Maps
section
variable {F P P' F' P1 F1:Nat→Prop}{ad:Nat→Addr}{w w' w0:World}{base c s gen kb mb:Nat}{G:GA}{l:List Nat}{pv kv pv' kv':Value}{st st':WkS}
end
end
section
open Go.RowKit
def entI(x:PairS):EntryA:=⟨x.1,x.2,0,0⟩
theorem addW_map{α:Type}(f:α→Int):∀(gs:List (List α)),addW (gs.flatten.map f)=(gs.map λg=>addW (g.map f)).foldr (· + ·) 0
 | []=>rfl
 | g :: gs=>by rw[List.flatten_cons,List.map_append,addW_append,addW_map f gs];rfl
structure HeavyOk(ns:List Nat)(ws:List Int):Prop where
 sum:ns.sum=ws.length
 heavy:2≤ns.length→∀(i:Nat) (n:Nat),ns[i]? = some n→232≤3 * (2+addW ((ws.drop (ns.take i).sum).take n))
theorem part_at{α:Type}:∀(gs:List (List α)) (i:Nat) (g:List α),gs[i]? = some g→(gs.flatten.drop ((gs.map List.length).take i).sum).take g.length=g
 | [],i,g,h=>by simp at h
 | g0 :: gs,0,g,h=>by simp at h;subst h;simp
 | g0 :: gs,i+1,g,h=>by
  have:=part_at gs i g (by simpa using h)
  rw[List.map_cons,List.take_succ_cons,List.sum_cons,List.flatten_cons,List.drop_append]
  rw[List.drop_eq_nil_of_le (by omega),List.nil_append,show g0.length+((gs.map List.length).take i).sum-g0.length=((gs.map List.length).take i).sum by omega]
  exact this
theorem sum_lens{α:Type}:∀(gs:List (List α)),(gs.map List.length).sum=gs.flatten.length
 | []=>rfl
 | g :: gs=>by rw[List.map_cons,List.sum_cons,sum_lens gs,List.flatten_cons,List.length_append]
theorem heavy15{ps:List PairS}(hs:SortedP ps)(hp:∀x∈ps,keyB x.1=true∧x.1.size≤20∧x.2.size≤12)(hlen:ps.length≤1000):HeavyOk (leavesW 232 (wtsP ps)) (wtsP ps):=by
 have hok:EntsOk (ps.map entI):=by
  refine⟨λe he=>?_,?_⟩
  ·obtain⟨x,hx,rfl⟩:=List.mem_map.1 he
   obtain⟨h1,_,h3⟩:=hp x hx
   unfold rightE entI
   simp only[Bool.and_eq_true,if_true,decide_eq_true_eq]
   exact⟨h1,trivial,by omega⟩
  ·rw[List.map_map]
   exact List.pairwise_map.2 hs
 have hw:(ps.map entI).map weightE=wtsP ps:=by
  rw[List.map_map]
  unfold wtsP
  refine List.map_congr_left (λx hx=>?_)
  obtain⟨_,_,h3⟩:=hp x hx
  show weightE (entI x)=wtP x
  unfold weightE entI wtP
  rw[if_pos rfl,if_neg (by omega)]
  simp only
  omega
 have hM:∀e∈ps.map entI,weightE e≤35:=λe he=>by
  obtain⟨x,hx,rfl⟩:=List.mem_map.1 he
  obtain⟨_,h2,h3⟩:=hp x hx
  unfold weightE entI
  rw[if_pos rfl]
  simp only
  omega
 have hl:=groups_lens (z:=232) (by omega) (by omega) hok
 rw[hw] at hl
 have hfl:=groups_flat mkL 232 (ps.map entI)
 have hh:=groups_heavy hok hM (by rw[List.length_map];omega)
 obtain⟨gs,hgs⟩:∃gs,gs=groupsG mkL 232 (ps.map entI):=⟨_,rfl⟩
 rw[← hgs] at hl hfl hh
 rw[← hl]
 refine⟨by rw[sum_lens,hfl,← hw,List.length_map,List.length_map,List.length_map],λh2 i n hn=>?_⟩
 rw[List.length_map] at h2
 rw[List.getElem?_map,Option.map_eq_some_iff] at hn
 obtain⟨g,hg,rfl⟩:=hn
 have:=hh h2 g (List.mem_of_getElem? hg)
 rw[mkL_wt,sumE_addW] at this
 have e:=part_at gs i g hg
 rw[hfl] at e
 rw[← hw,← List.map_drop,← List.map_take,e]
 exact this
end
section
open Go.RowKit
attribute [local go_sem ↓] Go.wp_at_zero Go.wp_at_succ
section
variable {P P' F F':Nat→Prop}{ad:Nat→Addr}{w w':World}{c s:Nat}{G:GA}{l:List Nat}
end
section
variable {F:Nat→Prop}{w w' wr w2:World}
set_option maxHeartbeats 2000000 in
theorem tame15_any(l:List PairS)(lv:Value)(hl:Sl NoF w 2 encP lv l) :
  Calls Tryz.prog 8 #[lv] w λe w'=>∃v,e=.returned v∧Own NoF w' w.heap.size 25 2 encP v (tameP 200 l)∧Ext w w':=by
 obtain⟨la,lc,rfl,h1,h2,h3,hll⟩:=hl
 unfold maxLen at h2
 obtain⟨q,hq⟩:∃q,q=min l.length 24:=⟨_,rfl⟩
 have hmin:min (l.length:Int) 24=(q:Int):=by omega
 have i1:(0:Int)≤(q:Int):=by omega
 have i2:(q:Int)≤(lc:Int):=by omega
 have HSL:Hid (Sl NoF w 2 encP (.slice la q lc) (l.take 24)):=Lib.hid ⟨la,lc,by rw[List.length_take,hq,Nat.min_comm],by rw[List.length_take];omega,by unfold maxLen;omega,by rw[List.length_take];omega,by
  rcases hll with hll|⟨b,off,e,hb,hF,hc⟩
  ·left;rw[hll];rfl
  ·right
   refine⟨b,off,e,hb,hF,λi x hx j u hu=>hc i x ?_ j u hu⟩
   rw[List.getElem?_take] at hx
   split at hx
   ·exact hx
   ·cases hx⟩
 have HPR:=Lib.hid (λW (m:Ext w W)=>pairs_any (w:=W) (l.take 24) (.slice la q lc) (HSL.out.ext m) (by rw[List.length_take];omega))
 clear hq hll
 go_enter Tryz.func8, Tryz.ntmps8
 go_wp2_with fail
 refine (HPR.out _ (by first|exact Mods.refl _ _|exact (Mods.refl _ _).alloc _|fail)).mono ?_
 rintro e w1 ⟨v,rfl,hO,hm1⟩
 obtain⟨p0,hp0⟩:∃p0,p0=pairsP (l.take 24):=⟨_,rfl⟩
 rw[← hp0] at hO
 have HP0:=Lib.hid hp0
 obtain⟨va,vc,rfl,hv1,hv2⟩:=hO.form
 unfold maxLen at hv2
 have HP24:Hid (p0.length≤24):=Lib.hid (by have:=(pairsP_ok (l.take 24)).2.2;rw[← hp0,List.length_take] at this;omega)
 have hp24:=HP24.out
 have HS1:Hid (Own NoF w1 w.heap.size 25 2 encP (.slice va p0.length vc) (cutK 200 0 p0)∧Ext w w1) :=
  Lib.hid ⟨by rw[cutK_zero];exact hO.rebase (by simp),by first|exact hm1|exact ((Mods.refl _ w).alloc _).trans hm1⟩
 clear hO hm1 hp0 hmin i1 i2
 go_wp2_with fail
 go_loopg [3] p0.length (λm v5 wr=>∃(k:Nat),k+m=p0.length∧v5=.int .i64 (k:Int)∧Hid (Own NoF wr w.heap.size 25 2 encP (.slice va p0.length vc) (cutK 200 k p0)∧Ext w wr))
 case atStart=>exact⟨0,by omega,rfl,HS1⟩
 case round =>
  obtain⟨k,hkm,rfl,HS⟩:=hrel
  by_cases hlt:k<p0.length
  ·obtain⟨g,c',hgs, -, -,hg3,hg4,hgf⟩:=HS.out.1.some (by intro e;have:=congrArg List.length e;rw[cutK_len,List.length_nil] at this;omega)
   injection hgs with hgs hgn hgc
   subst hgs hgc
   clear hgn
   obtain⟨x,hx⟩:∃x,p0[k]? = some x:=⟨_,List.getElem?_eq_getElem hlt⟩
   have HX:=Lib.hid hx
   obtain⟨xk,xv⟩:=x
   have hsl:=HS.out.1.sl encP_ok.len (by rw[cutK_len];omega)
   have c1:=hsl.cellsAt (cutK_at (n:=200) hx) 1 _ rfl
   simp only[Nat.zero_add] at c1
   obtain⟨z,hz⟩:∃z,z=min xv.size 200:=⟨_,rfl⟩
   have hmin:min (xv.size:Int) 200=(z:Int):=by omega
   have hz1:(0:Int)≤(z:Int):=by omega
   have hz2:(z:Int)≤(xv.size:Int):=by omega
   have hzf:=hgf (k * 2+1)
   have hzd:wr.drew.frozen? ⟨g,k * 2+1,none⟩=false:=hzf
   have HZ:Hid (cutS 200 xv=xv.extract 0 z):=Lib.hid (by unfold cutS;rw[hz])
   have HS4:Hid (Own NoF (wr.drew.setCell ⟨g,k * 2+1,none⟩ (.string (xv.extract 0 z))) w.heap.size 25 2 encP (.slice (some ⟨g,0,none⟩) p0.length vc) (cutK 200 (k+1) p0)∧Ext w (wr.drew.setCell ⟨g,k * 2+1,none⟩ (.string (xv.extract 0 z)))):=Lib.hid (by
    obtain⟨k1,k4⟩:=HS.out
    refine⟨?_,k4.drew.setCell (.inl (by show w.heap.size≤g;have:=k1.lt g rfl;omega)) _⟩
    rw[← cutK_set HX.out,HZ.out]
    exact (k1.ext (Mods.refl _ wr).drew).set encP_ok.len (cutK_at (n:=200) HX.out) (j:=1) (by omega) rfl)
   have i1:(0:Int)≤(k:Int):=by omega
   have i2:(k:Int)<(p0.length:Int):=by omega
   clear hsl hx hz hgf
   go_wp2_with fail
   go_region_law (fail)
   all_goals
    go_wp2_with fail
    go_roundg (gk-1)
    case measure=>omega
    case rel=>exact⟨k+1,by omega,by go_num,HS4⟩
  ·have hk:k=p0.length:=by omega
   subst hk
   have HCT:Hid (cutK 200 p0.length p0=tameP 200 l):=Lib.hid (by rw[cutK_all,HP0.out];rfl)
   go_wp2_with fail
   go_ret
   exact⟨_,rfl,by rw[← HCT.out];exact HS.out.1,HS.out.2⟩
end
end
end Go.Proofs.YtchklfmggpconaaGreatDoor
