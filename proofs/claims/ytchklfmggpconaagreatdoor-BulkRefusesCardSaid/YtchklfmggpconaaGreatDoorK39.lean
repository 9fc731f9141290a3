import Derived.Test.YtchklfmggpconaaGreatDoorK38
import Derived.Maps.OwnOps
import Derived.Maps.Views
import Derived.BigQuiet
import Derived.Deep.RegionHeld3
import Derived.Test.YtchklfmggpconaaGreatDoorK19
namespace Go.Proofs.YtchklfmggpconaaGreatDoor
open Lib renaming hid→oh
set_option maxHeartbeats 4000000
set_option maxRecDepth 100000
section
open Go.RowKit
theorem pgV5(c s:Nat):pgV c s 5=.agg #[.pointer (some ⟨c,0,none⟩),.pointer (some ⟨s,0,none⟩),.int .u64 5]:=rfl
structure LG(ad:Nat→Addr)(w0 w:World)(B c s gen:Nat)(P F:Nat→Prop)(G:GA)(l:List Nat):Prop where
 pg:PgR F w P c s G l
 nx:Nxt NoB P NoB F ad w0 w
 box:Blk w B #[.pointer (some ⟨c,0,none⟩),.pointer (some ⟨s,0,none⟩),.int .u64 (gen:Int)] 31
 nB:¬ P B
 nF:¬ F B
section
variable {ad:Nat→Addr}{w0 w w':World}{B c s gen:Nat}{P P' F F':Nat→Prop}{G G':GA}{l l':List Nat}
theorem LG.env(h:LG ad w0 w B c s gen P F G l):Env F ad w:=h.nx.env
theorem LG.sub(h:LG ad w0 w B c s gen P F G l):∀k,P k→F k:=h.nx.sub
theorem LG.step(h:LG ad w0 w B c s gen P F G l)(n:Nxt P P' F F' ad w w')(g:PgR F' w' P' c s G' l'):LG ad w0 w' B c s gen P' F' G' l' :=
 ⟨g,h.nx.trans n,n.blk h.box h.nB,n.not h.box.lt h.nB,λf=>h.nF (n.oldF B h.box.lt f)⟩
theorem LG.ext(h:LG ad w0 w B c s gen P F G l)(m:Ext w w'):LG ad w0 w' B c s gen P F G l:=h.step (Nxt.ext h.env h.sub m) (h.pg.at m)
theorem LG.ext0(h:LG ad w0 w B c s gen P F G l):Ext w0 w:=h.nx.stp.mods
theorem LG.c0(h:LG ad w0 w B c s gen P F G l):w.cell? ⟨B,0,none⟩=some (.pointer (some ⟨c,0,none⟩)):=h.box.cell rfl
theorem LG.c1(h:LG ad w0 w B c s gen P F G l):w.cell? ⟨B,1,none⟩=some (.pointer (some ⟨s,0,none⟩)):=h.box.cell rfl
theorem LG.c2(h:LG ad w0 w B c s gen P F G l):w.cell? ⟨B,2,none⟩=some (.int .u64 (gen:Int)):=h.box.cell rfl
theorem LG.start(g:PgR F w P c s G l)(n:Nxt NoB P NoB F ad w0 w):LG ad w0 (w.alloc (.cells #[.pointer (some ⟨c,0,none⟩),.pointer (some ⟨s,0,none⟩),.int .u64 (gen:Int)] 31)) w.heap.size c s gen P F G l :=
 ⟨g.at ((Mods.refl _ w).alloc _),n.trans (Nxt.ext n.env n.sub ((Mods.refl _ w).alloc _)),Blk.new w _ _,λf=>by have:=g.bd _ f;omega,λf=>by have:=n.env.lt _ f;omega⟩
theorem LG.startZ(g:PgR F w P c s G l)(n:Nxt NoB P NoB F ad w0 w)(z:Int)(hz:z=(gen:Int)):LG ad w0 (w.alloc (.cells #[.pointer (some ⟨c,0,none⟩),.pointer (some ⟨s,0,none⟩),.int .u64 z] 31)) w.heap.size c s gen P F G l:=by
 subst hz;exact LG.start g n
theorem LG.old{b:Nat}{cs:Array Value}{t:TypeId}(h:LG ad w0 w B c s gen P F G l)(hb:Blk w0 b cs t):Blk w b cs t:=hb.ext h.ext0
theorem LG.sl{α:Type}{sz:Nat}{enc:α→List Value}{v:Value}{x:List α}(h:LG ad w0 w B c s gen P F G l)(hv:Sl NoB w0 sz enc v x):Sl F w sz enc v x :=
 hv.step h.ext0 (λk hk _ hf=>(h.nx.oldF k hk hf).elim)
def LgDone(ad:Nat→Addr)(w0:World)(B c s gen:Nat)(G:GA)(l:List Nat)(R:(Nat→Prop)→World→Ending→Prop)(e:Ending)(w':World):Prop :=
 ∃P' F',LG ad w0 w' B c s gen P' F' G l∧R F' w' e
theorem LG.done(h:LG ad w0 w B c s gen P F G l){R:(Nat→Prop)→World→Ending→Prop}{e:Ending}(hd:PgDone F P ad w c s G' l' R e w'):LgDone ad w0 B c s gen G' l' R e w':=by
 obtain⟨P',F',g,n,r⟩:=hd;exact⟨P',F',h.step n g,r⟩
end
section
variable {G G':GA}{gen:Nat}{T:TreeT}{lo:ByteArray}{hi:Option ByteArray}{l:List PairS}{q:List Nat}{kk:List ByteArray}{cc:List Int}
theorem Kids.parts(h:Kids T lo hi kk cc l q):∃(parts:List (List PairS × List Nat)),parts.length=cc.length∧l=(parts.map (·.1)).flatten∧q=(parts.map (·.2)).flatten ∧
  ∀(i:Nat) (k:Int) (p:List PairS × List Nat),cc[i]? = some k→parts[i]? = some p→∃c:Nat,k=(c:Int)∧T (loAt lo kk i) (hiAt hi kk i) c p.1 p.2:=by
 induction h with
 | @one lo hi c l q h =>
  refine⟨[(l,q)],rfl,by simp,by simp,λi k p hk hp=>?_⟩;match i,hk,hp with
  | 0,hk,hp =>
   simp at hk hp;subst hk hp;exact⟨c,rfl,h⟩
  | i+1,hk,_=>simp at hk
 | @cons lo hi s c keys kids l1 l2 q1 q2 h h2 h3 ih =>
  obtain⟨parts,e1,rfl,rfl,e4⟩:=ih;have hlen:=h3.len;refine⟨(l1,q1) :: parts,by simp[e1],by simp,by simp,λi k p hk hp=>?_⟩;match i,hk,hp with
  | 0,hk,hp =>
   simp at hk hp;subst hk hp;exact⟨c,rfl,h⟩
  | i+1,hk,hp =>
   simp only[List.getElem?_cons_succ] at hk hp;obtain⟨c',rfl,hT⟩:=e4 i k p hk hp;refine⟨c',rfl,?_⟩;have e5:loAt lo (s :: keys) (i+1)=loAt s keys i:=by
    unfold loAt;rw[if_neg (by omega),Nat.add_sub_cancel];by_cases h0:i=0
    ·subst h0;simp
    ·rw[if_neg h0];have hik:=(List.getElem?_eq_some_iff.1 hk).1;obtain⟨j,rfl⟩:∃j,i=j+1:=⟨i-1,by omega⟩;have:j<keys.length:=by omega
     simp[List.getD,this]
   have e6:hiAt hi (s :: keys) (i+1)=hiAt hi keys i:=by unfold hiAt;rw[List.getElem?_cons_succ]
   rw[e5,e6];exact hT
theorem EntC.tells{e:EntryA}{v:ByteArray}{ids:List Nat}(h:EntC G gen e v ids)(hs:256≤G.size)(hb:G.blocks≤256):tellsE G.R2 e=some v:=by
 unfold tellsE;rcases h with ⟨c1,c2,_⟩|⟨c1,c2⟩
 ·rw[if_pos c1,c2]
 ·rw[if_neg c1];obtain⟨_,w2,_,w4⟩:=c2.walk hs hb;unfold GA.R2;rw[if_pos w2,w4]
theorem Ents.tells{es:List EntryA}(h:Ents G gen es l q)(hs:256≤G.size)(hb:G.blocks≤256):∀(i:Nat) (e:EntryA) (x:PairS),es[i]? = some e→l[i]? = some x→e.key=x.1∧tellsE G.R2 e=some x.2:=by
 induction h with
 | nil=>intro i e x he;simp at he
 | @cons e x ids es l q h1 h2 _ ih =>
  intro i f y hf hy;match i,hf,hy with
  | 0,hf,hy =>
   simp at hf hy;subst hf hy;exact⟨h1,h2.tells hs hb⟩
  | i+1,hf,hy=>exact ih i f y (by simpa using hf) (by simpa using hy)
theorem TrD.tr(hs:256≤G.size)(hb:G.blocks≤256):∀(d:Nat) (lo:ByteArray) (hi:Option ByteArray) (id:Nat) (l:List PairS) (q:List Nat),TrD G gen d lo hi id l q→Tr G.node G.R2 lo hi id d l
 | 0,_,_,_,_,_,h=>h.elim
 | d+1,lo,hi,id,l,q,h=>by
  obtain⟨n,q,hp,hr,rfl,h⟩:=h;have hn:=(pg_load hp).2;rcases h with ⟨hl,rfl,hne,he,hbd⟩|⟨hl,hk⟩
  ·exact .leaf hn hl hr he.len (he.tells hs hb) hbd
  ·obtain⟨parts,e1,rfl,rfl,e4⟩:=hk.parts;refine .inner hn hl hr (by rw[List.length_map];exact e1) (λi k p hkk hp=>?_) hk.keysIn;rw[List.getElem?_map,Option.map_eq_some_iff] at hp;obtain⟨pp,hpp,rfl⟩:=hp;obtain⟨c,rfl,hT⟩:=e4 i k pp hkk hpp;rw[Int.toNat_natCast];exact TrD.tr hs hb d _ _ _ _ _ hT
theorem TD.treeG{root d:Nat}{ps:List PairS}{pgs:List Nat}(h:TD G gen root d ps pgs)(hs:256≤G.size)(hb:G.blocks≤256):TreeG G root d ps:=by
 rcases h.tree with ⟨rfl,rfl,rfl,rfl⟩|⟨hd,hT⟩
 ·exact .inl ⟨rfl,rfl,rfl⟩
 ·have h7:=(h.few hb).2;obtain⟨r,hr⟩:=TrD.head _ _ _ _ _ _ hT;have h2:=h.lt root (by rw[hr];simp);exact .inr ⟨h2.1,by omega,by omega,TrD.tr hs hb _ _ _ _ _ _ hT⟩
end
end
section
open Go.RowKit Go.Maps
attribute [local go_sem ↓] Go.wp_at_zero Go.wp_at_succ
end
section
open Go.RowKit Go.Maps
end
section
open Go.RowKit
structure TwoLaid(a b:List PairS)(G1:GA)(l1:List Nat)(r1:Nat)(G2:GA)(l2:List Nat)(r2 d1 d2:Nat)(p1 p2:List Nat):Prop where
 ld1:loadP 5 (G0 250) (spNew 250) a=.inl (G1,l1,r1)
 ctx:CtxG G1 l1
 cost:G1.cost≤800000
 ld2:loadP 5 G1 l1 b=.inl (G2,l2,r2)
 td1:TD G2 5 r1 d1 a p1
 td2:TD G2 5 r2 d2 b p2
 size:G2.size=256
 blk:G2.blocks=250
theorem twoLaid{a b:List PairS}(ha:SortedP a)(hb:SortedP b)(hpa:∀x∈a,PairOk x)(hpb:∀x∈b,PairOk x)(hla:a.length≤30)(hlb:b.length≤30)(hva:∀x∈a,x.2.size≤228)(hvb:∀x∈b,x.2.size≤228) :
  ∃G1 l1 r1 G2 l2 r2 d1 d2 p1 p2,TwoLaid a b G1 l1 r1 G2 l2 r2 d1 d2 p1 p2:=by
 obtain⟨hc,hl0,hphi⟩:=new250;have hz:(G0 250).size=256:=rfl;have hch:=chS_228 a hva;have hch2:=chS_228 b hvb;rcases load_tr (gen:=5) hc ha hpa (by omega) with ⟨_,a2⟩|⟨G1,l1,r1,d1,p1,a1,a2,a3,a4,a5,a6⟩
 ·rw[hphi,hz] at a2;omega
 ·have hs1:G1.size=256:=a2.sz;have hcnt:=(a3.count).1;rw[hs1] at hcnt;have hph:=Upd.phi (a:=[]) (b:=p1) (a2.iff (A':=λk=>k∈([]:List Nat)) (A1':=λk=>k∈p1) (λi=>by simp) (λi=>Iff.rfl)) (λi hi=>by simp at hi) List.nodup_nil a3.nodup;rw[hphi] at hph;simp only[List.length_nil] at hph;rcases load_tr (gen:=5) a5 hb hpb (by omega) with ⟨_,b2⟩|⟨G2,l2,r2,d2,p2,b1,b2,b3,b4,b5,b6⟩
  ·rw[hs1] at b2;exfalso;have:((p1.length:Nat):Int)≤90:=by omega
   omega
  ·have hcost:G1.cost≤800000:=by have:(G0 250).cost=0:=rfl;omega
   refine⟨G1,l1,r1,G2,l2,r2,d1,d2,p1,p2,a1,a5,hcost,b1,a3.mono (Nat.le_refl _) b2.bl b2.sz (λi hi=>?_),b3,b2.sz.trans hs1,b2.bl.trans a2.bl⟩;have hu:=a4 i hi;have hn0:l1[i]? ≠ some 0:=by rcases hu with h|h <;> rw[h] <;> simp
   have hni:i ∉ p2:=λhm=>by
    rcases b2.inn i hm with ⟨f,_⟩|⟨h1,_⟩
    ·exact f
    ·exact hn0 h1
   exact (b2.rest i (λf=>f) hni).2 hn0
end
section
open Go.RowKit
attribute [local go_sem ↓] Go.wp_at_zero Go.wp_at_succ
theorem docC_len(a b:List PairS)(k:ByteArray):(docC a b k).length≤1:=by
 unfold docC docO;split <;> simp
theorem flatD_take{α β:Type}(f:α→List β){l:List α}{k:Nat}(h:k<l.length):(l.take (k+1)).flatMap f=(l.take k).flatMap f++f l[k]:=by
 rw[take_one _ _ _ (List.getElem?_eq_getElem h),List.flatMap_append];simp
theorem flatD_few{α β:Type}(f:α→List β)(hf:∀x,(f x).length≤1):∀(l:List α),(l.flatMap f).length≤l.length
 | []=>by simp
 | x :: l=>by rw[List.flatMap_cons,List.length_append,List.length_cons];have:=hf x;have:=flatD_few f hf l;omega
theorem keysD_snoc(a:List PairS){b:List PairS}{k:Nat}(h:k<b.length):keysD a (b.take (k+1))=withP b[k].1 emS true (keysD a (b.take k)):=by
 unfold keysD;rw[take_one _ _ _ (List.getElem?_eq_getElem h),List.foldl_append];rfl
theorem keysD_len:∀(b a:List PairS),(keysD a b).length≤a.length+b.length
 | [],a=>by simp[keysD]
 | y :: b,a=>by
  have h1:=keysD_len b (withP y.1 emS true a);have h2:=withP_len y.1 emS true a;rw[show keysD a (y :: b)=keysD (withP y.1 emS true a) b from rfl,List.length_cons];omega
theorem doc15_any{F Q:Nat→Prop}{w:World}(a b:List PairS)(av bv:Value)(ha:Sl F w 2 encP av a)(hb:Sl Q w 2 encP bv b)(hla:a.length≤100)(hlb:b.length≤100) :
  Calls Tryz.prog 15 #[av,bv] w λe w'=>∃kv,e=.returned kv∧Own (λ_=>False) w' w.heap.size 95 5 encCh kv (docDiff a b)∧Ext w w':=by
 have HA:=oh ha;have HB:=oh hb;obtain⟨aa,ac,rfl,a1,a2,a3, -⟩:=ha;obtain⟨ba,bc,rfl,b1,b2,b3, -⟩:=hb;unfold maxLen at a2 b2;have HO0:Hid (Own (λ_=>False) (w.alloc (.cells #[] 25)) w.heap.size 25 2 encP (.slice (some ⟨w.heap.size,0,none⟩) 0 0) ([]:List PairS)):=oh (Own.empty (λk f=>f.elim) _ _ _ encP_ok.len);have HM0:Hid (Ext w (w.alloc (.cells #[] 25))):=oh ((Mods.refl _ w).alloc _)
 go_enter Tryz.func15, Tryz.ntmps15
 go_wp2_with (at_builtin;(refine wpl_app2 Tryz.elP encP_ok rfl _ _ rfl w.heap.size _ (.slice aa a.length ac) [] a rfl rfl HO0.out (HA.out.ext HM0.out) (by simp only[List.length_nil];omega) HM0.out.size (λf=>f) ?_;rw[List.nil_append,List.length_nil,Nat.zero_add];intro a' c' w4 hown4 hmod4 hat4;have HO4:=oh hown4;have HM4:Hid (Ext w w4):=oh (Mods.past HM0.out (hmod4.mono (λk hk=>(HO0.out.lt k hk).1)));clear hown4 hmod4 hat4));go_loopg [5,6] b.length (λm v5 v6 wr=>∃(k:Nat) (kv:Value),k+m=b.length∧kv=v5∧v6=.int .i64 (k:Int)∧Hid (Own (λ_=>False) wr w.heap.size 25 2 encP kv (keysD a (b.take k))∧Ext w wr))
 case atStart=>exact⟨0,_,by omega,rfl,rfl,oh ⟨HO4.out,HM4.out⟩⟩
 case round =>
  obtain⟨k,v5,hk,rfl,rfl,HR⟩:=hrel;by_cases hlt:k<b.length
  ·obtain⟨x,hx⟩:∃x,x=b[k]:=⟨_,rfl⟩;have HKL:Hid ((keysD a (b.take k)).length≤200):=oh (by have:=keysD_len (b.take k) a;rw[List.length_take] at this;omega);obtain⟨qb,qoff,hqa,hc⟩:=HB.out.elem hlt HR.out.2;have d0:=hc 0 (.string x.1) (by rw[hx];rfl);simp only[Nat.add_zero] at d0;have HX:Hid (keysD a (b.take (k+1))=withP x.1 ⟨#[]⟩ true (keysD a (b.take k))):=oh (by rw[keysD_snoc a hlt,hx];rfl);have HWT:=oh (with_any (keysD a (b.take k)) v5 (HR.out.1.sl encP_ok.len (by have:=HKL.out;omega)) (by have:=HKL.out;omega) x.1 ⟨#[]⟩ true);have i1:(0:Int)≤(k:Int):=by omega
   have i2:(k:Int)<(b.length:Int):=by omega
   have HLT:=oh hlt;subst hqa;clear hc hx hlt;go_wp2_with fail;refine HWT.out.mono ?_;rintro e w5 ⟨v,rfl,hO5,hm5⟩;have HO5:=oh (hO5.rebase (HR.out.2.size));have HM5:=oh (HR.out.2.trans hm5);clear hO5 hm5;go_wp2_with fail;go_roundg (gk-1)
   case measure=>have:=HLT.out;omega
   case rel=>exact⟨k+1,_,by have:=HLT.out;omega,rfl,by go_num,oh ⟨by rw[HX.out];exact HO5.out,HM5.out⟩⟩
  ·have hkq:k=b.length:=by omega
   obtain⟨K,hK⟩:∃K,K=keysD a b:=⟨_,rfl⟩;have HKK:=oh hK;have HKO:Hid (Own (λ_=>False) wr w.heap.size 25 2 encP v5 K):=oh (by have:=HR.out.1;rw[hkq,List.take_length,← hK] at this;exact this);have hKL:K.length≤200:=by have:=keysD_len b a;rw[hK];omega
   obtain⟨ka,kc,hkv,k1,k2⟩:=_root_.id HKO.out.form;unfold maxLen at k2;have HKS:=oh (HKO.out.sl encP_ok.len (by omega));have HMR:=oh HR.out.2;have HSZ:=oh HR.out.2.size;have HO1:Hid (Own (λ_=>False) (wr.alloc (.cells #[] 95)) wr.heap.size 95 5 encCh (.slice (some ⟨wr.heap.size,0,none⟩) 0 0) ([]:List ChV)):=oh (Own.empty (λk f=>f.elim) _ _ _ encCh_ok.len);have HM1:Hid (Ext wr (wr.alloc (.cells #[] 95))):=oh ((Mods.refl _ wr).alloc _);obtain⟨wo,rfl⟩:∃wo:World,wo=wr:=⟨_,rfl⟩;subst hkv;have HLB:=oh hlb;clear hkq hK hk HR hlb;go_wp2_with fail;go_loopg [7,8] K.length (λm v7 v8 wr=>∃(k:Nat) (kv:Value),k+m=K.length∧kv=v7∧v8=.int .i64 (k:Int)∧Hid (Own (λ_=>False) wr wo.heap.size 95 5 encCh kv ((K.take k).flatMap (λx=>docC a b x.1))∧Ext wo wr))
   case atStart=>exact⟨0,_,by omega,rfl,rfl,oh ⟨HO1.out,HM1.out⟩⟩
   case round =>
    obtain⟨k,v7,hk,rfl,rfl,HR⟩:=hrel;by_cases hlt:k<K.length
    ·obtain⟨x,hx⟩:∃x,x=K[k]:=⟨_,rfl⟩;obtain⟨D,hD⟩:∃D,D=(K.take k).flatMap (λx=>docC a b x.1):=⟨_,rfl⟩;have hDL:D.length≤k:=by have:=flatD_few (λx:PairS=>docC a b x.1) (λx=>docC_len a b x.1) (K.take k);rw[← hD,List.length_take] at this;omega
     obtain⟨qb,qoff,hqa,hc⟩:=HKS.out.elem hlt HR.out.2;have d0:=hc 0 (.string x.1) (by rw[hx];rfl);simp only[Nat.add_zero] at d0;have HX:Hid ((K.take (k+1)).flatMap (λx=>docC a b x.1)=D++docC a b x.1):=oh (by rw[flatD_take _ hlt,hD,hx]);have HRO:Hid (Own (λ_=>False) wr wo.heap.size 95 5 encCh v7 D):=oh (by rw[hD];exact HR.out.1);obtain⟨pa,pc,hpv, -, -⟩:=_root_.id HRO.out.form;have HFA:=oh (find11_any a _ (HA.out.ext (HMR.out.trans HR.out.2)) (by omega) x.1);have HFB:=oh (find11_any b _ (HB.out.ext (HMR.out.trans HR.out.2)) (by have:=HLB.out;omega) x.1);obtain⟨bo,hbo⟩:∃bo,bo=(findP x.1 a).isSome:=⟨_,rfl⟩;obtain⟨bn,hbn⟩:∃bn,bn=(findP x.1 b).isSome:=⟨_,rfl⟩;obtain⟨so,hso⟩:∃so,so=(findP x.1 a).getD e0:=⟨_,rfl⟩;obtain⟨sn,hsn⟩:∃sn,sn=(findP x.1 b).getD e0:=⟨_,rfl⟩;have HDO:Hid (docC a b x.1=if bo=bn∧so=sn then [] else [⟨x.1,bo,bn,so,sn⟩]):=oh (by rw[hbo,hbn,hso,hsn];rfl);unfold FoundP at HFA HFB;rw[← hbo,← hso] at HFA;rw[← hbn,← hsn] at HFB;have i1:(0:Int)≤(k:Int):=by omega
     have i2:(k:Int)<(K.length:Int):=by omega
     have HLT:=oh hlt;have HDL:=oh hDL;have HRX:=oh HR.out.2;have HSR:=oh HR.out.2.size;subst hqa hpv;clear hc hx hlt hD hDL hbo hbn hso hsn HR;by_cases hd:bo=bn∧so=sn
     ·obtain⟨rfl,rfl⟩:=hd;have HDE:Hid (docC a b x.1=[]):=oh (by rw[HDO.out,if_pos ⟨rfl,rfl⟩]);go_wp2_with fail;refine HFA.out.mono ?_;rintro e w5 ⟨rfl,rfl⟩;go_wp2_with fail;refine HFB.out.mono ?_;rintro e w5 ⟨rfl,rfl⟩;go_wp2_with fail;go_roundg (gk-1)
      case measure=>have:=HLT.out;omega
      case rel=>exact⟨k+1,_,by have:=HLT.out;omega,rfl,by go_num,oh ⟨by rw[HX.out,HDE.out,List.append_nil];exact HRO.out,HRX.out⟩⟩
     ·have HDE:Hid (docC a b x.1=[⟨x.1,bo,bn,so,sn⟩]):=oh (by rw[HDO.out,if_neg hd]);have hway:((bo == bn)=false)∨((bo == bn)=true∧(so.toList == sn.toList)=false):=by
       by_cases hb:bo=bn
       ·exact .inr ⟨beq_iff_eq.2 hb,beq_eq_false_iff_ne.2 (λe=>hd ⟨hb,toList_inj e⟩)⟩
       ·exact .inl (beq_eq_false_iff_ne.2 hb)
      have HOW:=oh (HRO.out.ext ((Mods.refl _ wr).alloc (.cells #[.string x.1,.bool bo,.bool bn,.string so,.string sn] 95)));have HAL:Hid (Ext wo (wr.alloc (.cells #[.string x.1,.bool bo,.bool bn,.string so,.string sn] 95))):=oh (HRX.out.alloc _);clear hd;rcases hway with e1|⟨e1,e2⟩
      all_goals
       go_wp2_with fail;refine HFA.out.mono ?_;rintro e w5 ⟨rfl,rfl⟩;go_wp2_with fail;refine HFB.out.mono ?_;rintro e w5 ⟨rfl,rfl⟩;go_wp2_with (at_builtin;(refine wpl_app2 Tryz.elDh encCh_ok rfl _ _ rfl wo.heap.size (.slice pa D.length pc) (.slice (some ⟨wr.heap.size,0,none⟩) 1 1) D [⟨x.1,bo,bn,so,sn⟩] rfl rfl HOW.out (Sl.one (F:=λ_=>False) (x:=(⟨x.1,bo,bn,so,sn⟩:ChV)) (t := 95) (fz:=(0,0)) (heap_at rfl) (λf=>f)) (by have:=HDL.out;have:=HLT.out;simp only[List.length_cons,List.length_nil];omega) (Nat.le_trans HSR.out (by simp)) (λf=>f) ?_;simp only[List.length_cons,List.length_nil,Nat.zero_add];intro a6 c6 w6 hO6 hm6 hat6;have HO6:=oh hO6;have HM6:=oh (HAL.out.trans' hm6 (λi hi hg=>by have:=(HRO.out.lt i hg).1;omega));clear hO6 hm6 hat6));go_roundg (gk-1)
       case measure=>have:=HLT.out;omega
       case rel=>exact⟨k+1,_,by have:=HLT.out;omega,rfl,by go_num,oh ⟨by rw[HX.out,HDE.out];exact HO6.out,HM6.out⟩⟩
    ·have hkq:k=K.length:=by omega
     have HF:Hid (Own (λ_=>False) wr w.heap.size 95 5 encCh v7 (docDiff a b)):=oh (by have:=HR.out.1;rw[hkq,List.take_length,HKK.out] at this;exact this.rebase HSZ.out);have HM:=oh (HMR.out.trans HR.out.2);clear hkq HR;go_wp2_with fail;go_ret;exact⟨_,rfl,HF.out,HM.out⟩
section
variable {F:Nat→Prop}{w w' wr w2:World}
theorem tame15_any(l:List PairS)(lv:Value)(hl:Sl NoF w 2 encP lv l) :
  Calls Tryz.prog 8 #[lv] w λe w'=>∃v,e=.returned v∧Own NoF w' w.heap.size 25 2 encP v (tameP 200 l)∧Ext w w':=by
 obtain⟨la,lc,rfl,h1,h2,h3,hll⟩:=hl;unfold maxLen at h2;obtain⟨q,hq⟩:∃q,q=min l.length 24:=⟨_,rfl⟩;have hmin:min (l.length:Int) 24=(q:Int):=by omega
 have i1:(0:Int)≤(q:Int):=by omega
 have i2:(q:Int)≤(lc:Int):=by omega
 have HSL:Hid (Sl NoF w 2 encP (.slice la q lc) (l.take 24)):=oh ⟨la,lc,by rw[List.length_take,hq,Nat.min_comm],by rw[List.length_take];omega,by unfold maxLen;omega,by rw[List.length_take];omega,by
  rcases hll with hll|⟨b,off,e,hb,hF,hc⟩
  ·left;rw[hll];rfl
  ·right
   refine⟨b,off,e,hb,hF,λi x hx j u hu=>hc i x ?_ j u hu⟩;rw[List.getElem?_take] at hx;split at hx
   ·exact hx
   ·cases hx⟩
 have HPR:=oh (λW (m:Ext w W)=>pairs_any (w:=W) (l.take 24) (.slice la q lc) (HSL.out.ext m) (by rw[List.length_take];omega));clear hq hll
 go_enter Tryz.func8, Tryz.ntmps8
 go_wp2_with fail;refine (HPR.out _ (by first|exact Mods.refl _ _|exact (Mods.refl _ _).alloc _|fail)).mono ?_;rintro e w1 ⟨v,rfl,hO,hm1⟩;obtain⟨p0,hp0⟩:∃p0,p0=pairsP (l.take 24):=⟨_,rfl⟩;rw[← hp0] at hO;have HP0:=oh hp0;obtain⟨va,vc,rfl,hv1,hv2⟩:=hO.form;unfold maxLen at hv2;have HP24:Hid (p0.length≤24):=oh (by have:=(pairsP_ok (l.take 24)).2.2;rw[← hp0,List.length_take] at this;omega);have hp24:=HP24.out;have HS1:Hid (Own NoF w1 w.heap.size 25 2 encP (.slice va p0.length vc) (cutK 200 0 p0)∧Ext w w1) :=
  oh ⟨by rw[cutK_zero];exact hO.rebase (by simp),by first|exact hm1|exact ((Mods.refl _ w).alloc _).trans hm1⟩
 clear hO hm1 hp0 hmin i1 i2;go_wp2_with fail;go_loopg [3] p0.length (λm v5 wr=>∃(k:Nat),k+m=p0.length∧v5=.int .i64 (k:Int)∧Hid (Own NoF wr w.heap.size 25 2 encP (.slice va p0.length vc) (cutK 200 k p0)∧Ext w wr))
 case atStart=>exact⟨0,by omega,rfl,HS1⟩
 case round =>
  obtain⟨k,hkm,rfl,HS⟩:=hrel;by_cases hlt:k<p0.length
  ·obtain⟨g,c',hgs, -, -,hg3,hg4,hgf⟩:=HS.out.1.some (by intro e;have:=congrArg List.length e;rw[cutK_len,List.length_nil] at this;omega);injection hgs with hgs hgn hgc;subst hgs hgc;clear hgn;obtain⟨x,hx⟩:∃x,p0[k]? = some x:=⟨_,List.getElem?_eq_getElem hlt⟩;have HX:=oh hx;obtain⟨xk,xv⟩:=x;have hsl:=HS.out.1.sl encP_ok.len (by rw[cutK_len];omega);have c1:=hsl.cellsAt (cutK_at (n:=200) hx) 1 _ rfl;simp only[Nat.zero_add] at c1;obtain⟨z,hz⟩:∃z,z=min xv.size 200:=⟨_,rfl⟩;have hmin:min (xv.size:Int) 200=(z:Int):=by omega
   have hz1:(0:Int)≤(z:Int):=by omega
   have hz2:(z:Int)≤(xv.size:Int):=by omega
   have hzf:=hgf (k * 2+1);have hzd:wr.drew.frozen? ⟨g,k * 2+1,none⟩=false:=hzf;have HZ:Hid (cutS 200 xv=xv.extract 0 z):=oh (by unfold cutS;rw[hz]);have HS4:Hid (Own NoF (wr.drew.setCell ⟨g,k * 2+1,none⟩ (.string (xv.extract 0 z))) w.heap.size 25 2 encP (.slice (some ⟨g,0,none⟩) p0.length vc) (cutK 200 (k+1) p0)∧Ext w (wr.drew.setCell ⟨g,k * 2+1,none⟩ (.string (xv.extract 0 z)))):=oh (by
    obtain⟨k1,k4⟩:=HS.out;refine⟨?_,k4.drew.setCell (.inl (by show w.heap.size≤g;have:=k1.lt g rfl;omega)) _⟩;rw[← cutK_set HX.out,HZ.out];exact (k1.ext (Mods.refl _ wr).drew).set encP_ok.len (cutK_at (n:=200) HX.out) (j:=1) (by omega) rfl)
   have i1:(0:Int)≤(k:Int):=by omega
   have i2:(k:Int)<(p0.length:Int):=by omega
   clear hsl hx hz hgf;go_wp2_with fail;go_region_law (fail)
   all_goals
    go_wp2_with fail;go_roundg (gk-1)
    case measure=>omega
    case rel=>exact⟨k+1,by omega,by go_num,HS4⟩
  ·have hk:k=p0.length:=by omega
   subst hk;have HCT:Hid (cutK 200 p0.length p0=tameP 200 l):=oh (by rw[cutK_all,HP0.out];rfl);go_wp2_with fail;go_ret;exact⟨_,rfl,by rw[← HCT.out];exact HS.out.1,HS.out.2⟩
end
end
end Go.Proofs.YtchklfmggpconaaGreatDoor
