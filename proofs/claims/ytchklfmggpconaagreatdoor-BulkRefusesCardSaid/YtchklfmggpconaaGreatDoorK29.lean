import Derived.Test.YtchklfmggpconaaGreatDoorK28
import Derived.Deep.RegionHeld3
import Derived.Test.YtchklfmggpconaaGreatDoorK01
import Derived.Test.YtchklfmggpconaaGreatDoorK24
namespace Go.Proofs.YtchklfmggpconaaGreatDoor
open Lib renaming hid→oh
set_option maxHeartbeats 4000000
set_option maxRecDepth 100000
section
open Go.RowKit
def addW:List Int→Int
 | []=>0
 | x :: l=>x+addW l
def runW(z:Int):Int→List Int→Nat
 | _,[]=>0
 | acc,x :: l=>if acc+x≤z then runW z (acc+x) l+1 else 0
def lensW(z:Int):Nat→List Int→List Nat
 | 0,_=>[]
 | _+1,[]=>[]
 | f+1,x :: l=>(runW z (2+x) l+1) :: lensW z f (l.drop (runW z (2+x) l))
def unlikeW(ws:List Int)(a:Nat):Nat:=((2+addW (ws.take a))-(2+addW (ws.drop a))).natAbs
def cutW(ws:List Int):Nat:=firstMin (unlikeW ws) 1 1 (ws.length-1)
def evenW(z:Int)(ws:List Int)(out:List Nat):List Nat:=match out.reverse with
 | b :: a :: r=>if z≤3 * (2+addW (ws.drop (ws.length-b))) then out else
   if 2+addW (ws.drop (ws.length-b-a))≤z then r.reverse++[(ws.drop (ws.length-b-a)).length] else r.reverse++[cutW (ws.drop (ws.length-b-a)),(ws.drop (ws.length-b-a)).length-cutW (ws.drop (ws.length-b-a))]
 | _=>out
def leavesW(z:Int)(ws:List Int):List Nat:=evenW z ws (lensW z ws.length ws)
theorem sumE_addW(es:List EntryA):sumE es=addW (es.map weightE):=by
 induction es with
 | nil=>rfl
 | cons e es ih=>simp only[sumE,List.map_cons,addW,ih]
theorem runW_le(z:Int):∀(l:List Int) (acc:Int),runW z acc l≤l.length
 | [],_=>Nat.le_refl _
 | x :: l,acc=>by
  rw[runW];split
  ·have:=runW_le z l (acc+x);simp only[List.length_cons];omega
  ·exact Nat.zero_le _
theorem lensW_fuel(z:Int):∀(f g:Nat) (ws:List Int),ws.length≤f→ws.length≤g→lensW z f ws=lensW z g ws
 | 0,g,ws,h,_=>by
  have:ws=[]:=List.length_eq_zero_iff.1 (by omega);subst this;cases g <;> rfl
 | f+1,0,ws,_,h=>by
  have:ws=[]:=List.length_eq_zero_iff.1 (by omega);subst this;rfl
 | f+1,g+1,[],_,_=>rfl
 | f+1,g+1,x :: l,h1,h2=>by
  simp only[List.length_cons] at h1 h2;rw[lensW,lensW,lensW_fuel z f g _ (by rw[List.length_drop];omega) (by rw[List.length_drop];omega)]
theorem fillG_lens(z:Int):∀(l:List EntryA) (pre:List (List EntryA)) (g:List EntryA),g≠[] →
  (fillG mkL z (pre++[g]) l).map List.length=pre.map List.length++(g.length+runW z (2+sumE g) (l.map weightE)) :: lensW z l.length ((l.map weightE).drop (runW z (2+sumE g) (l.map weightE)))
 | [],pre,g,_=>by simp[fillG,runW,lensW]
 | x :: l,pre,g,hg=>by
  rw[fillG];have h1:(pre++[g]).getLast? = some g:=by simp
  rw[h1];simp only;rw[mkL_wt];have h2:sumE (g++[x])=sumE g+weightE x:=by rw[sumE_append];simp[sumE]
  rw[h2,List.map_cons,runW];by_cases hw:2+(sumE g+weightE x)≤z
  ·rw[if_pos hw,if_pos (show 2+sumE g+weightE x≤z by omega),List.dropLast_concat,fillG_lens z l pre (g++[x]) (by simp),h2];have h3:(2:Int)+sumE g+weightE x=2+(sumE g+weightE x):=by omega
   rw[h3,List.drop_succ_cons,List.length_append,List.length_singleton];have hr:=runW_le z (l.map weightE) (2+(sumE g+weightE x));rw[lensW_fuel z (x :: l).length l.length _ (by rw[List.length_drop,List.length_map,List.length_cons];omega) (by rw[List.length_drop,List.length_map];omega)];congr 2
   omega
  ·rw[if_neg hw,if_neg (show ¬ 2+sumE g+weightE x≤z by omega),fillG_lens z l (pre++[g]) [x] (by simp)];simp[lensW,sumE,Nat.add_comm]
theorem fill_lens(z:Int)(es:List EntryA):(fillG mkL z [] es).map List.length=lensW z es.length (es.map weightE):=by
 cases es with
 | nil=>rfl
 | cons x l =>
  rw[fillG];have:=fillG_lens z l [] [x] (by simp);simp only[List.getLast?_nil,List.nil_append] at this ⊢;rw[this];simp[lensW,sumE,Nat.add_comm]
theorem firstMin_eq{d d':Nat→Nat}:∀(m b a:Nat),d b=d' b→(∀x,a≤x→x<a+m→d x=d' x)→firstMin d b a m=firstMin d' b a m
 | 0,_,_,_,_=>rfl
 | m+1,b,a,hb,h=>by
  rw[firstMin,firstMin,hb,h a (Nat.le_refl _) (by omega)];refine firstMin_eq m _ (a+1) ?_ (λx h1 h2=>h x (by omega) (by omega));split
  ·exact h a (Nat.le_refl _) (by omega)
  ·exact hb
theorem cutAt_leaf{es:List EntryA}(h:EntsOk es)(hl:es.length≤65535){k:Nat}(hk:cutAt (mkL es)=some k):k=cutW (es.map weightE):=by
 have hr:=mkL_right h hl;unfold cutAt at hk;split at hk
 ·injection hk with hk;rw[← hk];unfold cutW;rw[List.length_map];refine firstMin_eq _ _ _ ?_ ?_;all_goals
   have key:∀a,unlikeA (mkL es) a=unlikeW (es.map weightE) a:=λa=>by
    unfold unlikeA unlikeW weightA;have e1:(apartA (mkL es) a).1=mkL (es.take a):=rfl;have e2:(apartA (mkL es) a).2.2=mkL (es.drop a):=rfl;have r1:=weight_len (form_right (mkL_right (h.sub (List.take_sublist a es)) (by rw[List.length_take];omega)));have r2:=weight_len (form_right (mkL_right (h.sub (List.drop_sublist a es)) (by rw[List.length_drop];omega)));rw[e1,e2,← r1,← r2,mkL_wt,mkL_wt,sumE_addW,sumE_addW,List.map_take,List.map_drop]
  ·exact key 1
  ·exact λx _ _=>key x
 ·cases hk
theorem groups_lens{z:Int}(hz:232≤z)(hz2:z≤1000){es:List EntryA}(h:EntsOk es):(groupsG mkL z es).map List.length=leavesW z (es.map weightE):=by
 obtain⟨out,ho⟩:∃out,out=fillG mkL z [] es:=⟨_,rfl⟩;have hlen:=fill_lens z es;have hfl:out.flatten=es:=by rw[ho,fillG_flat];rfl
 have hne:=fillG_ne mkL z es [] (by simp);have hfit:=fillG_fit' mkL z (λe=>rightE e=true) (λx hx=>by
  have:=rightE_wt hx;rw[mkL_wt];simp only[sumE];omega) es [] h.1 (by simp)
 unfold groupsG leavesW;rw[List.length_map,← hlen,← ho];rw[← ho] at hne hfit;unfold evenW;rw[← List.map_reverse];rcases two_or out with rfl|⟨g,rfl⟩|⟨r,a,b,rfl⟩
 ·rfl
 ·rfl
 ·simp only[List.reverse_append,List.reverse_cons,List.reverse_nil,List.nil_append,List.cons_append,List.map_cons];have hfl':es=r.flatten++(a++b):=by rw[← hfl];simp
  have hd1:(es.map weightE).drop ((es.map weightE).length-b.length)=b.map weightE:=by
   rw[hfl',← List.append_assoc,List.map_append];rw[List.drop_left' (by simp only[List.length_append,List.length_map];omega)]
  have hd2:(es.map weightE).drop ((es.map weightE).length-b.length-a.length)=(a++b).map weightE:=by
   rw[hfl',List.map_append];rw[List.drop_left' (by simp only[List.length_append,List.length_map];omega)]
  rw[hd1,hd2,← sumE_addW,← sumE_addW];have hok2:EntsOk (a++b):=h.sub (by rw[hfl'];exact List.sublist_append_right _ _);have hb:=hne b (by simp);have hfa:=hfit a (by simp);have hlt:lightN (mkL b) (z+24)=decide (3 * (2+sumE b)<z):=by
   unfold lightN;rw[mkL_wt];have:¬ ((mkL b).entries.length:Int)=0:=λe=>hb (List.length_eq_zero_iff.1 (by show b.length=0;have:(mkL b).entries.length=b.length:=rfl;omega))
   rw[decide_eq_false this];simp only[mkL,Bool.and_false,Bool.not_true,Bool.false_and,Bool.false_or];congr 1
   exact propext ⟨λh=>by omega,λh=>by omega⟩
  by_cases hl:z≤3 * (2+sumE b)
  ·rw[if_pos hl,evenG_heavy mkL z r a b (by rw[hlt];exact decide_eq_false (by omega))]
  ·rw[if_neg hl];have hlb:lightN (mkL b) (z+24)=true:=by rw[hlt];exact decide_eq_true (by omega)
   rcases evenG_last mkL z r a b hlb with ⟨h1,h2⟩|⟨h1,h2⟩
   ·rw[mkL_wt] at h1;rw[if_pos h1,h2];simp
   ·obtain⟨k,p1,p2,p3,_,_⟩:=mkL_cut hz hz2 hok2 hfa hlb h1;rw[mkL_wt] at h1;rw[if_neg (by omega),h2 k p1];have hal:(a++b).length≤65535:=by
     have h3:=sumE_len (a++b);rw[sumE_append] at h3;rw[mkL_wt] at hfa;omega
    have hk:=cutAt_leaf hok2 hal p1;rw[← hk];simp only[List.map_append,List.map_cons,List.map_nil,List.length_take,List.length_drop,List.length_map,List.map_reverse,List.reverse_reverse,List.length_append];rw[List.length_append] at p3;rw[Nat.min_eq_left (by omega)]
def wtP(x:PairS):Int:=if 24<x.2.size then 10+(x.1.size:Int) else 3+(x.1.size:Int)+(x.2.size:Int)
def wtsP(l:List PairS):List Int:=l.map wtP
section
variable {G:GA}{gen:Nat}
theorem ents_wts{es:List EntryA}{ps:List PairS}{q:List Nat}(h:Ents G gen es ps q):(∀e∈es,rightE e=true)→es.map weightE=wtsP ps:=by
 induction h with
 | nil=>intro _;rfl
 | @cons e x ids es l q h1 h2 _ ih =>
  intro hr;have he:=hr e List.mem_cons_self;rw[List.map_cons,ih (λy hy=>hr y (List.mem_cons_of_mem _ hy))];show _=wtP x :: wtsP l;congr 1
  unfold rightE at he;simp only[Bool.and_eq_true] at he;unfold weightE wtP;rcases h2 with ⟨a,b,_⟩|⟨a,b⟩
  ·have he2:=he.2;rw[if_pos a] at he2 ⊢;simp only[Bool.and_eq_true,decide_eq_true_eq] at he2;rw[b] at he2 ⊢;rw[if_neg (by omega),h1];omega
  ·rw[if_neg a,if_pos (by have:=b.lo;omega),h1];omega
end
structure Laid15(n:Nat)(G:GA)(l:List Nat)(root d:Nat)(ps:List PairS)(pgs:List Nat):Prop where
 ctx:CtxG G l
 td:TD G 5 root d ps pgs
 use:UseL l (λk=>k∈pgs)
 blk:G.blocks=n
 size:G.size=256
 lay:∀i,i<n→l[i]? = some (if i<2 then 1 else if i∈pgs then 2 else 0)
 leafs:leafsG G d root=leavesW 232 (wtsP ps)
 cost:G.cost≤20 * ps.length
theorem new250:CtxG (G0 250) (spNew 250)∧(∀i,i<250→(spNew 250)[i]? = some (if i<2 then 1 else 0))∧phiL (spNew 250)=246:=by
 refine⟨⟨?_,?_,?_,by show 256≤256;omega,by show 256≤1024;omega⟩,by decide +kernel,by decide +kernel⟩
 ·unfold LowL;decide +kernel
 ·show (spNew 250).length=250;decide +kernel
 ·show 250≤256;omega
theorem ndV_228(v:ByteArray)(h:v.size≤228):ndV 256 v≤1:=by
 unfold ndV ndS;split
 ·omega
 ·have:(v.size-1) / (256-28)=0:=Nat.div_eq_of_lt (by omega);omega
theorem chS_228:∀(ps:List PairS),(∀x∈ps,x.2.size≤228)→chS 256 ps≤ps.length
 | [],_=>by simp[chS]
 | x :: ps,h=>by
  have h1:=ndV_228 x.2 (h x List.mem_cons_self);have h2:=chS_228 ps (λy hy=>h y (List.mem_cons_of_mem _ hy));rw[chS_cons];simp only[List.length_cons];omega
theorem laid15{ps:List PairS}(hs:SortedP ps)(hp:∀x∈ps,PairOk x)(hlen:ps.length≤30)(hv:∀x∈ps,x.2.size≤228):∃G' l' root d pgs,loadP 5 (G0 250) (spNew 250) ps=.inl (G',l',root)∧Laid15 250 G' l' root d ps pgs:=by
 obtain⟨hc,hl0,hphi⟩:=new250;have hch:=chS_228 ps hv;rcases load_tr (gen:=5) hc hs hp (by omega) with ⟨_,a2⟩|⟨G',l',root,d,pgs,a1,a2,a3,a4,a5,a6⟩
 ·rw[hphi] at a2;have:(G0 250).size=256:=rfl;rw[this] at a2;omega
 ·refine⟨G',l',root,d,pgs,a1,⟨a5,a3,a4,a2.bl,a2.sz,λi hi=>?_,?_,by have:(G0 250).cost=0:=rfl;omega⟩⟩
  ·by_cases hm:i∈pgs
   ·rcases a2.inn i hm with ⟨f,_⟩|⟨h1,h2⟩
    ·exact f.elim
    ·have h3:=hl0 i hi;rw[h1] at h3;have:¬ i<2:=λh=>by rw[if_pos h] at h3;simp at h3
     rw[h2,if_neg this,if_pos hm]
   ·have h1:=(a2.rest i (λf=>f) hm).1;rw[h1,hl0 i hi,if_neg hm]
  ·by_cases h0:ps=[]
   ·subst h0;rcases a3.tree with ⟨_,rfl,_,_⟩|⟨_,hT⟩
    ·rfl
    ·exact absurd rfl (TrD.ne _ _ _ _ _ _ hT)
   ·obtain⟨G1,l1,es,q,d',q',e1,e2,e3,e4,e5⟩:=load_leafs hc hs hp (by omega) a1 h0;rcases a3.tree with ⟨_,_,rfl,_⟩|⟨_,hT⟩
    ·exact absurd rfl h0
    ·have m1:=leafs_mono (G':=G') rfl d (d+d'+1) _ _ _ _ _ (by omega) (λ_ _=>rfl) hT;have m2:=leafs_mono (G':=G') rfl (d'+1) (d+d'+1) _ _ _ _ _ (by omega) (λ_ _=>rfl) e4;rw[← m1,m2,e5];have hz:((G0 250).size:Int)-24=232:=rfl;rw[hz,groups_lens (by omega) (by omega) ⟨e3,by rw[e2.keys];exact List.pairwise_map.2 hs⟩,ents_wts e2 e3]
end
section
open Go.RowKit
attribute [local go_sem ↓] Go.wp_at_zero Go.wp_at_succ
def NodeO(w:World)(base:Nat)(v:Value)(n:NodeA):Prop :=
 ∃ve vk vi,v=.agg #[.bool n.leaf,ve,vk,vi]∧Own (λ_=>False) w base 141 4 encE ve n.entries∧Own (λ_=>False) w base 9 1 encS vk n.keys∧Own (λ_=>False) w base 3 1 encI vi n.kids
theorem Own.slF{α:Type}{F:Nat→Prop}{w:World}{base:Nat}{e:TypeId}{sz:Nat}{enc:α→List Value}{v:Value}{l:List α}(h:Own (λ_=>False) w base e sz enc v l)(hF:∀k,F k→k<base)(henc:∀x,(enc x).length=sz)(hl:l.length≤140737488355328):Sl F w sz enc v l :=
 (h.blocks (G:=F) (λg hg hf=>by have:=(h.lt g hg).1;have:=hF g hf;omega)).sl henc hl
def ApartR(w:World)(x:NodeA × ByteArray × NodeA)(e:Ending)(w':World):Prop :=
 ∃va vb,e=.returned (.tuple #[va,.string x.2.1,vb])∧NodeO w' w.heap.size va x.1∧NodeO w' w.heap.size vb x.2.2∧Ext w w'
theorem Own.some'{α:Type}{F:Nat→Prop}{w:World}{base:Nat}{e:TypeId}{sz:Nat}{enc:α→List Value}{a:Option Addr}{n c:Nat}{l:List α}(h:Own F w base e sz enc (.slice a n c) l)(hl:l≠[]):∃g,a=some ⟨g,0,none⟩:=by
 rcases h.1.2 with ⟨_,h0⟩|⟨g,cap,cur,h0,_⟩
 ·exact absurd (List.eq_nil_of_length_eq_zero h0) hl
 ·injection h0 with h0 _ _;exact⟨g,h0⟩
section
variable {F:Nat→Prop}{w w':World}
theorem Tryz.nodeSz:(Tryz.prog.info? 118).map (·.size)=some 4:=by kernel_rfl
abbrev nodeZc:Array Value:=#[.bool false,.slice none 0 0,.slice none 0 0,.slice none 0 0]
theorem apartL_any(n:NodeA)(hlf:n.leaf=true)(ve vk vi:Value)(hve:Sl F w 4 encE ve n.entries)(a:Nat)(ha:1≤a∧a<n.entries.length)(hb:n.entries.length≤100000) :
  Calls Tryz.prog 169 #[.agg #[.bool true,ve,vk,vi],.int .i64 (a:Int)] w (ApartR w (apartA n a)):=by
 have m0:Ext w (((w.alloc (.cells #[.bool true,ve,vk,vi] 118)).alloc (.cells nodeZc 118)).alloc (.cells nodeZc 118)):=(((Mods.refl _ w).alloc _).alloc _).alloc _;have HB0:=oh (((Blk.new w #[.bool true,ve,vk,vi] 118).alloc (.cells nodeZc 118)).alloc (.cells nodeZc 118));have HR1:Hid (Blk (((w.alloc (.cells #[.bool true,ve,vk,vi] 118)).alloc (.cells nodeZc 118)).alloc (.cells nodeZc 118)) (w.heap.size+1) nodeZc 118):=oh ((show Blk ((w.alloc (.cells #[.bool true,ve,vk,vi] 118)).alloc (.cells nodeZc 118)) (w.heap.size+1) nodeZc 118 from heap_at (by simp)).alloc _);have HR2:Hid (Blk (((w.alloc (.cells #[.bool true,ve,vk,vi] 118)).alloc (.cells nodeZc 118)).alloc (.cells nodeZc 118)) (w.heap.size+1+1) nodeZc 118):=oh (heap_at (by simp));have HM0:=oh m0;have HE:=oh (hve.ext m0);obtain⟨ae,ce,rfl,he1,he2,he3,_⟩:=hve;unfold maxLen at he2;obtain⟨x0,hx0⟩:∃x0,n.entries[a]? = some x0:=⟨_,List.getElem?_eq_getElem ha.2⟩;have HAP:Hid (apartA n a=(⟨true,n.entries.take a,[],[]⟩,x0.key,⟨true,n.entries.drop a,[],[]⟩)):=oh (by unfold apartA;rw[if_pos hlf,hx0]);have HX0:=oh hx0;have hk1:(n.entries.take a).length=a:=by rw[List.length_take];omega
 have hk2:(n.entries.drop a).length=n.entries.length-a:=List.length_drop;have HK1:=oh hk1;have HK2:=oh hk2;have hi:(a:Int)≤(n.entries.length:Int):=by omega
 clear m0 hk1 hk2 hlf hx0
 go_enter Tryz.func169, Tryz.ntmps169
 go_wp2_with fail;refine (laidE_end _ (n.entries.take a) (HE.out.pre a (by omega)) a HK1.out.symm (by rw[HK1.out];omega)).mono ?_;rintro e w1 ⟨a1,c1,rfl,hO1,hm1⟩;have HO1:=oh hO1;have HM1:=oh (hm1.alloc (.cells #[.bool true,.slice a1 a c1,.slice none 0 0,.slice none 0 0] 118));have b1:=(HB0.out.ext HM1.out).cell (o:=1) (v:=.slice ae n.entries.length ce) rfl;have hne:¬ ce=a:=by omega
 have hz1:w.heap.size+1+1<w1.heap.size:=by have:=hm1.size;simp at this;omega
 clear hO1 hm1;have HP2:Hid (Sl F (w1.alloc (.cells #[.bool true,.slice a1 a c1,.slice none 0 0,.slice none 0 0] 118)) 4 encE (.slice (ae.map (·.add (a * 4))) (n.entries.length-a) (ce-a)) (n.entries.drop a)):=oh (by
  have:=(HE.out.ext HM1.out).tail_ a (by omega);rw[if_neg hne] at this;exact this)
 go_wp2_with fail;refine (laidE_beg _ (n.entries.drop a) HP2.out (n.entries.length-a) HK2.out.symm (by rw[HK2.out];omega)).mono ?_;rintro e w2 ⟨a2,c2,rfl,hO2,hm2⟩;obtain⟨g2,rfl⟩:=hO2.some' (λe0=>by have:=HK2.out;rw[e0] at this;simp at this;omega);have hk0:w2.cell? ⟨g2,0,none⟩=some (.string x0.key):=by
  obtain⟨a',c',e1,_,_,_,e5⟩:=hO2.sl encE_ok.len (by rw[HK2.out];omega);injection e1 with e1 _ _;subst e1;obtain⟨b,off,ha,_,hF,hc⟩:=Sl.at e5 (Mods.refl _ w2) (λ_ _ h=>h) 0 (by rw[HK2.out];omega);injection ha with ha;injection ha with ha1 ha2;subst ha1 ha2;have:=hc 0 (.string x0.key) (by
   have hx:(n.entries.drop a)[0]? = some x0:=by rw[List.getElem?_drop];exact HX0.out
   have hx2:=(List.getElem?_eq_some_iff.1 hx).2;rw[hx2];rfl)
  simpa using this
 have hgl:=(hO2.lt g2 rfl).1;have hg1:g2≠w.heap.size+1:=by simp at hgl;omega
 have hg2:g2≠w.heap.size+1+1:=by simp at hgl;omega
 have hg3:=hg1.symm;have hg4:=hg2.symm;clear hgl;have HO2:=oh hO2;have HX:Hid (Blk (w1.alloc (.cells #[.bool true,.slice a1 a c1,.slice none 0 0,.slice none 0 0] 118)) w1.heap.size #[.bool true,.slice a1 a c1,.slice none 0 0,.slice none 0 0] 118):=oh (Blk.new _ _ _);have HM2:=oh (hm2.alloc (.cells #[.bool true,.slice (some ⟨g2,0,none⟩) (n.entries.length-a) c2,.slice none 0 0,.slice none 0 0] 118));have HMM:=oh (HM0.out.trans (HM1.out.trans HM2.out));have HXA:=oh (HX.out.ext HM2.out);have HXB:=oh (Blk.new w2 #[.bool true,.slice (some ⟨g2,0,none⟩) (n.entries.length-a) c2,.slice none 0 0,.slice none 0 0] 118);have hR1:=(HR1.out.ext (HM1.out.trans HM2.out));have hR2:=(HR2.out.ext (HM1.out.trans HM2.out));have hk0:=cell_alloc hk0 (.cells #[.bool true,.slice (some ⟨g2,0,none⟩) (n.entries.length-a) c2,.slice none 0 0,.slice none 0 0] 118);have p0:=HXA.out.cell (o:=0) rfl;have p1:=HXA.out.cell (o:=1) rfl;have p2:=HXA.out.cell (o:=2) rfl;have p3:=HXA.out.cell (o:=3) rfl;have q0:=HXB.out.cell (o:=0) rfl;have q1:=HXB.out.cell (o:=1) rfl;have q2:=HXB.out.cell (o:=2) rfl;have q3:=HXB.out.cell (o:=3) rfl;have r0:=hR1.cell (o:=0) rfl;have r1:=hR1.cell (o:=1) rfl;have r2:=hR1.cell (o:=2) rfl;have r3:=hR1.cell (o:=3) rfl;have rf:=hR1.frozen;have s0:=hR2.cell (o:=0) rfl;have s1:=hR2.cell (o:=1) rfl;have s2:=hR2.cell (o:=2) rfl;have s3:=hR2.cell (o:=3) rfl;have sf:=hR2.frozen;have hl2:w1.heap.size<w2.heap.size:=by have:=hm2.size;simp at this;omega
 have hl3:(0:Int)<((n.entries.length-a:Nat):Int):=by omega
 have HRA:=oh hR1;have HRB:=oh hR2;clear hO2 hm2 hR1 hR2;go_wp2_with fail;go_region
 go_wp2_with fail;obtain⟨X0,hX0⟩:∃X0,X0=w2.alloc (.cells #[.bool true,.slice (some ⟨g2,0,none⟩) (n.entries.length-a) c2,.slice none 0 0,.slice none 0 0] 118):=⟨_,rfl⟩;rw[← hX0] at HRA HRB HMM;have mA:=Mods.set4 (F:=λk=>k=w.heap.size+1) (Mods.refl _ X0) (R:=w.heap.size+1) (.inr rfl) (.bool true) (.slice a1 a c1) (.slice none 0 0) (.slice none 0 0);have hA:=HRA.out.set4 (.bool true) (.slice a1 a c1) (.slice none 0 0) (.slice none 0 0);have hB0:=HRB.out.mods mA (by omega);have hB:=hB0.set4 (.bool true) (.slice (some ⟨g2,0,none⟩) (n.entries.length-a) c2) (.slice none 0 0) (.slice none 0 0);have mB:=Mods.set4 (F:=λk=>k=w.heap.size+1+1) (Mods.refl _ ((((X0.setCell ⟨w.heap.size+1,0,none⟩ (.bool true)).setCell ⟨w.heap.size+1,1,none⟩ (.slice a1 a c1)).setCell ⟨w.heap.size+1,2,none⟩ (.slice none 0 0)).setCell ⟨w.heap.size+1,3,none⟩ (.slice none 0 0))) (R:=w.heap.size+1+1) (.inr rfl) (.bool true) (.slice (some ⟨g2,0,none⟩) (n.entries.length-a) c2) (.slice none 0 0) (.slice none 0 0);have hA2:=hA.mods mB (by omega);have hx:=(Mods.set4 (Mods.set4 HMM.out (R:=w.heap.size+1) (.inl (by omega)) (.bool true) (.slice a1 a c1) (.slice none 0 0) (.slice none 0 0)) (R:=w.heap.size+1+1) (.inl (by omega)) (.bool true) (.slice (some ⟨g2,0,none⟩) (n.entries.length-a) c2) (.slice none 0 0) (.slice none 0 0)).drew;have o1:=(((HO1.out.ext ((Mods.refl _ w1).alloc (.cells #[.bool true,.slice a1 a c1,.slice none 0 0,.slice none 0 0] 118))).ext HM2.out));have o2:=HO2.out.ext ((Mods.refl _ w2).alloc (.cells #[.bool true,.slice (some ⟨g2,0,none⟩) (n.entries.length-a) c2,.slice none 0 0,.slice none 0 0] 118));rw[← hX0] at o1 o2;have hb1:=λg hg=>(o1.lt g hg).1
 have hb2:=λg hg=>(o2.lt g hg).1
 have o1':=((o1.mods mA (λg hg=>by have:=hb1 g hg;simp at this;omega)).mods mB (λg hg=>by have:=hb1 g hg;simp at this;omega)).rebase (base':=w.heap.size) (by simp;omega);have o2':=((o2.mods mA (λg hg=>by have:=hb2 g hg;simp at this;omega)).mods mB (λg hg=>by have:=hb2 g hg;simp at this;omega)).rebase (base':=w.heap.size) (by simp;omega);subst hX0;refine bodyPost_ret (results_row_tmp_row rfl _ _ (w.heap.size+1) (w.heap.size+1+1) 118 118 _ _ _ rfl hA2.drew rfl hB.drew rfl Tryz.underlying118 rfl Tryz.nodeSz rfl) rfl ?_;unfold ApartR;rw[HAP.out];exact⟨_,_,rfl,⟨_,_,_,rfl,o1'.ext (Mods.refl _ _).drew,Own.nil _ _ _ _ _ _,Own.nil _ _ _ _ _ _⟩,⟨_,_,_,rfl,o2'.ext (Mods.refl _ _).drew,Own.nil _ _ _ _ _ _,Own.nil _ _ _ _ _ _⟩,hx⟩
end
end
section
open Go.RowKit
theorem Own.lit{α:Type}{W:World}{g base:Nat}{e:TypeId}(sz:Nat)(enc:α→List Value)(henc:∀x,(enc x).length=sz)(h:Blk W g #[] e)(hg:base≤g):Own (λ_=>False) W base e sz enc (.slice (some ⟨g,0,none⟩) 0 0) ([]:List α) :=
 Own.made (l:=([]:List α)) (cur:=#[]) (cap:=0) h hg (λf=>f) (Nat.le_refl _) (by simp[maxLen]) (by simp) (by simp) henc
end
section
open Go.RowKit
attribute [local go_sem ↓] Go.wp_at_zero Go.wp_at_succ
theorem Own.row4{α:Type}{w1 w3:World}{base R:Nat}{e:TypeId}{sz:Nat}{enc:α→List Value}{v:Value}{l:List α}(h:Own (λ_=>False) w1 base e sz enc v l)(m:Ext w1 w3)(hb:R<base)(v0 v1 v2 v3:Value):Own (λ_=>False) ((((w3.setCell ⟨R,0,none⟩ v0).setCell ⟨R,1,none⟩ v1).setCell ⟨R,2,none⟩ v2).setCell ⟨R,3,none⟩ v3) base e sz enc v l :=
 (h.ext m).mods (Mods.set4 (F:=λk=>k=R) (Mods.refl _ w3) (.inr rfl) v0 v1 v2 v3) (λg hg e=>by have:=(h.lt g hg).1;omega)
section
variable {F:Nat→Prop}{w w':World}
theorem wholeL_any(A B:List EntryA)(lb:Bool)(ve vk vi ue uk ui:Value)(s t:ByteArray)(hve:Sl F w 4 encE ve A)(hue:Sl F w 4 encE ue B)(hA:A.length≤100000)(hB:B.length≤100000) :
  Calls Tryz.prog 182 #[.agg #[.bool true,ve,vk,vi,.string s],.agg #[.bool lb,ue,uk,ui,.string t]] w λe w'=>∃v,e=.returned v∧NodeO w' w.heap.size v ⟨true,A++B,[],[]⟩∧Ext w w':=by
 obtain⟨w0,hw0⟩:∃w0,w0=((w.alloc (.cells #[.bool true,ve,vk,vi,.string s] 197)).alloc (.cells #[.bool lb,ue,uk,ui,.string t] 197)).alloc (.cells nodeZc 118):=⟨_,rfl⟩;have m0:Ext w w0:=by rw[hw0];exact (((Mods.refl _ w).alloc _).alloc _).alloc _
 have hz:w0.heap.size=w.heap.size+1+1+1:=by rw[hw0];simp
 have hBA:Blk w0 w.heap.size #[.bool true,ve,vk,vi,.string s] 197:=by rw[hw0];exact ((Blk.new w _ _).alloc _).alloc _
 have hBB:Blk w0 (w.heap.size+1) #[.bool lb,ue,uk,ui,.string t] 197:=by rw[hw0];exact Blk.alloc (heap_at (by simp)) _
 have HR0:Hid (Blk w0 (w.heap.size+1+1) nodeZc 118):=oh (by rw[hw0];exact heap_at (by simp));have HM0:=oh m0;have HVE:=oh ((hve.ext m0).anti (G:=λ_=>False) (λ_ _ (f:False)=>f.elim));have HUE:=oh ((hue.ext m0).anti (G:=λ_=>False) (λ_ _ (f:False)=>f.elim));obtain⟨ae,ce,rfl,he1,he2,he3, -⟩:=hve;obtain⟨be,de,rfl,hf1,hf2,hf3, -⟩:=hue;have n0:=hBA.cell (o:=0) (v:=.bool true) rfl;have n1:=hBA.cell (o:=1) (v:=.slice ae A.length ce) rfl;have p1:=hBB.cell (o:=1) (v:=.slice be B.length de) rfl;have N1:=oh n1;have P1:=oh p1;have xm:=(Mods.refl (λ_=>False) w0).drew;have HW0:=oh hw0;have HZ:=oh hz;have HBA:=oh hBA;have r0:=HR0.out.cell (o:=0) (v:=.bool false) rfl;have r1:=HR0.out.cell (o:=1) (v:=.slice none 0 0) rfl;have r2:=HR0.out.cell (o:=2) (v:=.slice none 0 0) rfl;have r3:=HR0.out.cell (o:=3) (v:=.slice none 0 0) rfl;have rf:=HR0.out.frozen;clear m0 hw0 hz hBA hBB
 go_enter Tryz.func182, Tryz.ntmps182
 go_wp2_with fail;unfold nodeZc at HW0;rw[← HW0.out];have c1a:=λo=>cellE ((Mods.refl (λ_=>False) w0).alloc o).drew n1
 have d1a:=λo=>cellE ((Mods.refl (λ_=>False) w0).alloc o).drew p1
 go_region_held3 (λw'=>w'.cell? ⟨w.heap.size,1,none⟩=some (.slice ae A.length ce)∧w'.cell? ⟨w.heap.size+1,1,none⟩=some (.slice be B.length de))
  (first|(with_reducible exact⟨n1,p1⟩)|(with_reducible exact⟨c1a _,d1a _⟩)|go_keep)
  (first
   | (refine step_app2 Tryz.elE encE_ok (by rfl) _ _ (by rfl) w0.heap.size (.slice (some ⟨w0.heap.size,0,none⟩) 0 0) (.slice ae A.length ce) [] A (by rfl) (by rfl) (Own.lit 4 encE encE_ok.len (by first|exact heap_at (by first|(simp;done)|fail)|exact Blk.alloc (heap_at (by first|(simp;done)|fail)) _|fail) (by omega)) (HVE.out.ext (by first|exact xm|exact xm.alloc _|fail)) (by simp only[List.length_nil];omega) (by first|(simp;done)|(simp;omega)|fail) (λf=>f) ?_;rw[List.nil_append,List.length_nil,Nat.zero_add];intro a1 c1 w1 hO1 hm1 hat1;have xm1:Ext w0 w1:=Mods.past (by first|exact xm|exact xm.alloc _|fail) (hm1.mono (λk hk=>by simp[Value.ownBlock] at hk;omega));have n1:=cellE xm1 N1.out;have p1:=cellE xm1 P1.out)
   | (refine step_app2 Tryz.elE encE_ok (by rfl) _ _ (by rfl) w0.heap.size (.slice a1 A.length c1) (.slice be B.length de) A B (by rfl) (by rfl) hO1 (HUE.out.ext xm1) (by omega) (by have:=xm1.size;first|(simp;done)|(simp;omega)|omega|fail) (λf=>f) ?_;intro a2 c2 w2 hO2 hm2 hat2;have xm2:Ext w0 w2:=Mods.past xm1 (hm2.mono (λk hk=>(hO1.lt k hk).1));have n1:=cellE xm2 N1.out;have p1:=cellE xm2 P1.out;have hR:=HR0.out.ext xm2;have r0:=hR.cell (o:=0) (v:=.bool false) rfl;have r1:=hR.cell (o:=1) (v:=.slice none 0 0) rfl;have r2:=hR.cell (o:=2) (v:=.slice none 0 0) rfl;have r3:=hR.cell (o:=3) (v:=.slice none 0 0) rfl;have rf:=hR.frozen;have y1:¬ w.heap.size=w.heap.size+1+1:=(by omega);have y2:¬ w.heap.size+1+1=w.heap.size:=(by omega))
   | fail)
 all_goals
  have HF:=oh ((HR0.out.ext xm2).set4 (.bool true) (.slice a2 (A.length+B.length) c2) (.slice none 0 0) (.slice none 0 0));have HE:=oh (Mods.set4 (HM0.out.trans xm2) (R:=w.heap.size+1+1) (.inl (by omega)) (.bool true) (.slice a2 (A.length+B.length) c2) (.slice none 0 0) (.slice none 0 0));have HO:=oh ((hO2.row4 (Mods.refl _ w2) (R:=w.heap.size+1+1) (by have:=HZ.out;omega) (.bool true) (.slice a2 (A.length+B.length) c2) (.slice none 0 0) (.slice none 0 0)).rebase (show w.heap.size≤w0.heap.size by have:=HZ.out;omega));rw[← List.length_append] at HO;clear hO1 hO2 hm1 hm2 hat1 hat2 xm1 xm2;go_wp2_with fail;refine bodyPost_ret (results_cell_row rfl _ _ (w.heap.size+1+1) 118 #[.bool true,.slice a2 (A.length+B.length) c2,.slice none 0 0,.slice none 0 0] (0,0) _ rfl HF.out Tryz.underlying118 rfl Tryz.nodeSz) rfl ?_;exact⟨_,rfl,⟨_,_,_,rfl,by first|exact HO.out|(rw[List.length_append] at HO;exact HO.out),Own.nil _ _ _ _ _ _,Own.nil _ _ _ _ _ _⟩,HE.out⟩
end
end
section
open Go.RowKit
abbrev PgE:=PageA × (Option Addr × Nat × Nat)
theorem flat_set{α:Type}{enc:α→List Value}{sz:Nat}(henc:∀x,(enc x).length=sz):∀(l:List α) (i:Nat) (x x':α) (j:Nat) (u:Value),l[i]? = some x→j<sz→(enc x).set j u=enc x'→(l.set i x').flatMap enc=(l.flatMap enc).set (i * sz+j) u
 | [],i,x,x',j,u,h,_,_=>by simp at h
 | y :: l,0,x,x',j,u,h,hj,he=>by
  simp at h;subst h;rw[List.set_cons_zero,List.flatMap_cons,List.flatMap_cons,Nat.zero_mul,Nat.zero_add,← he,List.set_append_left _ _ (by rw[henc];exact hj)]
 | y :: l,i+1,x,x',j,u,h,hj,he=>by
  rw[List.set_cons_succ,List.flatMap_cons,List.flatMap_cons,flat_set henc l i x x' j u (by simpa using h) hj he,List.set_append_right _ _ (by rw[henc,Nat.add_mul];omega),henc];congr 2
  rw[Nat.add_mul];omega
theorem Own.set{α:Type}{F:Nat→Prop}{w:World}{base:Nat}{e:TypeId}{sz:Nat}{enc:α→List Value}{g n c:Nat}{l:List α}(h:Own F w base e sz enc (.slice (some ⟨g,0,none⟩) n c) l)(henc:∀x,(enc x).length=sz){i j:Nat}{x x':α}{u:Value}(hx:l[i]? = some x)(hj:j<sz)(he:(enc x).set j u=enc x') :
  Own F (w.setCell ⟨g,i * sz+j,none⟩ u) base e sz enc (.slice (some ⟨g,0,none⟩) n c) (l.set i x'):=by
 refine⟨?_,h.2⟩;rcases h.1.2 with ⟨h0,_⟩|⟨g',cap,cur,h0,hb,hg,h1,h2,h3,h4⟩
 ·cases h0
 ·injection h0 with h0 h0n h0c;injection h0 with h0;injection h0 with h0;subst h0 h0c h0n;refine⟨by rw[flatMap_len henc],.inr ⟨g,c,cur.setIfInBounds (i * sz+j) u,by rw[List.length_set],hb,heap_setCell_same w g _ cur e u hg,by rw[List.length_set];exact h1,h2,by simpa using h3,?_⟩⟩;rw[flat_set henc l i x x' j u hx hj he,← h4,List.length_set];simp[List.take_set]
abbrev SlT:=Option Addr × Nat × Nat
abbrev slV(x:SlT):Value:=.slice x.1 x.2.1 x.2.2
structure PtV where
 lf:Bool
 e:SlT
 k:SlT
 i:SlT
 s:ByteArray
def encPt(x:PtV):List Value:=[.bool x.lf,slV x.e,slV x.k,slV x.i,.string x.s]
def ptV(x:PtV):Value:=.agg #[.bool x.lf,slV x.e,slV x.k,slV x.i,.string x.s]
theorem encPt_ok:EncOk encPt 5:=⟨λ_=>rfl,by intro x u hu;simp[encPt,slV] at hu;rcases hu with rfl|rfl|rfl|rfl|rfl <;> rfl⟩
theorem Tryz.mkPt:(Tryz.prog.info? 197).map (λi=>(i.zero,i.size,i.bytes))=some (some (.agg #[.bool false,.slice none 0 0,.slice none 0 0,.slice none 0 0,.string ⟨#[]⟩]),5,96):=by kernel_rfl
theorem Tryz.elPt:ElT Tryz.prog 147 197 (.agg #[.bool false,.slice none 0 0,.slice none 0 0,.slice none 0 0,.string ⟨#[]⟩]) 5 96:=⟨Tryz.underlying147,Tryz.mkPt,rfl,by decide,by decide⟩
structure PtR(w:World)(base:Nat)(x:PtV)(n:NodeA × ByteArray):Prop where
 lf:x.lf=n.1.leaf
 fst:x.s=n.2
 e:Own NoF w base 141 4 encE (slV x.e) n.1.entries
 k:Own NoF w base 9 1 encS (slV x.k) n.1.keys
 i:Own NoF w base 3 1 encI (slV x.i) n.1.kids
structure PtsR(w:World)(base:Nat)(v:Value)(xs:List PtV)(L:List (NodeA × ByteArray)):Prop where
 row:Own NoF w base 197 5 encPt v xs
 len:xs.length=L.length
 at_:∀(i:Nat) (x:PtV) (n:NodeA × ByteArray),xs[i]? = some x→L[i]? = some n→PtR w base x n
def PtsO(w:World)(base:Nat)(v:Value)(L:List (NodeA × ByteArray)):Prop:=∃xs,PtsR w base v xs L
section
variable {w w':World}{base:Nat}{v v':Value}{x y:PtV}{n m:NodeA × ByteArray}{xs:List PtV}{L:List (NodeA × ByteArray)}
theorem PtR.mods(h:PtR w base x n){G:Nat→Prop}(hm:Mods G w w')(he:∀g,(slV x.e).ownBlock=some g→¬ G g)(hk:∀g,(slV x.k).ownBlock=some g→¬ G g)(hi:∀g,(slV x.i).ownBlock=some g→¬ G g):PtR w' base x n :=
 ⟨h.lf,h.fst,h.e.mods hm he,h.k.mods hm hk,h.i.mods hm hi⟩
theorem PtR.ext(h:PtR w base x n)(hm:Ext w w'):PtR w' base x n:=⟨h.lf,h.fst,h.e.ext hm,h.k.ext hm,h.i.ext hm⟩
theorem PtR.rebase(h:PtR w base x n){b:Nat}(hb:b≤base):PtR w b x n:=⟨h.lf,h.fst,h.e.rebase hb,h.k.rebase hb,h.i.rebase hb⟩
theorem PtR.row(h:PtR w base x n){b2:Nat}{F:Nat→Prop}{ys:List PtV}(ho:Own F w b2 197 5 encPt v ys)(hm:Mods (λk=>v.ownBlock=some k) w w'):PtR w' base x n :=
 h.mods hm (λg hg e=>h.e.far ho (by decide) g hg e) (λg hg e=>h.k.far ho (by decide) g hg e) (λg hg e=>h.i.far ho (by decide) g hg e)
theorem PtR.blk(h:PtR w base x n){B:Nat}{c:Array Value}{t:TypeId}(hB:Blk w B c t)(hm:Mods (λk=>k=B) w w')(h1:t ≠ 141)(h2:t ≠ 9)(h3:t ≠ 3):PtR w' base x n :=
 h.mods hm (λg hg e=>h.e.notB hB h1 g hg e) (λg hg e=>h.k.notB hB h2 g hg e) (λg hg e=>h.i.notB hB h3 g hg e)
theorem NodeO.pt{lf:Bool}{e k i:Value}{N:NodeA}(h:NodeO w base (.agg #[.bool lf,e,k,i]) N)(s:ByteArray):∃x:PtV,e=slV x.e∧k=slV x.k∧i=slV x.i∧lf=x.lf∧s=x.s∧PtR w base x (N,s):=by
 obtain⟨ve,vk,vi,hv,h1,h2,h3⟩:=h;injection hv with hv;simp only[Array.mk.injEq,List.cons.injEq,Value.bool.injEq,and_true] at hv;obtain⟨rfl,rfl,rfl,rfl⟩:=hv;obtain⟨a1,c1,rfl,_,_⟩:=h1.form;obtain⟨a2,c2,rfl,_,_⟩:=h2.form;obtain⟨a3,c3,rfl,_,_⟩:=h3.form;exact⟨⟨N.leaf,(a1,N.entries.length,c1),(a2,N.keys.length,c2),(a3,N.kids.length,c3),s⟩,rfl,rfl,rfl,rfl,rfl,rfl,rfl,h1,h2,h3⟩
theorem PtsR.nil(w:World)(base:Nat):PtsR w base (.slice none 0 0) [] []:=⟨Own.nil _ _ _ _ _ _,rfl,λi x n h=>by simp at h⟩
theorem PtsR.ext(h:PtsR w base v xs L)(hm:Ext w w'):PtsR w' base v xs L:=⟨h.row.ext hm,h.len,λi x n h1 h2=>(h.at_ i x n h1 h2).ext hm⟩
theorem PtsR.rebase(h:PtsR w base v xs L){b:Nat}(hb:b≤base):PtsR w b v xs L:=⟨h.row.rebase hb,h.len,λi x n h1 h2=>(h.at_ i x n h1 h2).rebase hb⟩
theorem PtsR.app(h:PtsR w base v xs L)(hm:Mods (λk=>v.ownBlock=some k) w w')(ho:Own NoF w' base 197 5 encPt v' (xs++[x]))(hx:PtR w base x n):PtsR w' base v' (xs++[x]) (L++[n]):=by
 refine⟨ho,by simp[h.len],λi y m h1 h2=>?_⟩;by_cases hi:i<xs.length
 ·rw[List.getElem?_append_left hi] at h1;rw[List.getElem?_append_left (by rw[← h.len];exact hi)] at h2;exact (h.at_ i y m h1 h2).row h.row hm
 ·rw[List.getElem?_append_right (by omega)] at h1;rw[List.getElem?_append_right (by rw[← h.len];omega),← h.len] at h2;obtain⟨j,hj⟩:∃j,j=i-xs.length:=⟨_,rfl⟩;rw[← hj] at h1 h2;cases j with
  | zero =>
   simp at h1 h2;subst h1 h2;exact hx.row h.row hm
  | succ j=>simp at h1
theorem PtsR.last(h:PtsR w base v (xs++[y]) (L++[m]))(hm:Mods (λk=>v.ownBlock=some k) w w')(ho:Own NoF w' base 197 5 encPt v (xs++[x]))(hx:PtR w base x n):PtsR w' base v (xs++[x]) (L++[n]):=by
 have hl:xs.length=L.length:=by have:=h.len;simpa using this
 refine⟨ho,by simp[hl],λi z q h1 h2=>?_⟩;by_cases hi:i<xs.length
 ·rw[List.getElem?_append_left hi] at h1;rw[List.getElem?_append_left (by omega)] at h2;exact (h.at_ i z q (by rw[List.getElem?_append_left hi];exact h1) (by rw[List.getElem?_append_left (by omega)];exact h2)).row h.row hm
 ·rw[List.getElem?_append_right (by omega)] at h1;rw[List.getElem?_append_right (by omega),← hl] at h2;obtain⟨j,hj⟩:∃j,j=i-xs.length:=⟨_,rfl⟩;rw[← hj] at h1 h2;cases j with
  | zero =>
   simp at h1 h2;subst h1 h2;exact hx.row h.row hm
  | succ j=>simp at h1
theorem Own.put5{g n c:Nat}(h:Own NoF w base 197 5 encPt (.slice (some ⟨g,0,none⟩) n c) (xs++[y]))(x:PtV) :
  Own NoF (((((w.setCell ⟨g,xs.length * 5,none⟩ (.bool x.lf)).setCell ⟨g,xs.length * 5+1,none⟩ (slV x.e)).setCell ⟨g,xs.length * 5+2,none⟩ (slV x.k)).setCell ⟨g,xs.length * 5+3,none⟩ (slV x.i)).setCell ⟨g,xs.length * 5+4,none⟩ (.string x.s)) base 197 5 encPt (.slice (some ⟨g,0,none⟩) n c) (xs++[x]):=by
 have e:∀(z z':PtV),(xs++[z]).set xs.length z'=xs++[z']:=λz z'=>by simp
 have g0:∀z:PtV,(xs++[z])[xs.length]? = some z:=λz=>by simp
 have h1:=h.set encPt_ok.len (i:=xs.length) (j:=0) (x':={ y with lf:=x.lf }) (u:=.bool x.lf) (g0 _) (by omega) rfl;rw[e] at h1;have h2:=h1.set encPt_ok.len (i:=xs.length) (j:=1) (x':={ y with lf:=x.lf,e:=x.e }) (u:=slV x.e) (g0 _) (by omega) rfl;rw[e] at h2;have h3:=h2.set encPt_ok.len (i:=xs.length) (j:=2) (x':={ y with lf:=x.lf,e:=x.e,k:=x.k }) (u:=slV x.k) (g0 _) (by omega) rfl;rw[e] at h3;have h4:=h3.set encPt_ok.len (i:=xs.length) (j:=3) (x':={ y with lf:=x.lf,e:=x.e,k:=x.k,i:=x.i }) (u:=slV x.i) (g0 _) (by omega) rfl;rw[e] at h4;have h5:=h4.set encPt_ok.len (i:=xs.length) (j:=4) (x':=x) (u:=.string x.s) (g0 _) (by omega) rfl;rw[e] at h5;exact h5
theorem Mods.put5{g:Nat}(w:World)(o n q:Nat)(a b c d e:Value):Mods (λk=>(Value.slice (some ⟨g,0,none⟩) n q).ownBlock=some k) w (((((w.setCell ⟨g,o,none⟩ a).setCell ⟨g,o+1,none⟩ b).setCell ⟨g,o+2,none⟩ c).setCell ⟨g,o+3,none⟩ d).setCell ⟨g,o+4,none⟩ e) :=
 (((((Mods.refl (λk=>(Value.slice (some ⟨g,0,none⟩) n q).ownBlock=some k) w).setCell (p:=⟨g,o,none⟩) (.inr rfl) a).setCell (p:=⟨g,o+1,none⟩) (.inr rfl) b).setCell (p:=⟨g,o+2,none⟩) (.inr rfl) c).setCell (p:=⟨g,o+3,none⟩) (.inr rfl) d).setCell (p:=⟨g,o+4,none⟩) (.inr rfl) e
end
structure App2{α:Type}(e:TypeId)(sz:Nat)(enc:α→List Value)(w0:World)(es:List α)(y:α)(src:Value)(b0 b3 b4 b6 b7:Bool)(u5 u8 u9 u11 u12:Value)(w:World):Prop where
 ext:Ext w0 w
 f0:b0=true→b4=false→Own NoF w w0.heap.size e sz enc u5 ([]:List α)
 f3:b3=true→u8=src
 f4:b4=true→b7=false→∃a1 c1,u9=.slice a1 es.length c1∧Own NoF w w0.heap.size e sz enc u9 es
 f6:b6=true→b7=false→∃g,u11=.slice (some ⟨g,0,none⟩) 1 1∧Blk w g (enc y).toArray e∧(b4=false→b0=true→∀k,u5.ownBlock=some k→k≠g)
 f7:b7=true→∃a2 c2,u12=.slice a2 (es.length+1) c2∧Own NoF w w0.heap.size e sz enc u12 (es++[y])
 g7:b7=true→b4=true
section
variable {α:Type}{e:TypeId}{sz:Nat}{enc:α→List Value}{w0:World}{es:List α}{y:α}{src:Value}{b0 b3 b4 b6 b7:Bool}{u5 u8 u9 u11 u12:Value}{w w':World}
theorem App2.start(m:Ext w0 w):App2 e sz enc w0 es y src false false false false false u5 u8 u9 u11 u12 w:=by
 constructor <;> first|exact m|(intro h;cases h)
theorem App2.lit0(h:App2 e sz enc w0 es y src b0 b3 b4 b6 b7 u5 u8 u9 u11 u12 w)(henc:∀x,(enc x).length=sz):App2 e sz enc w0 es y src true b3 b4 b6 b7 (.slice (some ⟨w.heap.size,0,none⟩) 0 0) u8 u9 u11 u12 (w.alloc (.cells #[] e)):=by
 have m:Ext w (w.alloc (.cells #[] e)):=(Mods.refl _ w).alloc _;refine⟨h.ext.trans m,λ_ _=>Own.lit sz enc henc (Blk.new w _ _) h.ext.size,h.f3,λh1 h2=>?_,λh1 h2=>?_,λh1=>?_,h.g7⟩
 ·obtain⟨a1,c1,h3,h4⟩:=h.f4 h1 h2;exact⟨a1,c1,h3,h4.ext m⟩
 ·obtain⟨g,h3,h4,_⟩:=h.f6 h1 h2;exact⟨g,h3,h4.ext m,λ_ _ k hk=>by simp[Value.ownBlock] at hk;have:=h4.lt;omega⟩
 ·obtain⟨a1,c1,h3,h4⟩:=h.f7 h1;exact⟨a1,c1,h3,h4.ext m⟩
theorem App2.lit1(h:App2 e sz enc w0 es y src b0 b3 b4 b6 b7 u5 u8 u9 u11 u12 w):App2 e sz enc w0 es y src b0 b3 b4 true b7 u5 u8 u9 (.slice (some ⟨w.heap.size,0,none⟩) 1 1) u12 (w.alloc (.cells (enc y).toArray e)):=by
 have m:Ext w (w.alloc (.cells (enc y).toArray e)):=(Mods.refl _ w).alloc _;refine⟨h.ext.trans m,λh1 h2=>(h.f0 h1 h2).ext m,h.f3,λh1 h2=>?_,λ_ _=>⟨w.heap.size,rfl,Blk.new w _ _,λh1 h2 k hk=>by have:=(h.f0 h2 h1).lt k hk;omega⟩,λh1=>?_,h.g7⟩
 ·obtain⟨a1,c1,h3,h4⟩:=h.f4 h1 h2;exact⟨a1,c1,h3,h4.ext m⟩
 ·obtain⟨a1,c1,h3,h4⟩:=h.f7 h1;exact⟨a1,c1,h3,h4.ext m⟩
theorem App2.ld(h:App2 e sz enc w0 es y src b0 b3 b4 b6 b7 u5 u8 u9 u11 u12 w):App2 e sz enc w0 es y src b0 true b4 b6 b7 u5 src u9 u11 u12 w:=⟨h.ext,h.f0,λ_=>rfl,h.f4,h.f6,h.f7,h.g7⟩
theorem App2.app1{a:Option Addr}{c:Nat}(h:App2 e sz enc w0 es y src true true false b6 b7 u5 u8 u9 u11 u12 w)(o:Own NoF w' w0.heap.size e sz enc (.slice a es.length c) es)(m:Mods (λk=>u5.ownBlock=some k) w w'):App2 e sz enc w0 es y src true true true b6 b7 u5 u8 (.slice a es.length c) u11 u12 w':=by
 refine⟨Mods.past h.ext (m.mono (λk hk=>((h.f0 rfl rfl).lt k hk).1)),λ_ h2=>(by cases h2),h.f3,λ_ _=>⟨a,c,rfl,o⟩,λh1 h2=>?_,λh1=>?_,λ_=>rfl⟩
 ·obtain⟨g,h3,h4,h5⟩:=h.f6 h1 h2;exact⟨g,h3,h4.mods m (λhk=>h5 rfl rfl g hk rfl),λhb=>by cases hb⟩
 ·have:=h.g7 h1;cases this
theorem App2.app2{a:Option Addr}{c:Nat}(h:App2 e sz enc w0 es y src b0 b3 true true false u5 u8 u9 u11 u12 w)(o:Own NoF w' w0.heap.size e sz enc (.slice a (es.length+1) c) (es++[y]))(m:Mods (λk=>u9.ownBlock=some k) w w'):App2 e sz enc w0 es y src b0 b3 true true true u5 u8 u9 u11 (.slice a (es.length+1) c) w':=by
 obtain⟨_,_,_,h4⟩:=h.f4 rfl rfl;exact⟨Mods.past h.ext (m.mono (λk hk=>(h4.lt k hk).1)),λ_ h2=>by (cases h2),h.f3,λ_ h2=>by (cases h2),λ_ h2=>by (cases h2),λ_=>⟨a,c,rfl,o⟩,λ_=>rfl⟩
end
end
section
open Go.RowKit
attribute [local go_sem ↓] Go.wp_at_zero Go.wp_at_succ
structure VarR(F P:Nat→Prop)(w0 wr:World)(b:Nat)(c:Array Value)(t:TypeId):Prop where
 blk:Blk wr b c t
 f:F b
 p:¬ P b
 new:w0.heap.size≤b
section
variable {P P' F F':Nat→Prop}{ad:Nat→Addr}{w0 w w':World}{b b2:Nat}{c c2:Array Value}{t t2:TypeId}
theorem VarR.nxt(h:VarR F P w0 w b c t)(n:Nxt P P' F F' ad w w'):VarR F' P' w0 w' b c t:=⟨n.blk h.blk h.p,n.grow b h.f,n.not h.blk.lt h.p,h.new⟩
end
section
variable {P P0 F F0:Nat→Prop}{ad:Nat→Addr}{w0 w w':World}{b:Nat}{cc:Array Value}{t:TypeId}{c s:Nat}{G:GA}{l:List Nat}
theorem PgR.var(h:PgR F w P c s G l)(v:VarR F P w0 w b cc t)(m:Mods (λk=>k=b) w w'):PgR F w' P c s G l:=h.res m v.p v.f
theorem Nxt.var(n:Nxt P0 P F0 F ad w0 w)(v:VarR F P w0 w b cc t)(m:Mods (λk=>k=b) w w'):Nxt P0 P F0 F ad w0 w':=n.resD m v.new v.f
theorem VarR.mF(v:VarR F P w0 w b cc t)(m:Mods (λk=>k=b) w w'):Mods F w w':=m.mono (λ_ hk=>hk ▸ v.f)
end
end
end Go.Proofs.YtchklfmggpconaaGreatDoor
