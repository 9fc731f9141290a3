import Derived.Test.YtchklfmggpconaaGreatDoorK29
import Derived.Test.YtchklfmggpconaaGreatDoorK22
import Derived.Deep.RegionHeld3
import Derived.Test.YtchklfmggpconaaGreatDoorK01
import Derived.Test.YtchklfmggpconaaGreatDoorK24
namespace Go.Proofs.YtchklfmggpconaaGreatDoor
open Lib renaming hid->oh
set_option maxHeartbeats 4000000
set_option maxRecDepth 100000
section
open Go.RowKit
def wtP(x:zE):Int:=if 24<x.2.size then 10+(x.1.size:Int) else 3+(x.1.size:Int)+(x.2.size:Int)
def zFO(l:List zE):List Int:=l.map wtP
section
variable {G:GA}{gen:Nat}
theorem zHz{es:List zI}{ps:List zE}{q:List Nat}(h:vM G gen es ps q):(∀e∈es,yC e=true)->es.map yF=zFO ps:=by
 induction h with
 | nil=>intro _;rfl
 | @cons e x ids es l q h1 h2 _ ih =>
  intro hr;have he:=hr e uF;rw[uW,ih (λy hy=>hr y (uI _ hy))];show _=wtP x :: zFO l;congr 1
  unfold yC at he;simp only[uK] at he;unfold yF wtP;rcases h2 with ⟨a,b,_⟩|⟨a,b⟩
  .have he2:=he.2;rw[if_pos a] at he2 ⊢;simp only[uK,uQ] at he2;rw[b] at he2 ⊢;rw[if_neg (by omega),h1];omega
  .rw[if_neg a,if_pos (by have:=b.lo;omega),h1];omega
end
structure zRb(n:Nat)(G:GA)(l:List Nat)(root d:Nat)(ps:List zE)(pgs:List Nat):Prop where
 ctx:zAK G l
 td:TD G 5 root d ps pgs
 use:vX l (λk=>k∈pgs)
 blk:G.blocks=n
 size:G.size=256
 lay:∀i,i<n->l[i]? = some (if i<2 then 1 else if i∈pgs then 2 else 0)
 leafs:yK G d root=zB6 232 (zFO ps)
 cost:G.cost<=20 * ps.length
theorem zQG{l:List Nat}{pgs:List Nat}{n:Nat}(hl:l.length=n)(lay:∀i,i<n->l[i]? = some (if i<2 then 1 else if i∈pgs then 2 else 0)):zBd l l.length=zBe (iL pgs) n:=by
  unfold zBd zBe
  rw[hl]
  congr 1
  refine List.filter_congr (λi hi=>?_)
  have hi:=List.mem_range.1 hi
  have:=lay i hi
  have hg:l.getD i 0=(if i<2 then 1 else if i∈pgs then 2 else 0):=by simp[List.getD,this]
  rw[hg]
  have hc:(iL pgs).contains (i:Int)=decide (i∈pgs):=by
    rw[Bool.eq_iff_iff,List.contains_iff_mem,decide_eq_true_iff]
    unfold iL
    rw[wY]
    exact ⟨fun ⟨a, h1, h2⟩ => by have : a = i := by omega
                                 exact this ▸ h1,λh=>⟨i,h,rfl⟩⟩
  rw[hc]
  by_cases h2:i<2
  . rw[if_pos h2];simp[zGz,h2]
  . rw[if_neg h2]
    by_cases h3:i∈pgs
    . rw[if_pos h3];simp[zGz,h3]
    . rw[if_neg h3];simp[zGz,h2,h3]
theorem zQH:zAK (G0 250) (zDu 250)/\(∀i,i<250->(zDu 250)[i]? = some (if i<2 then 1 else 0))/\zAJ (zDu 250)=246:=by
 refine⟨⟨?_,?_,?_,by show 256<=256;omega,by show 256<=1024;omega⟩,by decide +kernel,by decide +kernel⟩
 .unfold zGK;decide +kernel
 .show (zDu 250).length=250;decide +kernel
 .show 250<=256;omega
theorem zQ1(v:ByteArray)(h:v.size<=228):ndV 256 v<=1:=by
 unfold ndV ndS;split
 .omega
 .have:(v.size-1) / (256-28)=0:=Nat.div_eq_of_lt (by omega);omega
theorem zKD:∀(ps:List zE),(∀x∈ps,x.2.size<=228)->chS 256 ps<=ps.length
 | [],_=>by simp[chS]
 | x :: ps,h=>by
  have h1:=zQ1 x.2 (h x uF);have h2:=zKD ps (λy hy=>h y (uI _ hy));rw[zFu];simp only[uD];omega
theorem zRc{ps:List zE}(hs:yZ ps)(hp:∀x∈ps,zCN x)(hlen:ps.length<=30)(hv:∀x∈ps,x.2.size<=228):∃G' l' root d pgs,zEM 5 (G0 250) (zDu 250) ps=.inl (G',l',root)/\zRb 250 G' l' root d ps pgs:=by
 obtain⟨hc,hl0,hphi⟩:=zQH;have hch:=zKD ps hv;rcases zNn (gen:=5) hc hs hp (by omega) with ⟨_,a2⟩|⟨G',l',root,d,pgs,a1,a2,a3,a4,a5,a6⟩
 .rw[hphi] at a2;have:(G0 250).size=256:=rfl;rw[this] at a2;omega
 .refine⟨G',l',root,d,pgs,a1,⟨a5,a3,a4,a2.bl,a2.sz,λi hi=>?_,?_,by have:(G0 250).cost=0:=rfl;omega⟩⟩
  .by_cases hm:i∈pgs
   .rcases a2.inn i hm with ⟨f,_⟩|⟨h1,h2⟩
    .exact f.elim
    .have h3:=hl0 i hi;rw[h1] at h3;have:¬ i<2:=λh=>by rw[if_pos h] at h3;simp at h3
     rw[h2,if_neg this,if_pos hm]
   .have h1:=(a2.rest i (λf=>f) hm).1;rw[h1,hl0 i hi,if_neg hm]
  .by_cases h0:ps=[]
   .subst h0;rcases a3.tree with ⟨_,rfl,_,_⟩|⟨_,hT⟩
    .rfl
    .exact absurd rfl (vJ.ne _ _ _ _ _ _ hT)
   .obtain⟨G1,l1,es,q,d',q',e1,e2,e3,e4,e5⟩:=zHx hc hs hp (by omega) a1 h0;rcases a3.tree with ⟨_,_,rfl,_⟩|⟨_,hT⟩
    .exact absurd rfl h0
    .have m1:=zB0 (G':=G') rfl d (d+d'+1) _ _ _ _ _ (by omega) (λ_ _=>rfl) hT;have m2:=zB0 (G':=G') rfl (d'+1) (d+d'+1) _ _ _ _ _ (by omega) (λ_ _=>rfl) e4;rw[<- m1,m2,e5];have hz:((G0 250).size:Int)-24=232:=rfl;rw[hz,zGr (by omega) (by omega) ⟨e3,by rw[e2.keys];exact wW.2 hs⟩,zHz e2 e3]
end
section
open Go.RowKit
attribute [local go_sem ↓] Go.wp_at_zero Go.wp_at_succ
def zDP(w:World)(base:Nat)(v:Value)(n:zF):Prop :=
 ∃ve vk vi,v=.agg #[.bool n.leaf,ve,vk,vi]/\zU (λ_=>False) w base 141 4 vA ve n.entries/\zU (λ_=>False) w base 9 1 qK vk n.keys/\zU (λ_=>False) w base 3 1 yB vi n.kids
theorem zU.slF{α:Type}{F:Nat->Prop}{w:World}{base:Nat}{e:TypeId}{sz:Nat}{enc:α->List Value}{v:Value}{l:List α}(h:zU (λ_=>False) w base e sz enc v l)(hF:∀k,F k->k<base)(henc:∀x,(enc x).length=sz)(hl:l.length<=140737488355328):Sl F w sz enc v l :=
 (h.blocks (G:=F) (λg hg hf=>by have:=(h.lt g hg).1;have:=hF g hf;omega)).sl henc hl
section
variable {F:Nat->Prop}{w w':World}{base:Nat}{v:Value}{n:zF}
theorem zDP.ext(h:zDP w base v n)(m:zJ w w'):zDP w' base v n:=by
 obtain⟨ve,vk,vi,e,h1,h2,h3⟩:=h;exact⟨ve,vk,vi,e,h1.ext m,h2.ext m,h3.ext m⟩
end
def zGO(w:World)(x:zF × ByteArray × zF)(e:Ending)(w':World):Prop :=
 ∃va vb,e=.returned (.tuple #[va,.string x.2.1,vb])/\zDP w' w.heap.size va x.1/\zDP w' w.heap.size vb x.2.2/\zJ w w'
theorem zU.some'{α:Type}{F:Nat->Prop}{w:World}{base:Nat}{e:TypeId}{sz:Nat}{enc:α->List Value}{a:Option Addr}{n c:Nat}{l:List α}(h:zU F w base e sz enc (.slice a n c) l)(hl:l≠[]):∃g,a=some ⟨g,0,none⟩:=by
 rcases h.1.2 with ⟨_,h0⟩|⟨g,cap,cur,h0,_⟩
 .exact absurd (tB h0) hl
 .injection h0 with h0 _ _;exact⟨g,h0⟩
section
variable {F:Nat->Prop}{w w':World}
theorem Tryz.nodeSz:(Tryz.prog.info? 118).map (·.size)=some 4:=by kernel_rfl
abbrev zP:Array Value:=gB
theorem zMq(n:zF)(hlf:n.leaf=true)(ve vk vi:Value)(hve:Sl F w 4 vA ve n.entries)(a:Nat)(ha:1<=a/\a<n.entries.length)(hb:n.entries.length<=100000) :
  Calls Tryz.prog 169 #[.agg #[.bool true,ve,vk,vi],.int .i64 (a:Int)] w (zGO w (zS n a)):=by
 have m0:zJ w (((w.alloc (.cells #[.bool true,ve,vk,vi] 118)).alloc (.cells zP 118)).alloc (.cells zP 118)):=(((zA.refl _ w).alloc _).alloc _).alloc _;have HB0:=oh (((zL.new w #[.bool true,ve,vk,vi] 118).alloc (.cells zP 118)).alloc (.cells zP 118));have HR1:Hid (zL (((w.alloc (.cells #[.bool true,ve,vk,vi] 118)).alloc (.cells zP 118)).alloc (.cells zP 118)) (w.heap.size+1) zP 118):=oh ((show zL ((w.alloc (.cells #[.bool true,ve,vk,vi] 118)).alloc (.cells zP 118)) (w.heap.size+1) zP 118 from zK (by simp)).alloc _);have HR2:Hid (zL (((w.alloc (.cells #[.bool true,ve,vk,vi] 118)).alloc (.cells zP 118)).alloc (.cells zP 118)) (w.heap.size+1+1) zP 118):=oh (zK (by simp));have HM0:=oh m0;have HE:=oh (hve.ext m0);obtain⟨ae,ce,rfl,he1,he2,he3,_⟩:=hve;unfold maxLen at he2;obtain⟨x0,hx0⟩:∃x0,n.entries[a]? = some x0:=⟨_,uA ha.2⟩;have HAP:Hid (zS n a=(⟨true,n.entries.take a,[],[]⟩,x0.key,⟨true,n.entries.drop a,[],[]⟩)):=oh (by unfold zS;rw[if_pos hlf,hx0]);have HX0:=oh hx0;have hk1:(n.entries.take a).length=a:=by rw[uP];omega
 have hk2:(n.entries.drop a).length=n.entries.length-a:=u0;have HK1:=oh hk1;have HK2:=oh hk2;have hi:(a:Int)<=(n.entries.length:Int):=by omega
 clear m0 hk1 hk2 hlf hx0
 go_enter Tryz.func169, Tryz.ntmps169
 go_wp2_with fail;refine (zOm _ (n.entries.take a) (HE.out.pre a (by omega)) a HK1.out.symm (by rw[HK1.out];omega)).mono ?_;rintro e w1 ⟨a1,c1,rfl,hO1,hm1⟩;have HO1:=oh hO1;have HM1:=oh (hm1.alloc (.cells #[.bool true,.slice a1 a c1,.slice none 0 0,.slice none 0 0] 118));have b1:=(HB0.out.ext HM1.out).cell (o:=1) (v:=.slice ae n.entries.length ce) rfl;have hne:¬ ce=a:=by omega
 have hz1:w.heap.size+1+1<w1.heap.size:=by have:=hm1.size;simp at this;omega
 clear hO1 hm1;have HP2:Hid (Sl F (w1.alloc (.cells #[.bool true,.slice a1 a c1,.slice none 0 0,.slice none 0 0] 118)) 4 vA (.slice (ae.map (·.add (a * 4))) (n.entries.length-a) (ce-a)) (n.entries.drop a)):=oh (by
  have:=(HE.out.ext HM1.out).tail_ a (by omega);rw[if_neg hne] at this;exact this)
 go_wp2_with fail;refine (zOn _ (n.entries.drop a) HP2.out (n.entries.length-a) HK2.out.symm (by rw[HK2.out];omega)).mono ?_;rintro e w2 ⟨a2,c2,rfl,hO2,hm2⟩;obtain⟨g2,rfl⟩:=hO2.some' (λe0=>by have:=HK2.out;rw[e0] at this;simp at this;omega);have hk0:w2.cell? ⟨g2,0,none⟩=some (.string x0.key):=by
  obtain⟨a',c',e1,_,_,_,e5⟩:=hO2.sl yU.len (by rw[HK2.out];omega);injection e1 with e1 _ _;subst e1;obtain⟨b,off,ha,_,hF,hc⟩:=Sl.at e5 (zA.refl _ w2) (λ_ _ h=>h) 0 (by rw[HK2.out];omega);injection ha with ha;injection ha with ha1 ha2;subst ha1 ha2;have:=hc 0 (.string x0.key) (by
   have hx:(n.entries.drop a)[0]? = some x0:=by rw[rH];exact HX0.out
   have hx2:=(uB.1 hx).2;rw[hx2];rfl)
  simpa using this
 have hgl:=(hO2.lt g2 rfl).1;have hg1:g2≠w.heap.size+1:=by simp at hgl;omega
 have hg2:g2≠w.heap.size+1+1:=by simp at hgl;omega
 have hg3:=hg1.symm;have hg4:=hg2.symm;clear hgl;have HO2:=oh hO2;have HX:Hid (zL (w1.alloc (.cells #[.bool true,.slice a1 a c1,.slice none 0 0,.slice none 0 0] 118)) w1.heap.size #[.bool true,.slice a1 a c1,.slice none 0 0,.slice none 0 0] 118):=oh (zL.new _ _ _);have HM2:=oh (hm2.alloc (.cells #[.bool true,.slice (some ⟨g2,0,none⟩) (n.entries.length-a) c2,.slice none 0 0,.slice none 0 0] 118));have HMM:=oh (HM0.out.trans (HM1.out.trans HM2.out));have HXA:=oh (HX.out.ext HM2.out);have HXB:=oh (zL.new w2 #[.bool true,.slice (some ⟨g2,0,none⟩) (n.entries.length-a) c2,.slice none 0 0,.slice none 0 0] 118);have hR1:=(HR1.out.ext (HM1.out.trans HM2.out));have hR2:=(HR2.out.ext (HM1.out.trans HM2.out));have hk0:=zH hk0 (.cells #[.bool true,.slice (some ⟨g2,0,none⟩) (n.entries.length-a) c2,.slice none 0 0,.slice none 0 0] 118);have p0:=HXA.out.cell (o:=0) rfl;have p1:=HXA.out.cell (o:=1) rfl;have p2:=HXA.out.cell (o:=2) rfl;have p3:=HXA.out.cell (o:=3) rfl;have q0:=HXB.out.cell (o:=0) rfl;have q1:=HXB.out.cell (o:=1) rfl;have q2:=HXB.out.cell (o:=2) rfl;have q3:=HXB.out.cell (o:=3) rfl;have r0:=hR1.cell (o:=0) rfl;have r1:=hR1.cell (o:=1) rfl;have r2:=hR1.cell (o:=2) rfl;have r3:=hR1.cell (o:=3) rfl;have rf:=hR1.frozen;have s0:=hR2.cell (o:=0) rfl;have s1:=hR2.cell (o:=1) rfl;have s2:=hR2.cell (o:=2) rfl;have s3:=hR2.cell (o:=3) rfl;have sf:=hR2.frozen;have hl2:w1.heap.size<w2.heap.size:=by have:=hm2.size;simp at this;omega
 have hl3:(0:Int)<((n.entries.length-a:Nat):Int):=by omega
 have HRA:=oh hR1;have HRB:=oh hR2;clear hO2 hm2 hR1 hR2;go_wp2_with fail;go_region
 go_wp2_with fail;obtain⟨X0,hX0⟩:∃X0,X0=w2.alloc (.cells #[.bool true,.slice (some ⟨g2,0,none⟩) (n.entries.length-a) c2,.slice none 0 0,.slice none 0 0] 118):=⟨_,rfl⟩;rw[<- hX0] at HRA HRB HMM;have mA:=zA.set4 (F:=λk=>k=w.heap.size+1) (zA.refl _ X0) (R:=w.heap.size+1) (.inr rfl) (.bool true) (.slice a1 a c1) (.slice none 0 0) (.slice none 0 0);have hA:=HRA.out.set4 (.bool true) (.slice a1 a c1) (.slice none 0 0) (.slice none 0 0);have hB0:=HRB.out.mods mA (by omega);have hB:=hB0.set4 (.bool true) (.slice (some ⟨g2,0,none⟩) (n.entries.length-a) c2) (.slice none 0 0) (.slice none 0 0);have mB:=zA.set4 (F:=λk=>k=w.heap.size+1+1) (zA.refl _ ((((X0.setCell ⟨w.heap.size+1,0,none⟩ (.bool true)).setCell ⟨w.heap.size+1,1,none⟩ (.slice a1 a c1)).setCell ⟨w.heap.size+1,2,none⟩ (.slice none 0 0)).setCell ⟨w.heap.size+1,3,none⟩ (.slice none 0 0))) (R:=w.heap.size+1+1) (.inr rfl) (.bool true) (.slice (some ⟨g2,0,none⟩) (n.entries.length-a) c2) (.slice none 0 0) (.slice none 0 0);have hA2:=hA.mods mB (by omega);have hx:=(zA.set4 (zA.set4 HMM.out (R:=w.heap.size+1) (.inl (by omega)) (.bool true) (.slice a1 a c1) (.slice none 0 0) (.slice none 0 0)) (R:=w.heap.size+1+1) (.inl (by omega)) (.bool true) (.slice (some ⟨g2,0,none⟩) (n.entries.length-a) c2) (.slice none 0 0) (.slice none 0 0)).drew;have o1:=(((HO1.out.ext ((zA.refl _ w1).alloc (.cells #[.bool true,.slice a1 a c1,.slice none 0 0,.slice none 0 0] 118))).ext HM2.out));have o2:=HO2.out.ext ((zA.refl _ w2).alloc (.cells #[.bool true,.slice (some ⟨g2,0,none⟩) (n.entries.length-a) c2,.slice none 0 0,.slice none 0 0] 118));rw[<- hX0] at o1 o2;have hb1:=λg hg=>(o1.lt g hg).1
 have hb2:=λg hg=>(o2.lt g hg).1
 have o1':=((o1.mods mA (λg hg=>by have:=hb1 g hg;simp at this;omega)).mods mB (λg hg=>by have:=hb1 g hg;simp at this;omega)).rebase (base':=w.heap.size) (by simp;omega);have o2':=((o2.mods mA (λg hg=>by have:=hb2 g hg;simp at this;omega)).mods mB (λg hg=>by have:=hb2 g hg;simp at this;omega)).rebase (base':=w.heap.size) (by simp;omega);subst hX0;refine bodyPost_ret (zCQ rfl _ _ (w.heap.size+1) (w.heap.size+1+1) 118 118 _ _ _ rfl hA2.drew rfl hB.drew rfl Tryz.underlying118 rfl Tryz.nodeSz rfl) rfl ?_;unfold zGO;rw[HAP.out];exact⟨_,_,rfl,⟨_,_,_,rfl,o1'.ext (zA.refl _ _).drew,zU.nil _ _ _ _ _ _,zU.nil _ _ _ _ _ _⟩,⟨_,_,_,rfl,o2'.ext (zA.refl _ _).drew,zU.nil _ _ _ _ _ _,zU.nil _ _ _ _ _ _⟩,hx⟩
end
end
section
open Go.RowKit
theorem zU.lit{α:Type}{W:World}{g base:Nat}{e:TypeId}(sz:Nat)(enc:α->List Value)(henc:∀x,(enc x).length=sz)(h:zL W g #[] e)(hg:base<=g):zU (λ_=>False) W base e sz enc (.slice (some ⟨g,0,none⟩) 0 0) ([]:List α) :=
 zU.made (l:=([]:List α)) (cur:=#[]) (cap:=0) h hg (λf=>f) (uJ _) (by simp[maxLen]) (by simp) (by simp) henc
end
section
open Go.RowKit
attribute [local go_sem ↓] Go.wp_at_zero Go.wp_at_succ
theorem zU.row4{α:Type}{w1 w3:World}{base R:Nat}{e:TypeId}{sz:Nat}{enc:α->List Value}{v:Value}{l:List α}(h:zU (λ_=>False) w1 base e sz enc v l)(m:zJ w1 w3)(hb:R<base)(v0 v1 v2 v3:Value):zU (λ_=>False) ((((w3.setCell ⟨R,0,none⟩ v0).setCell ⟨R,1,none⟩ v1).setCell ⟨R,2,none⟩ v2).setCell ⟨R,3,none⟩ v3) base e sz enc v l :=
 (h.ext m).mods (zA.set4 (F:=λk=>k=R) (zA.refl _ w3) (.inr rfl) v0 v1 v2 v3) (λg hg e=>by have:=(h.lt g hg).1;omega)
section
variable {F:Nat->Prop}{w w':World}
theorem zMr(A B:List zI)(lb:Bool)(ve vk vi ue uk ui:Value)(s t:ByteArray)(hve:Sl F w 4 vA ve A)(hue:Sl F w 4 vA ue B)(hA:A.length<=100000)(hB:B.length<=100000) :
  Calls Tryz.prog 182 #[.agg #[.bool true,ve,vk,vi,.string s],.agg #[.bool lb,ue,uk,ui,.string t]] w λe w'=>∃v,e=.returned v/\zDP w' w.heap.size v ⟨true,A++B,[],[]⟩/\zJ w w':=by
 obtain⟨w0,hw0⟩:∃w0,w0=((w.alloc (.cells #[.bool true,ve,vk,vi,.string s] 197)).alloc (.cells #[.bool lb,ue,uk,ui,.string t] 197)).alloc (.cells zP 118):=⟨_,rfl⟩;have m0:zJ w w0:=by rw[hw0];exact (((zA.refl _ w).alloc _).alloc _).alloc _
 have hz:w0.heap.size=w.heap.size+1+1+1:=by rw[hw0];simp
 have hBA:zL w0 w.heap.size #[.bool true,ve,vk,vi,.string s] 197:=by rw[hw0];exact ((zL.new w _ _).alloc _).alloc _
 have hBB:zL w0 (w.heap.size+1) #[.bool lb,ue,uk,ui,.string t] 197:=by rw[hw0];exact zL.alloc (zK (by simp)) _
 have HR0:Hid (zL w0 (w.heap.size+1+1) zP 118):=oh (by rw[hw0];exact zK (by simp));have HM0:=oh m0;have HVE:=oh ((hve.ext m0).anti (G:=λ_=>False) (λ_ _ (f:False)=>f.elim));have HUE:=oh ((hue.ext m0).anti (G:=λ_=>False) (λ_ _ (f:False)=>f.elim));obtain⟨ae,ce,rfl,he1,he2,he3, -⟩:=hve;obtain⟨be,de,rfl,hf1,hf2,hf3, -⟩:=hue;have n0:=hBA.cell (o:=0) (v:=.bool true) rfl;have n1:=hBA.cell (o:=1) (v:=.slice ae A.length ce) rfl;have p1:=hBB.cell (o:=1) (v:=.slice be B.length de) rfl;have N1:=oh n1;have P1:=oh p1;have xm:=(zA.refl (λ_=>False) w0).drew;have HW0:=oh hw0;have HZ:=oh hz;have HBA:=oh hBA;have r0:=HR0.out.cell (o:=0) (v:=.bool false) rfl;have r1:=HR0.out.cell (o:=1) (v:=.slice none 0 0) rfl;have r2:=HR0.out.cell (o:=2) (v:=.slice none 0 0) rfl;have r3:=HR0.out.cell (o:=3) (v:=.slice none 0 0) rfl;have rf:=HR0.out.frozen;clear m0 hw0 hz hBA hBB
 go_enter Tryz.func182, Tryz.ntmps182
 go_wp2_with fail;unfold zP at HW0;rw[<- HW0.out];have c1a:=λo=>zC ((zA.refl (λ_=>False) w0).alloc o).drew n1
 have d1a:=λo=>zC ((zA.refl (λ_=>False) w0).alloc o).drew p1
 go_region_held3 (λw'=>w'.cell? ⟨w.heap.size,1,none⟩=some (.slice ae A.length ce)/\w'.cell? ⟨w.heap.size+1,1,none⟩=some (.slice be B.length de))
  (first|(with_reducible exact⟨n1,p1⟩)|(with_reducible exact⟨c1a _,d1a _⟩)|go_keep)
  (first
   | (refine yT Tryz.elE yU (by rfl) _ _ (by rfl) w0.heap.size (.slice (some ⟨w0.heap.size,0,none⟩) 0 0) (.slice ae A.length ce) [] A (by rfl) (by rfl) (zU.lit 4 vA yU.len (by first|exact zK (by first|(simp;done)|fail)|exact zL.alloc (zK (by first|(simp;done)|fail)) _|fail) (by omega)) (HVE.out.ext (by first|exact xm|exact xm.alloc _|fail)) (by simp only[uE];omega) (by first|(simp;done)|(simp;omega)|fail) (λf=>f) ?_;rw[uT,uE,uR];intro a1 c1 w1 hO1 hm1 hat1;have xm1:zJ w0 w1:=zA.past (by first|exact xm|exact xm.alloc _|fail) (hm1.mono (λk hk=>by simp[Value.ownBlock] at hk;omega));have n1:=zC xm1 N1.out;have p1:=zC xm1 P1.out)
   | (refine yT Tryz.elE yU (by rfl) _ _ (by rfl) w0.heap.size (.slice a1 A.length c1) (.slice be B.length de) A B (by rfl) (by rfl) hO1 (HUE.out.ext xm1) (by omega) (by have:=xm1.size;first|(simp;done)|(simp;omega)|omega|fail) (λf=>f) ?_;intro a2 c2 w2 hO2 hm2 hat2;have xm2:zJ w0 w2:=zA.past xm1 (hm2.mono (λk hk=>(hO1.lt k hk).1));have n1:=zC xm2 N1.out;have p1:=zC xm2 P1.out;have hR:=HR0.out.ext xm2;have r0:=hR.cell (o:=0) (v:=.bool false) rfl;have r1:=hR.cell (o:=1) (v:=.slice none 0 0) rfl;have r2:=hR.cell (o:=2) (v:=.slice none 0 0) rfl;have r3:=hR.cell (o:=3) (v:=.slice none 0 0) rfl;have rf:=hR.frozen;have y1:¬ w.heap.size=w.heap.size+1+1:=(by omega);have y2:¬ w.heap.size+1+1=w.heap.size:=(by omega))
   | fail)
 all_goals
  have HF:=oh ((HR0.out.ext xm2).set4 (.bool true) (.slice a2 (A.length+B.length) c2) (.slice none 0 0) (.slice none 0 0));have HE:=oh (zA.set4 (HM0.out.trans xm2) (R:=w.heap.size+1+1) (.inl (by omega)) (.bool true) (.slice a2 (A.length+B.length) c2) (.slice none 0 0) (.slice none 0 0));have HO:=oh ((hO2.row4 (zA.refl _ w2) (R:=w.heap.size+1+1) (by have:=HZ.out;omega) (.bool true) (.slice a2 (A.length+B.length) c2) (.slice none 0 0) (.slice none 0 0)).rebase (show w.heap.size<=w0.heap.size by have:=HZ.out;omega));rw[<- uC] at HO;clear hO1 hO2 hm1 hm2 hat1 hat2 xm1 xm2;go_wp2_with fail;refine bodyPost_ret (results_cell_row rfl _ _ (w.heap.size+1+1) 118 #[.bool true,.slice a2 (A.length+B.length) c2,.slice none 0 0,.slice none 0 0] (0,0) _ rfl HF.out Tryz.underlying118 rfl Tryz.nodeSz) rfl ?_;exact⟨_,rfl,⟨_,_,_,rfl,by first|exact HO.out|(rw[uC] at HO;exact HO.out),zU.nil _ _ _ _ _ _,zU.nil _ _ _ _ _ _⟩,HE.out⟩
end
end
section
open Go.RowKit
abbrev PgE:=yN × (Option Addr × Nat × Nat)
theorem zLU{α:Type}{enc:α->List Value}{sz:Nat}(henc:∀x,(enc x).length=sz):∀(l:List α) (i:Nat) (x x':α) (j:Nat) (u:Value),l[i]? = some x->j<sz->(enc x).set j u=enc x'->(l.set i x').flatMap enc=(l.flatMap enc).set (i * sz+j) u
 | [],i,x,x',j,u,h,_,_=>by simp at h
 | y :: l,0,x,x',j,u,h,hj,he=>by
  simp at h;subst h;rw[nW,wI,wI,pW,uR,<- he,List.set_append_left _ _ (by rw[henc];exact hj)]
 | y :: l,i+1,x,x',j,u,h,hj,he=>by
  rw[List.set_cons_succ,wI,wI,zLU henc l i x x' j u (by simpa using h) hj he,List.set_append_right _ _ (by rw[henc,rS];omega),henc];congr 2
  rw[rS];omega
theorem zU.set{α:Type}{F:Nat->Prop}{w:World}{base:Nat}{e:TypeId}{sz:Nat}{enc:α->List Value}{g n c:Nat}{l:List α}(h:zU F w base e sz enc (.slice (some ⟨g,0,none⟩) n c) l)(henc:∀x,(enc x).length=sz){i j:Nat}{x x':α}{u:Value}(hx:l[i]? = some x)(hj:j<sz)(he:(enc x).set j u=enc x') :
  zU F (w.setCell ⟨g,i * sz+j,none⟩ u) base e sz enc (.slice (some ⟨g,0,none⟩) n c) (l.set i x'):=by
 refine⟨?_,h.2⟩;rcases h.1.2 with ⟨h0,_⟩|⟨g',cap,cur,h0,hb,hg,h1,h2,h3,h4⟩
 .cases h0
 .injection h0 with h0 h0n h0c;injection h0 with h0;injection h0 with h0;subst h0 h0c h0n;refine⟨by rw[jE henc],.inr ⟨g,c,cur.setIfInBounds (i * sz+j) u,by rw[tV],hb,heap_setCell_same w g _ cur e u hg,by rw[tV];exact h1,h2,by simpa using h3,?_⟩⟩;rw[zLU henc l i x x' j u hx hj he,<- h4,tV];simp[List.take_set]
abbrev SlT:=Option Addr × Nat × Nat
abbrev zW(x:SlT):Value:=.slice x.1 x.2.1 x.2.2
structure PtV where
 lf:Bool
 e:SlT
 k:SlT
 i:SlT
 s:ByteArray
def zCT(x:PtV):List Value:=[.bool x.lf,zW x.e,zW x.k,zW x.i,.string x.s]
def ptV(x:PtV):Value:=.agg #[.bool x.lf,zW x.e,zW x.k,zW x.i,.string x.s]
theorem jG:zBo zCT 5:=⟨λ_=>rfl,by intro x u hu;simp[zCT,zW] at hu;rcases hu with rfl|rfl|rfl|rfl|rfl <;> rfl⟩
theorem Tryz.mkPt:(Tryz.prog.info? 197).map (λi=>(i.zero,i.size,i.bytes))=some (some (.agg #[.bool false,.slice none 0 0,.slice none 0 0,.slice none 0 0,.string ⟨#[]⟩]),5,96):=by kernel_rfl
theorem Tryz.elPt:ElT Tryz.prog 147 197 (.agg #[.bool false,.slice none 0 0,.slice none 0 0,.slice none 0 0,.string ⟨#[]⟩]) 5 96:=⟨Tryz.underlying147,Tryz.mkPt,rfl,by decide,by decide⟩
structure PtR(w:World)(base:Nat)(x:PtV)(n:zF × ByteArray):Prop where
 lf:x.lf=n.1.leaf
 fst:x.s=n.2
 e:zU NoF w base 141 4 vA (zW x.e) n.1.entries
 k:zU NoF w base 9 1 qK (zW x.k) n.1.keys
 i:zU NoF w base 3 1 yB (zW x.i) n.1.kids
structure zB1(w:World)(base:Nat)(v:Value)(xs:List PtV)(L:List (zF × ByteArray)):Prop where
 row:zU NoF w base 197 5 zCT v xs
 len:xs.length=L.length
 at_:∀(i:Nat) (x:PtV) (n:zF × ByteArray),xs[i]? = some x->L[i]? = some n->PtR w base x n
def zC5(w:World)(base:Nat)(v:Value)(L:List (zF × ByteArray)):Prop:=∃xs,zB1 w base v xs L
section
variable {w w':World}{base:Nat}{v v':Value}{x y:PtV}{n m:zF × ByteArray}{xs:List PtV}{L:List (zF × ByteArray)}
theorem PtR.mods(h:PtR w base x n){G:Nat->Prop}(hm:zA G w w')(he:∀g,(zW x.e).ownBlock=some g->¬ G g)(hk:∀g,(zW x.k).ownBlock=some g->¬ G g)(hi:∀g,(zW x.i).ownBlock=some g->¬ G g):PtR w' base x n :=
 ⟨h.lf,h.fst,h.e.mods hm he,h.k.mods hm hk,h.i.mods hm hi⟩
theorem PtR.ext(h:PtR w base x n)(hm:zJ w w'):PtR w' base x n:=⟨h.lf,h.fst,h.e.ext hm,h.k.ext hm,h.i.ext hm⟩
theorem PtR.rebase(h:PtR w base x n){b:Nat}(hb:b<=base):PtR w b x n:=⟨h.lf,h.fst,h.e.rebase hb,h.k.rebase hb,h.i.rebase hb⟩
theorem PtR.row(h:PtR w base x n){b2:Nat}{F:Nat->Prop}{ys:List PtV}(ho:zU F w b2 197 5 zCT v ys)(hm:zA (λk=>v.ownBlock=some k) w w'):PtR w' base x n :=
 h.mods hm (λg hg e=>h.e.far ho (by decide) g hg e) (λg hg e=>h.k.far ho (by decide) g hg e) (λg hg e=>h.i.far ho (by decide) g hg e)
theorem PtR.blk(h:PtR w base x n){B:Nat}{c:Array Value}{t:TypeId}(hB:zL w B c t)(hm:zA (λk=>k=B) w w')(h1:t ≠ 141)(h2:t ≠ 9)(h3:t ≠ 3):PtR w' base x n :=
 h.mods hm (λg hg e=>h.e.notB hB h1 g hg e) (λg hg e=>h.k.notB hB h2 g hg e) (λg hg e=>h.i.notB hB h3 g hg e)
theorem zDP.pt{lf:Bool}{e k i:Value}{N:zF}(h:zDP w base (.agg #[.bool lf,e,k,i]) N)(s:ByteArray):∃x:PtV,e=zW x.e/\k=zW x.k/\i=zW x.i/\lf=x.lf/\s=x.s/\PtR w base x (N,s):=by
 obtain⟨ve,vk,vi,hv,h1,h2,h3⟩:=h;injection hv with hv;simp only[Array.mk.injEq,List.cons.injEq,Value.bool.injEq,and_true] at hv;obtain⟨rfl,rfl,rfl,rfl⟩:=hv;obtain⟨a1,c1,rfl,_,_⟩:=h1.form;obtain⟨a2,c2,rfl,_,_⟩:=h2.form;obtain⟨a3,c3,rfl,_,_⟩:=h3.form;exact⟨⟨N.leaf,(a1,N.entries.length,c1),(a2,N.keys.length,c2),(a3,N.kids.length,c3),s⟩,rfl,rfl,rfl,rfl,rfl,rfl,rfl,h1,h2,h3⟩
theorem zB1.nil(w:World)(base:Nat):zB1 w base (.slice none 0 0) [] []:=⟨zU.nil _ _ _ _ _ _,rfl,λi x n h=>by simp at h⟩
theorem zB1.ext(h:zB1 w base v xs L)(hm:zJ w w'):zB1 w' base v xs L:=⟨h.row.ext hm,h.len,λi x n h1 h2=>(h.at_ i x n h1 h2).ext hm⟩
theorem zB1.rebase(h:zB1 w base v xs L){b:Nat}(hb:b<=base):zB1 w b v xs L:=⟨h.row.rebase hb,h.len,λi x n h1 h2=>(h.at_ i x n h1 h2).rebase hb⟩
theorem zB1.app(h:zB1 w base v xs L)(hm:zA (λk=>v.ownBlock=some k) w w')(ho:zU NoF w' base 197 5 zCT v' (xs++[x]))(hx:PtR w base x n):zB1 w' base v' (xs++[x]) (L++[n]):=by
 refine⟨ho,by simp[h.len],λi y m h1 h2=>?_⟩;by_cases hi:i<xs.length
 .rw[uY hi] at h1;rw[uY (by rw[<- h.len];exact hi)] at h2;exact (h.at_ i y m h1 h2).row h.row hm
 .rw[wJ (by omega)] at h1;rw[wJ (by rw[<- h.len];omega),<- h.len] at h2;obtain⟨j,hj⟩:∃j,j=i-xs.length:=⟨_,rfl⟩;rw[<- hj] at h1 h2;cases j with
  | zero =>
   simp at h1 h2;subst h1 h2;exact hx.row h.row hm
  | succ j=>simp at h1
theorem zB1.last(h:zB1 w base v (xs++[y]) (L++[m]))(hm:zA (λk=>v.ownBlock=some k) w w')(ho:zU NoF w' base 197 5 zCT v (xs++[x]))(hx:PtR w base x n):zB1 w' base v (xs++[x]) (L++[n]):=by
 have hl:xs.length=L.length:=by have:=h.len;simpa using this
 refine⟨ho,by simp[hl],λi z q h1 h2=>?_⟩;by_cases hi:i<xs.length
 .rw[uY hi] at h1;rw[uY (by omega)] at h2;exact (h.at_ i z q (by rw[uY hi];exact h1) (by rw[uY (by omega)];exact h2)).row h.row hm
 .rw[wJ (by omega)] at h1;rw[wJ (by omega),<- hl] at h2;obtain⟨j,hj⟩:∃j,j=i-xs.length:=⟨_,rfl⟩;rw[<- hj] at h1 h2;cases j with
  | zero =>
   simp at h1 h2;subst h1 h2;exact hx.row h.row hm
  | succ j=>simp at h1
theorem zU.put5{g n c:Nat}(h:zU NoF w base 197 5 zCT (.slice (some ⟨g,0,none⟩) n c) (xs++[y]))(x:PtV) :
  zU NoF (((((w.setCell ⟨g,xs.length * 5,none⟩ (.bool x.lf)).setCell ⟨g,xs.length * 5+1,none⟩ (zW x.e)).setCell ⟨g,xs.length * 5+2,none⟩ (zW x.k)).setCell ⟨g,xs.length * 5+3,none⟩ (zW x.i)).setCell ⟨g,xs.length * 5+4,none⟩ (.string x.s)) base 197 5 zCT (.slice (some ⟨g,0,none⟩) n c) (xs++[x]):=by
 have e:∀(z z':PtV),(xs++[z]).set xs.length z'=xs++[z']:=λz z'=>by simp
 have g0:∀z:PtV,(xs++[z])[xs.length]? = some z:=λz=>by simp
 have h1:=h.set jG.len (i:=xs.length) (j:=0) (x':={ y with lf:=x.lf }) (u:=.bool x.lf) (g0 _) (by omega) rfl;rw[e] at h1;have h2:=h1.set jG.len (i:=xs.length) (j:=1) (x':={ y with lf:=x.lf,e:=x.e }) (u:=zW x.e) (g0 _) (by omega) rfl;rw[e] at h2;have h3:=h2.set jG.len (i:=xs.length) (j:=2) (x':={ y with lf:=x.lf,e:=x.e,k:=x.k }) (u:=zW x.k) (g0 _) (by omega) rfl;rw[e] at h3;have h4:=h3.set jG.len (i:=xs.length) (j:=3) (x':={ y with lf:=x.lf,e:=x.e,k:=x.k,i:=x.i }) (u:=zW x.i) (g0 _) (by omega) rfl;rw[e] at h4;have h5:=h4.set jG.len (i:=xs.length) (j:=4) (x':=x) (u:=.string x.s) (g0 _) (by omega) rfl;rw[e] at h5;exact h5
theorem zA.put5{g:Nat}(w:World)(o n q:Nat)(a b c d e:Value):zA (λk=>(Value.slice (some ⟨g,0,none⟩) n q).ownBlock=some k) w (((((w.setCell ⟨g,o,none⟩ a).setCell ⟨g,o+1,none⟩ b).setCell ⟨g,o+2,none⟩ c).setCell ⟨g,o+3,none⟩ d).setCell ⟨g,o+4,none⟩ e) :=
 (((((zA.refl (λk=>(Value.slice (some ⟨g,0,none⟩) n q).ownBlock=some k) w).setCell (p:=⟨g,o,none⟩) (.inr rfl) a).setCell (p:=⟨g,o+1,none⟩) (.inr rfl) b).setCell (p:=⟨g,o+2,none⟩) (.inr rfl) c).setCell (p:=⟨g,o+3,none⟩) (.inr rfl) d).setCell (p:=⟨g,o+4,none⟩) (.inr rfl) e
end
structure zCo{α:Type}(e:TypeId)(sz:Nat)(enc:α->List Value)(w0:World)(es:List α)(y:α)(src:Value)(b0 b3 b4 b6 b7:Bool)(u5 u8 u9 u11 u12:Value)(w:World):Prop where
 ext:zJ w0 w
 f0:b0=true->b4=false->zU NoF w w0.heap.size e sz enc u5 ([]:List α)
 f3:b3=true->u8=src
 f4:b4=true->b7=false->∃a1 c1,u9=.slice a1 es.length c1/\zU NoF w w0.heap.size e sz enc u9 es
 f6:b6=true->b7=false->∃g,u11=.slice (some ⟨g,0,none⟩) 1 1/\zL w g (enc y).toArray e/\(b4=false->b0=true->∀k,u5.ownBlock=some k->k≠g)
 f7:b7=true->∃a2 c2,u12=.slice a2 (es.length+1) c2/\zU NoF w w0.heap.size e sz enc u12 (es++[y])
 g7:b7=true->b4=true
section
variable {α:Type}{e:TypeId}{sz:Nat}{enc:α->List Value}{w0:World}{es:List α}{y:α}{src:Value}{b0 b3 b4 b6 b7:Bool}{u5 u8 u9 u11 u12:Value}{w w':World}
theorem zCo.start(m:zJ w0 w):zCo e sz enc w0 es y src false false false false false u5 u8 u9 u11 u12 w:=by
 constructor <;> first|exact m|(intro h;cases h)
theorem zCo.lit0(h:zCo e sz enc w0 es y src b0 b3 b4 b6 b7 u5 u8 u9 u11 u12 w)(henc:∀x,(enc x).length=sz):zCo e sz enc w0 es y src true b3 b4 b6 b7 (.slice (some ⟨w.heap.size,0,none⟩) 0 0) u8 u9 u11 u12 (w.alloc (.cells #[] e)):=by
 have m:zJ w (w.alloc (.cells #[] e)):=(zA.refl _ w).alloc _;refine⟨h.ext.trans m,λ_ _=>zU.lit sz enc henc (zL.new w _ _) h.ext.size,h.f3,λh1 h2=>?_,λh1 h2=>?_,λh1=>?_,h.g7⟩
 .obtain⟨a1,c1,h3,h4⟩:=h.f4 h1 h2;exact⟨a1,c1,h3,h4.ext m⟩
 .obtain⟨g,h3,h4,_⟩:=h.f6 h1 h2;exact⟨g,h3,h4.ext m,λ_ _ k hk=>by simp[Value.ownBlock] at hk;have:=h4.lt;omega⟩
 .obtain⟨a1,c1,h3,h4⟩:=h.f7 h1;exact⟨a1,c1,h3,h4.ext m⟩
theorem zCo.lit1(h:zCo e sz enc w0 es y src b0 b3 b4 b6 b7 u5 u8 u9 u11 u12 w):zCo e sz enc w0 es y src b0 b3 b4 true b7 u5 u8 u9 (.slice (some ⟨w.heap.size,0,none⟩) 1 1) u12 (w.alloc (.cells (enc y).toArray e)):=by
 have m:zJ w (w.alloc (.cells (enc y).toArray e)):=(zA.refl _ w).alloc _;refine⟨h.ext.trans m,λh1 h2=>(h.f0 h1 h2).ext m,h.f3,λh1 h2=>?_,λ_ _=>⟨w.heap.size,rfl,zL.new w _ _,λh1 h2 k hk=>by have:=(h.f0 h2 h1).lt k hk;omega⟩,λh1=>?_,h.g7⟩
 .obtain⟨a1,c1,h3,h4⟩:=h.f4 h1 h2;exact⟨a1,c1,h3,h4.ext m⟩
 .obtain⟨a1,c1,h3,h4⟩:=h.f7 h1;exact⟨a1,c1,h3,h4.ext m⟩
theorem zCo.ld(h:zCo e sz enc w0 es y src b0 b3 b4 b6 b7 u5 u8 u9 u11 u12 w):zCo e sz enc w0 es y src b0 true b4 b6 b7 u5 src u9 u11 u12 w:=⟨h.ext,h.f0,λ_=>rfl,h.f4,h.f6,h.f7,h.g7⟩
theorem zCo.app1{a:Option Addr}{c:Nat}(h:zCo e sz enc w0 es y src true true false b6 b7 u5 u8 u9 u11 u12 w)(o:zU NoF w' w0.heap.size e sz enc (.slice a es.length c) es)(m:zA (λk=>u5.ownBlock=some k) w w'):zCo e sz enc w0 es y src true true true b6 b7 u5 u8 (.slice a es.length c) u11 u12 w':=by
 refine⟨zA.past h.ext (m.mono (λk hk=>((h.f0 rfl rfl).lt k hk).1)),λ_ h2=>(by cases h2),h.f3,λ_ _=>⟨a,c,rfl,o⟩,λh1 h2=>?_,λh1=>?_,λ_=>rfl⟩
 .obtain⟨g,h3,h4,h5⟩:=h.f6 h1 h2;exact⟨g,h3,h4.mods m (λhk=>h5 rfl rfl g hk rfl),λhb=>by cases hb⟩
 .have:=h.g7 h1;cases this
theorem zCo.app2{a:Option Addr}{c:Nat}(h:zCo e sz enc w0 es y src b0 b3 true true false u5 u8 u9 u11 u12 w)(o:zU NoF w' w0.heap.size e sz enc (.slice a (es.length+1) c) (es++[y]))(m:zA (λk=>u9.ownBlock=some k) w w'):zCo e sz enc w0 es y src b0 b3 true true true u5 u8 u9 u11 (.slice a (es.length+1) c) w':=by
 obtain⟨_,_,_,h4⟩:=h.f4 rfl rfl;exact⟨zA.past h.ext (m.mono (λk hk=>(h4.lt k hk).1)),λ_ h2=>by (cases h2),h.f3,λ_ h2=>by (cases h2),λ_ h2=>by (cases h2),λ_=>⟨a,c,rfl,o⟩,λ_=>rfl⟩
end
end
section
open Go.RowKit
attribute [local go_sem ↓] Go.wp_at_zero Go.wp_at_succ
structure jN(F P:Nat->Prop)(w0 wr:World)(b:Nat)(c:Array Value)(t:TypeId):Prop where
 blk:zL wr b c t
 f:F b
 p:¬ P b
 new:w0.heap.size<=b
section
variable {P P' F F':Nat->Prop}{ad:Nat->Addr}{w0 w w':World}{b b2:Nat}{c c2:Array Value}{t t2:TypeId}
theorem jN.nxt(h:jN F P w0 w b c t)(n:zR P P' F F' ad w w'):jN F' P' w0 w' b c t:=⟨n.blk h.blk h.p,n.grow b h.f,n.not h.blk.lt h.p,h.new⟩
theorem jN.ext(h:jN F P w0 w b c t)(m:zJ w w'):jN F P w0 w' b c t:=⟨h.blk.ext m,h.f,h.p,h.new⟩
theorem jN.other(h:jN F P w0 w b c t){b2:Nat}(m:zA (λk=>k=b2) w w')(hb:b≠b2):jN F P w0 w' b c t:=⟨h.blk.mods m hb,h.f,h.p,h.new⟩
end
section
variable {P P0 F F0:Nat->Prop}{ad:Nat->Addr}{w0 w w':World}{b:Nat}{cc:Array Value}{t:TypeId}{c s:Nat}{G:GA}{l:List Nat}
theorem yS.var(h:yS F w P c s G l)(v:jN F P w0 w b cc t)(m:zA (λk=>k=b) w w'):yS F w' P c s G l:=h.res m v.p v.f
theorem zR.var(n:zR P0 P F0 F ad w0 w)(v:jN F P w0 w b cc t)(m:zA (λk=>k=b) w w'):zR P0 P F0 F ad w0 w':=n.resD m v.new v.f
theorem jN.put(v:jN F P w0 w b cc t)(i:Nat)(x:Value):jN F P w0 (w.setCell ⟨b,i,none⟩ x) b (cc.setIfInBounds i x) t:=⟨v.blk.set i x,v.f,v.p,v.new⟩
theorem jN.mF(v:jN F P w0 w b cc t)(m:zA (λk=>k=b) w w'):zA F w w':=m.mono (λ_ hk=>hk ▸ v.f)
end
def zIX(o:zBY):Array Value:=#[.int .i64 (o.id0:Int),.int .i64 (o.id1:Int),.string o.key,.bool o.two,.bool o.news]
def zRd:zBY:=⟨0,0,e0,false,false⟩
abbrev zAD:Array Value:=#[.int .i64 0,.int .i64 0,.string ⟨#[]⟩,.bool false,.bool false]
def zMs(F P:Nat->Prop)(ad:Nat->Addr)(w:World)(c s:Nat)(G:GA)(l:List Nat)(r:StA zBY)(e:Ending)(w':World):Prop :=
  ∃(P' F':Nat->Prop) (G':GA) (l':List Nat),yS F' w' P' c s G' l'/\zR P P' F F' ad w w' /\
    ((∃ o, r = .inl (G', l', o) /\ e = .returned (.tuple #[.agg (zIX o), .nilIface])) \/
     (∃k o f el,r=.inr k/\FrG G l G' l'/\e=.returned (.tuple #[.agg (zIX o),zQ f])/\qQ F' ad w' (zQ f) el k))
theorem Tryz.outSz:(Tryz.prog.info? 113).map (·.size)=some 5:=by kernel_rfl
theorem zCe(G:GA)(l:List Nat)(gen old:Nat)(n:zF):(yD G l gen old n).size=G.size/\(yD G l gen old n).blocks=G.blocks/\(yD G l gen old n).cost<=G.cost+1:=by
 unfold yD;split
 .exact⟨rfl,rfl,by omega⟩
 .obtain⟨h1,h2,h3⟩:=zDk G l old;exact⟨h1,h2,by show (vV G l old).cost+1<=_;omega⟩
structure zH0(G:GA)(l:List Nat)(old:Nat)(n:zF):Prop where
 place:vG l old
 low:zGK l
 len:l.length<=G.blocks
 cost:G.cost+10<=1000000
 wt:zD n<=100000
 bytes:zM n=true->(zZ n).length<=100000
 cut:¬ zD n<=(G.size:Int)-24->∃a k b,zDX n=some (a,k,b)/\zD a<=(G.size:Int)-24/\zD b<=(G.size:Int)-24
 few:n.entries.length<=100000/\n.keys.length<=100000/\n.kids.length<=100000
section
variable {P P' F F':Nat->Prop}{ad:Nat->Addr}{w w':World}{c s:Nat}{G:GA}{l:List Nat}
theorem zLV(n:zF)(hF:zD n<=(G.size:Int)-24)(hL:yW F ad w)(hP:∀k,P k->F k)(h:yS F w P c s G l)(gen old:Nat)(hgen:gen<18446744073709551616)(ve vk vi:Value)(hve:Sl F w 4 vA ve n.entries)(hvk:Sl F w 1 qK vk n.keys)(hvi:Sl F w 1 yB vi n.kids)(hok:zH0 G l old n) :
  Calls Tryz.prog 93 #[qR c s gen,.int .i64 (old:Int),.agg #[.bool n.leaf,ve,vk,vi]] w (zMs F P ad w c s G l (vF G l gen old n)):=by
 have HFF:=oh hF;clear hF;obtain⟨w1,hw1⟩:∃w1,w1=(((w.alloc (gP c s gen)).alloc (.cells #[.bool n.leaf,ve,vk,vi] 118)).alloc (.cells zAD 113)).alloc (.cells zAD 113):=⟨_,rfl⟩;have m0:zJ w w1:=by rw[hw1];exact ((((zA.refl _ w).alloc _).alloc _).alloc _).alloc _
 have hz:w1.heap.size=w.heap.size+4:=by rw[hw1];simp
 have hN:zR P P F (λk=>F k\/(w.heap.size<=k/\k<w1.heap.size)) ad w w1:=zR.new hL hP (Q:=λk=>w.heap.size<=k/\k<w1.heap.size) m0 (λk hk=>hk.1) (λk hk=>hk.2);have HB:=oh (show jN (λk=>F k\/(w.heap.size<=k/\k<w1.heap.size)) P w w1 w.heap.size (gP c s gen) 31 from ⟨by rw[hw1];exact (((zL.new w _ _).alloc _).alloc _).alloc _,.inr ⟨by omega,by omega⟩,λhp=>by have:=h.bd _ hp;omega,by omega⟩);have HD:=oh (show jN (λk=>F k\/(w.heap.size<=k/\k<w1.heap.size)) P w w1 (w.heap.size+1) #[.bool n.leaf,ve,vk,vi] 118 from ⟨by rw[hw1];exact ((show zL ((w.alloc _).alloc (.cells #[.bool n.leaf,ve,vk,vi] 118)) (w.heap.size+1) #[.bool n.leaf,ve,vk,vi] 118 from zK (by simp)).alloc _).alloc _,.inr ⟨by omega,by omega⟩,λhp=>by have:=h.bd _ hp;omega,by omega⟩);have HR:=oh (show jN (λk=>F k\/(w.heap.size<=k/\k<w1.heap.size)) P w w1 (w.heap.size+1+1) zAD 113 from ⟨by rw[hw1];exact (show zL (((w.alloc _).alloc _).alloc (.cells zAD 113)) (w.heap.size+1+1) zAD 113 from zK (by simp)).alloc _,.inr ⟨by omega,by omega⟩,λhp=>by have:=h.bd _ hp;omega,by omega⟩);have HO:=oh (show jN (λk=>F k\/(w.heap.size<=k/\k<w1.heap.size)) P w w1 (w.heap.size+1+1+1) zAD 113 from ⟨by rw[hw1];exact zK (by simp),.inr ⟨by omega,by omega⟩,λhp=>by have:=h.bd _ hp;omega,by omega⟩);have HG:=oh (h.plusNew hP (Q:=λk=>w.heap.size<=k/\k<w1.heap.size) m0 (λk hk=>hk.1));have HVE:=oh (hN.sl hP hve);have HVK:=oh (hN.sl hP hvk);have HVI:=oh (hN.sl hP hvi);have HLIM:=oh h.lim;have HN:=oh hN;have HOK:=oh hok;have HSZ:=oh (λW (m:zJ w1 W)=>zDf (HG.out.at m) gen);have HFT:Hid (∀W,zJ w1 W -> Calls Tryz.prog 97 #[.agg #[.bool n.leaf,ve,vk,vi],.int .i64 (G.size:Int)] W λe w'=>e=.returned (.bool (decide (zD n<=(G.size:Int)-24)))/\zJ W w'):=oh (λW m=>zCC n ve vk vi W (HVE.out.ext m) (HVK.out.ext m) (by have:=hok.wt;omega) _ (by omega) (by have:=HLIM.out;omega));obtain⟨ea,ec,rfl,_,_,_,_⟩:=hve;obtain⟨ka,kc,rfl,_,_,_,_⟩:=hvk;obtain⟨ia,ic,rfl,_,_,_,_⟩:=hvi;have b0:=HB.out.blk.cell (o:=0) rfl;have b1:=HB.out.blk.cell (o:=1) rfl;have b2:=HB.out.blk.cell (o:=2) rfl;have n0:=HD.out.blk.cell (o:=0) rfl;have n1:=HD.out.blk.cell (o:=1) rfl;have n2:=HD.out.blk.cell (o:=2) rfl;have n3:=HD.out.blk.cell (o:=3) rfl;have HW1:=oh hw1;clear hL hP h m0 hN hok hw1;unfold qR at HSZ ⊢
 go_enter Tryz.func93, Tryz.ntmps93
 go_wp2_with fail;rw[<- HW1.out];go_cut [17] (λv17 wx=>v17=.bool (decide (zD n<=(G.size:Int)-24))/\Hid (zJ w1 wx))
 case first =>
  go_region_held3 (λw'=>w'.cell? ⟨w.heap.size+1,0,none⟩=some (.bool n.leaf)/\w'.cell? ⟨w.heap.size+1,1,none⟩=some (.slice ea n.entries.length ec)/\w'.cell? ⟨w.heap.size+1,2,none⟩=some (.slice ka n.keys.length kc)/\w'.cell? ⟨w.heap.size+1,3,none⟩=some (.slice ia n.kids.length ic) /\
    w'.cell? ⟨w.heap.size,0,none⟩=some (.pointer (some ⟨c,0,none⟩))/\w'.cell? ⟨w.heap.size,1,none⟩=some (.pointer (some ⟨s,0,none⟩))/\w'.cell? ⟨w.heap.size,2,none⟩=some (.int .u64 (gen:Int)))
   (first|(with_reducible exact⟨n0,n1,n2,n3,b0,b1,b2⟩)|(with_reducible exact⟨y0,y1,y2,y3,d0,d1,d2⟩)|(with_reducible exact⟨z0,z1,z2,z3,f0,f1,f2⟩)|go_keep)
   (first
    | (go_at_call 98;(with_reducible refine (HSZ.out _ (zA.refl _ w1).drew).mono ?_);rintro e w2 ⟨rfl,hm2⟩;have y0:=zC hm2 n0;have y1:=zC hm2 n1;have y2:=zC hm2 n2;have y3:=zC hm2 n3;have d0:=zC hm2 b0;have d1:=zC hm2 b1;have d2:=zC hm2 b2)
    | (go_at_call 97;refine (HFT.out _ ((zA.refl _ w1).drew.trans hm2)).mono ?_;rintro e w3 ⟨rfl,hm3⟩;have z0:=zC hm3 y0;have z1:=zC hm3 y1;have z2:=zC hm3 y2;have z3:=zC hm3 y3;have f0:=zC hm3 d0;have f1:=zC hm3 d1;have f2:=zC hm3 d2)
    | fail)
  all_goals
   go_wp2_with fail;go_meet;exact⟨rfl,oh ((zA.refl _ w1).drew.trans (hm2.trans hm3))⟩
 obtain⟨rfl,HX⟩:=hcut;have HB:=oh (HB.out.ext HX.out);have HD:=oh (HD.out.ext HX.out);have HR:=oh (HR.out.ext HX.out);have HO:=oh (HO.out.ext HX.out);have HN1:=oh (HN.out.trans (zR.ext HN.out.env HN.out.sub HX.out));have HG:=oh (HG.out.at HX.out);have b0:=HB.out.blk.cell (o:=0) rfl;have b1:=HB.out.blk.cell (o:=1) rfl;have b2:=HB.out.blk.cell (o:=2) rfl;have n0:=HD.out.blk.cell (o:=0) rfl;have n1:=HD.out.blk.cell (o:=1) rfl;have n2:=HD.out.blk.cell (o:=2) rfl;have n3:=HD.out.blk.cell (o:=3) rfl;cases hfit:decide (zD n<=(G.size:Int)-24) with
 | true =>
  have HFT:=oh (rU hfit);have HDW:=oh (zEF HN1.out.env HN1.out.sub HG.out gen old hgen n _ _ _ (HVE.out.ext HX.out) (HVK.out.ext HX.out) (HVI.out.ext HX.out) HOK.out.bytes HOK.out.place.ok HOK.out.place.two (HOK.out.place.lt (by have:=HLIM.out;omega)) HOK.out.len (by have:=HOK.out.cost;omega));unfold qR at HDW;clear hfit;go_wp2_with fail;refine HDW.out.mono ?_;rintro e w2 ⟨P2,F2,hG2,hN2,hr⟩;have HR2:=oh (HR.out.nxt hN2);have hO2:=HO.out.nxt hN2;have HG2:=oh hG2;have HN2:=oh (HN1.out.trans hN2);have o0:=hO2.blk.cell (o:=0) rfl;have o1:=hO2.blk.cell (o:=1) rfl;have o2:=hO2.blk.cell (o:=2) rfl;have o3:=hO2.blk.cell (o:=3) rfl;have o4:=hO2.blk.cell (o:=4) rfl;have of:=hO2.blk.frozen;have HO2:=oh hO2;have r0:=HR2.out.blk.cell (o:=0) rfl;have r1:=HR2.out.blk.cell (o:=1) rfl;have r2:=HR2.out.blk.cell (o:=2) rfl;have r3:=HR2.out.blk.cell (o:=3) rfl;have r4:=HR2.out.blk.cell (o:=4) rfl;have rf:=HR2.out.blk.frozen;clear hG2 hN2 hO2;rcases hr with ⟨i,hi,rfl⟩|⟨hi,f,el,rfl,hE⟩
  .have HSA:Hid (vF G l gen old n=.inl (yD G l gen old n,yO G l old n,⟨i,0,e0,false,false⟩)):=oh (by unfold vF;rw[if_pos HFT.out,hi]);clear hi;go_wp2_with fail;have mO:=zA.at (λk=>k=w.heap.size+1+1+1) w2 (w.heap.size+1+1+1) 0 (.int .i64 (i:Int)) rfl;have g3:=HG2.out.var HO2.out mO;have n3:=HN2.out.var HO2.out mO;have r3:=HR2.out.other mO (by omega);have mR:=zA.set5 (F:=λk=>k=w.heap.size+1+1) (zA.refl _ (w2.setCell ⟨w.heap.size+1+1+1,0,none⟩ (.int .i64 (i:Int)))) (R:=w.heap.size+1+1) (.inr rfl) (.int .i64 (i:Int)) (.int .i64 0) (.string ⟨#[]⟩) (.bool false) (.bool false);have bR:=r3.blk.set5 (.int .i64 (i:Int)) (.int .i64 0) (.string ⟨#[]⟩) (.bool false) (.bool false);refine bodyPost_ret (zG rfl _ _ (w.heap.size+1+1) 113 _ _ rfl bR Tryz.underlying113 rfl Tryz.outSz) rfl ?_;exact⟨P2,F2,_,_,g3.var r3 mR,n3.var r3 mR,.inl ⟨_,HSA.out,rfl⟩⟩
  .have HSA:Hid (vF G l gen old n=.inr (zAp G n)):=oh (by unfold vF;rw[if_pos HFT.out,hi]);have HFR:Hid (FrG G l (yD G l gen old n) (yO G l old n)):=oh (zJ6 HOK.out.place (by rw[HOK.out.low.1];simp));have HE:=oh hE;clear hi hE;go_wp2_with fail;have mO:=zA.at (λk=>k=w.heap.size+1+1+1) w2 (w.heap.size+1+1+1) 0 (.int .i64 0) rfl;have g3:=HG2.out.var HO2.out mO;have n3:=HN2.out.var HO2.out mO;have r3:=HR2.out.other mO (by omega);have mR:=zA.set5 (F:=λk=>k=w.heap.size+1+1) (zA.refl _ (w2.setCell ⟨w.heap.size+1+1+1,0,none⟩ (.int .i64 0))) (R:=w.heap.size+1+1) (.inr rfl) (.int .i64 0) (.int .i64 0) (.string ⟨#[]⟩) (.bool false) (.bool false);have bR:=r3.blk.set5 (.int .i64 0) (.int .i64 0) (.string ⟨#[]⟩) (.bool false) (.bool false);refine bodyPost_ret (zG rfl _ _ (w.heap.size+1+1) 113 _ _ rfl bR Tryz.underlying113 rfl Tryz.outSz) rfl ?_;exact⟨P2,F2,_,_,g3.var r3 mR,n3.var r3 mR,.inr ⟨_,zRd,_,_,HSA.out,HFR.out,rfl,(HE.out.mods (HO2.out.mF mO)).mods (r3.mF mR)⟩⟩
 | false=>exact absurd HFF.out (of_decide_eq_false hfit)
end
end
end Go.Proofs.YtchklfmggpconaaGreatDoor
