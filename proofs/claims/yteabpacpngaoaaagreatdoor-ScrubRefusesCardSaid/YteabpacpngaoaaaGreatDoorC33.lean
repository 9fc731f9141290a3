import Derived.Test.YteabpacpngaoaaaGreatDoorC32
namespace Go.Proofs.YteabpacpngaoaaaGreatDoor
open Lib renaming hid->oh
set_option maxHeartbeats 1000000
set_option maxRecDepth 100000
section
open Go.RowKit
attribute [local go_sem ↓] Go.wp_at_zero Go.wp_at_succ
def zLP(w:World)(base:Nat)(v:Value)(n:zJ):Prop :=
 ∃ve vk vi,v=.agg #[.bool n.leaf,ve,vk,vi]/\yC (λ_=>False) w base 228 4 zAO ve n.entries/\yC (λ_=>False) w base 9 1 vZ vk n.keys/\yC (λ_=>False) w base 3 1 yK vi n.kids
theorem yC.slF{α:Type}{F:Nat->Prop}{w:World}{base:Nat}{e:TypeId}{sz:Nat}{enc:α->List Value}{v:Value}{l:List α}(h:yC (λ_=>False) w base e sz enc v l)(hF:∀k,F k->k<base)(henc:∀x,(enc x).length=sz)(hl:l.length<=140737488355328):Sl F w sz enc v l :=
 (h.blocks (G:=F) (λg hg hf=>by have:=(h.lt g hg).1;have:=hF g hf;omega)).sl henc hl
def zGI(w:World)(x:zJ × ByteArray × zJ)(e:Ending)(w':World):Prop :=
 ∃va vb,e=.returned (.tuple #[va,.string x.2.1,vb])/\zLP w' w.heap.size va x.1/\zLP w' w.heap.size vb x.2.2/\zF w w'
theorem yC.some'{α:Type}{F:Nat->Prop}{w:World}{base:Nat}{e:TypeId}{sz:Nat}{enc:α->List Value}{a:Option Addr}{n c:Nat}{l:List α}(h:yC F w base e sz enc (.slice a n c) l)(hl:l≠[]):∃g,a=some ⟨g,0,none⟩:=by
 rcases h.1.2 with ⟨_,h0⟩|⟨g,cap,cur,h0,_⟩
 .exact absurd (List.eq_nil_of_length_eq_zero h0) hl
 .injection h0 with h0 _ _;exact⟨g,h0⟩
section
variable {F:Nat->Prop}{w w':World}
theorem Tryz.nodeSz:(Tryz.prog.info? 174).map (·.size)=some 4:=by kernel_rfl
abbrev zP:Array Value:=#[.bool false,.slice none 0 0,.slice none 0 0,.slice none 0 0]
theorem zMn(n:zJ)(hlf:n.leaf=true)(ve vk vi:Value)(hve:Sl F w 4 zAO ve n.entries)(a:Nat)(ha:1<=a/\a<n.entries.length)(hb:n.entries.length<=100000) :
  Calls Tryz.prog 274 #[.agg #[.bool true,ve,vk,vi],.int .i64 (a:Int)] w (zGI w (zU n a)):=by
 have m0:zF w (((w.alloc (.cells #[.bool true,ve,vk,vi] 174)).alloc (.cells zP 174)).alloc (.cells zP 174)):=(((zA.refl _ w).alloc _).alloc _).alloc _;have HB0:=oh (((zH.new w #[.bool true,ve,vk,vi] 174).alloc (.cells zP 174)).alloc (.cells zP 174));have HR1:Hid (zH (((w.alloc (.cells #[.bool true,ve,vk,vi] 174)).alloc (.cells zP 174)).alloc (.cells zP 174)) (w.heap.size+1) zP 174):=oh ((show zH ((w.alloc (.cells #[.bool true,ve,vk,vi] 174)).alloc (.cells zP 174)) (w.heap.size+1) zP 174 from zR (by simp)).alloc _);have HR2:Hid (zH (((w.alloc (.cells #[.bool true,ve,vk,vi] 174)).alloc (.cells zP 174)).alloc (.cells zP 174)) (w.heap.size+1+1) zP 174):=oh (zR (by simp));have HM0:=oh m0;have HE:=oh (hve.ext m0);obtain⟨ae,ce,rfl,he1,he2,he3,_⟩:=hve;unfold maxLen at he2;obtain⟨x0,hx0⟩:∃x0,n.entries[a]? = some x0:=⟨_,List.getElem?_eq_getElem ha.2⟩;have HAP:Hid (zU n a=(⟨true,n.entries.take a,[],[]⟩,x0.key,⟨true,n.entries.drop a,[],[]⟩)):=oh (by unfold zU;rw[if_pos hlf,hx0]);have HX0:=oh hx0;have hk1:(n.entries.take a).length=a:=by rw[List.length_take];omega
 have hk2:(n.entries.drop a).length=n.entries.length-a:=List.length_drop;have HK1:=oh hk1;have HK2:=oh hk2;have hi:(a:Int)<=(n.entries.length:Int):=by omega
 clear m0 hk1 hk2 hlf hx0
 go_enter Tryz.func274, Tryz.ntmps274
 go_wp2_with fail;refine (zOU _ (n.entries.take a) (HE.out.pre a (by omega)) a HK1.out.symm (by rw[HK1.out];omega)).mono ?_;rintro e w1 ⟨a1,c1,rfl,hO1,hm1⟩;have HO1:=oh hO1;have HM1:=oh (hm1.alloc (.cells #[.bool true,.slice a1 a c1,.slice none 0 0,.slice none 0 0] 174));have b1:=(HB0.out.ext HM1.out).cell (o:=1) (v:=.slice ae n.entries.length ce) rfl;have hne:¬ ce=a:=by omega
 have hz1:w.heap.size+1+1<w1.heap.size:=by have:=hm1.size;simp at this;omega
 clear hO1 hm1;have HP2:Hid (Sl F (w1.alloc (.cells #[.bool true,.slice a1 a c1,.slice none 0 0,.slice none 0 0] 174)) 4 zAO (.slice (ae.map (·.add (a * 4))) (n.entries.length-a) (ce-a)) (n.entries.drop a)):=oh (by
  have:=(HE.out.ext HM1.out).tail_ a (by omega);rw[if_neg hne] at this;exact this)
 go_wp2_with fail;refine (zOV _ (n.entries.drop a) HP2.out (n.entries.length-a) HK2.out.symm (by rw[HK2.out];omega)).mono ?_;rintro e w2 ⟨a2,c2,rfl,hO2,hm2⟩;obtain⟨g2,rfl⟩:=hO2.some' (λe0=>by have:=HK2.out;rw[e0] at this;simp at this;omega);have hk0:w2.cell? ⟨g2,0,none⟩=some (.string x0.key):=by
  obtain⟨a',c',e1,_,_,_,e5⟩:=hO2.sl zBV.len (by rw[HK2.out];omega);injection e1 with e1 _ _;subst e1;obtain⟨b,off,ha,_,hF,hc⟩:=Sl.at e5 (zA.refl _ w2) (λ_ _ h=>h) 0 (by rw[HK2.out];omega);injection ha with ha;injection ha with ha1 ha2;subst ha1 ha2;have:=hc 0 (.string x0.key) (by
   have hx:(n.entries.drop a)[0]? = some x0:=by rw[List.getElem?_drop];exact HX0.out
   have hx2:=(List.getElem?_eq_some_iff.1 hx).2;rw[hx2];rfl)
  simpa using this
 have hgl:=(hO2.lt g2 rfl).1;have hg1:g2≠w.heap.size+1:=by simp at hgl;omega
 have hg2:g2≠w.heap.size+1+1:=by simp at hgl;omega
 have hg3:=hg1.symm;have hg4:=hg2.symm;clear hgl;have HO2:=oh hO2;have HX:Hid (zH (w1.alloc (.cells #[.bool true,.slice a1 a c1,.slice none 0 0,.slice none 0 0] 174)) w1.heap.size #[.bool true,.slice a1 a c1,.slice none 0 0,.slice none 0 0] 174):=oh (zH.new _ _ _);have HM2:=oh (hm2.alloc (.cells #[.bool true,.slice (some ⟨g2,0,none⟩) (n.entries.length-a) c2,.slice none 0 0,.slice none 0 0] 174));have HMM:=oh (HM0.out.trans (HM1.out.trans HM2.out));have HXA:=oh (HX.out.ext HM2.out);have HXB:=oh (zH.new w2 #[.bool true,.slice (some ⟨g2,0,none⟩) (n.entries.length-a) c2,.slice none 0 0,.slice none 0 0] 174);have hR1:=(HR1.out.ext (HM1.out.trans HM2.out));have hR2:=(HR2.out.ext (HM1.out.trans HM2.out));have hk0:=zM hk0 (.cells #[.bool true,.slice (some ⟨g2,0,none⟩) (n.entries.length-a) c2,.slice none 0 0,.slice none 0 0] 174);have p0:=HXA.out.cell (o:=0) rfl;have p1:=HXA.out.cell (o:=1) rfl;have p2:=HXA.out.cell (o:=2) rfl;have p3:=HXA.out.cell (o:=3) rfl;have q0:=HXB.out.cell (o:=0) rfl;have q1:=HXB.out.cell (o:=1) rfl;have q2:=HXB.out.cell (o:=2) rfl;have q3:=HXB.out.cell (o:=3) rfl;have r0:=hR1.cell (o:=0) rfl;have r1:=hR1.cell (o:=1) rfl;have r2:=hR1.cell (o:=2) rfl;have r3:=hR1.cell (o:=3) rfl;have rf:=hR1.frozen;have s0:=hR2.cell (o:=0) rfl;have s1:=hR2.cell (o:=1) rfl;have s2:=hR2.cell (o:=2) rfl;have s3:=hR2.cell (o:=3) rfl;have sf:=hR2.frozen;have hl2:w1.heap.size<w2.heap.size:=by have:=hm2.size;simp at this;omega
 have hl3:(0:Int)<((n.entries.length-a:Nat):Int):=by omega
 have HRA:=oh hR1;have HRB:=oh hR2;clear hO2 hm2 hR1 hR2;go_wp2_with fail;go_region
 go_wp2_with fail;obtain⟨X0,hX0⟩:∃X0,X0=w2.alloc (.cells #[.bool true,.slice (some ⟨g2,0,none⟩) (n.entries.length-a) c2,.slice none 0 0,.slice none 0 0] 174):=⟨_,rfl⟩;rw[<- hX0] at HRA HRB HMM;have mA:=zA.set4 (F:=λk=>k=w.heap.size+1) (zA.refl _ X0) (R:=w.heap.size+1) (.inr rfl) (.bool true) (.slice a1 a c1) (.slice none 0 0) (.slice none 0 0);have hA:=HRA.out.set4 (.bool true) (.slice a1 a c1) (.slice none 0 0) (.slice none 0 0);have hB0:=HRB.out.mods mA (by omega);have hB:=hB0.set4 (.bool true) (.slice (some ⟨g2,0,none⟩) (n.entries.length-a) c2) (.slice none 0 0) (.slice none 0 0);have mB:=zA.set4 (F:=λk=>k=w.heap.size+1+1) (zA.refl _ ((((X0.setCell ⟨w.heap.size+1,0,none⟩ (.bool true)).setCell ⟨w.heap.size+1,1,none⟩ (.slice a1 a c1)).setCell ⟨w.heap.size+1,2,none⟩ (.slice none 0 0)).setCell ⟨w.heap.size+1,3,none⟩ (.slice none 0 0))) (R:=w.heap.size+1+1) (.inr rfl) (.bool true) (.slice (some ⟨g2,0,none⟩) (n.entries.length-a) c2) (.slice none 0 0) (.slice none 0 0);have hA2:=hA.mods mB (by omega);have hx:=(zA.set4 (zA.set4 HMM.out (R:=w.heap.size+1) (.inl (by omega)) (.bool true) (.slice a1 a c1) (.slice none 0 0) (.slice none 0 0)) (R:=w.heap.size+1+1) (.inl (by omega)) (.bool true) (.slice (some ⟨g2,0,none⟩) (n.entries.length-a) c2) (.slice none 0 0) (.slice none 0 0)).drew;have o1:=(((HO1.out.ext ((zA.refl _ w1).alloc (.cells #[.bool true,.slice a1 a c1,.slice none 0 0,.slice none 0 0] 174))).ext HM2.out));have o2:=HO2.out.ext ((zA.refl _ w2).alloc (.cells #[.bool true,.slice (some ⟨g2,0,none⟩) (n.entries.length-a) c2,.slice none 0 0,.slice none 0 0] 174));rw[<- hX0] at o1 o2;have hb1:=λg hg=>(o1.lt g hg).1
 have hb2:=λg hg=>(o2.lt g hg).1
 have o1':=((o1.mods mA (λg hg=>by have:=hb1 g hg;simp at this;omega)).mods mB (λg hg=>by have:=hb1 g hg;simp at this;omega)).rebase (base':=w.heap.size) (by simp;omega);have o2':=((o2.mods mA (λg hg=>by have:=hb2 g hg;simp at this;omega)).mods mB (λg hg=>by have:=hb2 g hg;simp at this;omega)).rebase (base':=w.heap.size) (by simp;omega);subst hX0;refine bodyPost_ret (zCi rfl _ _ (w.heap.size+1) (w.heap.size+1+1) 174 174 _ _ _ rfl hA2.drew rfl hB.drew rfl Tryz.underlying174 rfl Tryz.nodeSz rfl) rfl ?_;unfold zGI;rw[HAP.out];exact⟨_,_,rfl,⟨_,_,_,rfl,o1'.ext (zA.refl _ _).drew,yC.nil _ _ _ _ _ _,yC.nil _ _ _ _ _ _⟩,⟨_,_,_,rfl,o2'.ext (zA.refl _ _).drew,yC.nil _ _ _ _ _ _,yC.nil _ _ _ _ _ _⟩,hx⟩
end
def zBH(n:zJ):Int:=if n.leaf=true then 3 else 2
def zBm(n:zJ)(size:Nat):Prop:=zO n=true/\zG n<=(size:Int)-24
instance (n:zJ) (size:Nat):Decidable (zBm n size):=by unfold zBm;exact inferInstance
def qQ(G:GA)(l:List Nat)(old:Nat)(n:zJ):Option Nat:=if zBm n G.size then vS l old else none
def yN(G:GA)(l:List Nat)(gen old:Nat)(n:zJ):GA:=match qQ G l old n with
 | none=>G
 | some i=>(qP G l old).put ⟨zBH n,(i:Int),gen,yE n⟩
def yV(G:GA)(l:List Nat)(old:Nat)(n:zJ):List Nat:=if zBm n G.size then vR l old else l
def zBI(G:GA)(n:zJ):Nat:=if zBm n G.size then 3 else 1
def zPy(ad:Nat->Addr)(o:Option Nat)(k:Nat)(F':Nat->Prop)(w':World)(e:Ending):Prop :=
 (∃i,o=some i/\e=.returned (.tuple #[.int .i64 (i:Int),.nilIface]))\/(o=none/\∃f el,e=.returned (.tuple #[.int .i64 0,zL f])/\vB F' ad w' (zL f) el k)
theorem zPy.form{ad:Nat->Addr}{o:Option Nat}{k:Nat}{F':Nat->Prop}{w':World}{e:Ending}(h:zPy ad o k F' w' e):∃iv ev,e=.returned (.tuple #[iv,ev]):=by
 rcases h with ⟨i,_,h⟩|⟨_,f,_,h,_⟩
 .exact⟨_,_,h⟩
 .exact⟨_,_,h⟩
theorem zJN{l:List Nat}{old i:Nat}(h:vS l old=some i):i<l.length:=by
 unfold vS at h;split at h
 .rename_i h1;injection h with h;subst h;have:=h1.2;unfold vM at this;simp only[Bool.and_eq_true,decide_eq_true_eq,Int.toNat_natCast] at this;exact (List.getElem?_eq_some_iff.1 this.2).1
 .exact (zAF h).2
theorem zOg{l:List Nat}{old i:Nat}(ho:zHD l old)(h:vS l old=some i):(vR l old)[i]? = some 2:=by
 unfold vS at h;unfold vR;split at h
 .rename_i h1;injection h with h;subst h;rw[if_neg h1.1,if_pos h1.2];have:=h1.2;unfold vM at this;simp only[Bool.and_eq_true,decide_eq_true_eq,Int.toNat_natCast] at this;exact this.2
 .rename_i h1;obtain⟨h0,hi⟩:=zAF h;by_cases e:old=0
  .rw[if_pos e];unfold zAk;rw[h];exact List.getElem?_set_self hi
  .have hf:vM l old≠true:=λhf=>h1 ⟨e,hf⟩
   rw[if_neg e,if_neg hf,h];simp only;have hne:old≠i:=λe2=>by
    rcases ho with ho|ho|ho
    .exact e ho
    .rw[e2,h0] at ho;simp at ho
    .rw[e2,h0] at ho;simp at ho
   have hs:(l.set i 2)[i]? = some 2:=List.getElem?_set_self hi;unfold yR;split
   .exact hs
   .split
    .simp only[Int.toNat_natCast];rw[List.getElem?_set_ne hne];exact hs
    .split
     .simp only[Int.toNat_natCast];rw[List.getElem?_set_ne hne];exact hs
     .exact hs
theorem zLQ{G:GA}{l:List Nat}{old:Nat}(h:vS l old=none):qP G l old=G:=by
 unfold vS at h;unfold qP;split at h
 .cases h
 .rw[if_pos h];split <;> rfl
theorem zD1(G:GA)(l:List Nat)(old:Nat):(qP G l old).size=G.size/\(qP G l old).blocks=G.blocks/\(qP G l old).cost=G.cost:=by
 unfold qP;split
 .exact⟨rfl,rfl,rfl⟩
 .split <;> exact⟨rfl,rfl,rfl⟩
section
variable {P P' F F':Nat->Prop}{ad:Nat->Addr}{w w':World}{c s:Nat}{G:GA}{l:List Nat}
theorem zFn[zW](hL:yG F ad w)(hP:∀k,P k->F k)(h:jU F w P c s G l)(gen old:Nat)(hgen:gen<18446744073709551616)(n:zJ)(ve vk vi:Value)(hve:Sl F w 4 zAO ve n.entries)(hvk:Sl F w 1 vZ vk n.keys)(hvi:Sl F w 1 yK vi n.kids)
  (hlen:zO n=true->(yE n).length<=100000) (hok:zHD l old) (ho2:old=0\/2<=old) (hob:old<256) (hll:l.length<=G.blocks) (hco:G.cost<1000000) :
  Calls Tryz.prog 93 #[pgV c s gen,.int .i64 (old:Int),.agg #[.bool n.leaf,ve,vk,vi]] w (zDX F P ad w c s (yN G l gen old n) (yV G l old n) (zPy ad (qQ G l old n) (zBI G n))):=by
 have m0:zF w ((w.alloc (.cells #[.pointer (some ⟨c,0,none⟩),.pointer (some ⟨s,0,none⟩),.int .u64 (gen:Int)] 120)).alloc (.cells #[.bool n.leaf,ve,vk,vi] 174)):=((zA.refl _ w).alloc _).alloc _;have HB0:=oh ((zH.new w #[.pointer (some ⟨c,0,none⟩),.pointer (some ⟨s,0,none⟩),.int .u64 (gen:Int)] 120).alloc (.cells #[.bool n.leaf,ve,vk,vi] 174));have HN0:Hid (zH ((w.alloc (.cells #[.pointer (some ⟨c,0,none⟩),.pointer (some ⟨s,0,none⟩),.int .u64 (gen:Int)] 120)).alloc (.cells #[.bool n.leaf,ve,vk,vi] 174)) (w.heap.size+1) #[.bool n.leaf,ve,vk,vi] 174):=oh (zR (by simp));have hx:=hL.mods m0.ext;have HPUT:=oh (zEb hx n ve vk vi (hve.ext m0) (hvk.ext m0) (hvi.ext m0) hlen);have HM0:=oh m0;have HP:=oh hP;have HG:=oh (h.at m0);have HL:=oh hx;have HLW:=oh hL;have HX0:Hid (zY P P F F ad w _):=oh (zY.ext hL hP m0);have HBP:Hid (¬ P w.heap.size/\¬ P (w.heap.size+1)):=oh ⟨λhp=>by have:=h.bd _ hp;omega,λhp=>by have:=h.bd _ hp;omega⟩;have HOK:=oh hok;have HLIM:=oh h.lim;have HLEN:=oh hlen;have HFT:Hid (zO n=true->∀W,zF w W -> Calls Tryz.prog 150 #[.agg #[.bool n.leaf,ve,vk,vi],.int .i64 (G.size:Int)] W λe w'=>e=.returned (.bool (decide (zG n<=(G.size:Int)-24)))/\zF W w'):=oh (λhr W m=>zEd n ve vk vi W (hve.ext m) (hvk.ext m) (by
  rw[zAm (qU hr)];have:=hlen hr;omega) _ (by omega) (by have:=h.lim;omega))
 have HSZ:=oh (λW (m:zF w W)=>zDx (h.at m) gen);obtain⟨ea,ec,rfl,_,_,_,_⟩:=hve;obtain⟨ka,kc,rfl,_,_,_,_⟩:=hvk;obtain⟨ia,ic,rfl,_,_,_,_⟩:=hvi;clear hL hP h m0 hok hlen hx;unfold pgV at HSZ ⊢
 go_enter Tryz.func93, Tryz.ntmps93
 go_wp2_with fail;refine HPUT.out.mono ?_;rintro e w1 ⟨hm1,⟨hr,a,cc,rfl,hO⟩|⟨hr,f,rfl,hE⟩⟩
 .have HM1:=oh (HM0.out.trans hm1);have HR:=oh hr;have HO:=oh hO;have HB1:=oh (HB0.out.ext hm1);have HN1:=oh (HN0.out.ext hm1);have HX1:=oh (HX0.out.trans (zY.ext HL.out HP.out hm1));have HG1:=oh (HG.out.at hm1);have b0:=HB1.out.cell (o:=0) rfl;have b1:=HB1.out.cell (o:=1) rfl;have b2:=HB1.out.cell (o:=2) rfl;have n0:=HN1.out.cell (o:=0) rfl;have n1:=HN1.out.cell (o:=1) rfl;have n2:=HN1.out.cell (o:=2) rfl;have n3:=HN1.out.cell (o:=3) rfl;clear hm1 hr hO;go_wp2_with fail;go_region_held3 (λw'=>w'.cell? ⟨w.heap.size+1,0,none⟩=some (.bool n.leaf)/\w'.cell? ⟨w.heap.size+1,1,none⟩=some (.slice ea n.entries.length ec)/\w'.cell? ⟨w.heap.size+1,2,none⟩=some (.slice ka n.keys.length kc)/\w'.cell? ⟨w.heap.size+1,3,none⟩=some (.slice ia n.kids.length ic) /\
    w'.cell? ⟨w.heap.size,0,none⟩=some (.pointer (some ⟨c,0,none⟩))/\w'.cell? ⟨w.heap.size,1,none⟩=some (.pointer (some ⟨s,0,none⟩))/\w'.cell? ⟨w.heap.size,2,none⟩=some (.int .u64 (gen:Int)))
   (first|(with_reducible exact⟨n0,n1,n2,n3,b0,b1,b2⟩)|(with_reducible exact⟨y0,y1,y2,y3,d0,d1,d2⟩)|(with_reducible exact⟨z0,z1,z2,z3,f0,f1,f2⟩)|go_keep)
   (first
    | (go_at_call 151;(with_reducible refine (HSZ.out _ HM1.out.drew).mono ?_);rintro e w2 ⟨rfl,hm2⟩;have y0:=zE hm2 n0;have y1:=zE hm2 n1;have y2:=zE hm2 n2;have y3:=zE hm2 n3;have d0:=zE hm2 b0;have d1:=zE hm2 b1;have d2:=zE hm2 b2)
    | (go_at_call 150;refine (HFT.out HR.out _ (HM1.out.drew.trans hm2)).mono ?_;rintro e w3 ⟨rfl,hm3⟩;have z0:=zE hm3 y0;have z1:=zE hm3 y1;have z2:=zE hm3 y2;have z3:=zE hm3 y3;have f0:=zE hm3 d0;have f1:=zE hm3 d1;have f2:=zE hm3 d2)
    | fail)
  have HM2:Hid (zF w1 w2):=oh ((zA.refl _ w1).drew.trans hm2);have HM3:=oh (HM2.out.trans hm3);have HB3:=oh (HB1.out.ext (HM2.out.trans hm3));have HN3:=oh (HN1.out.ext (HM2.out.trans hm3));have HX3:=oh (HX1.out.trans (zY.ext HX1.out.env HX1.out.sub (HM2.out.trans hm3)));have HG3:=oh (HG1.out.at (HM2.out.trans hm3));have b0:=HB3.out.cell (o:=0) rfl;have b1:=HB3.out.cell (o:=1) rfl;have b2:=HB3.out.cell (o:=2) rfl;have g1:=HX3.out.env.c1;clear hm3;cases hfit:decide (zG n<=(G.size:Int)-24) with
  | false =>
   have HD:Hid (¬ zBm n G.size):=oh (λhd=>by rw[decide_eq_true hd.2] at hfit;cases hfit);clear hfit;go_wp2_with fail;refine (zAG HX3.out.env _ (old:Int) _ [] 1 (.sent 1 (by decide) (by decide))).mono ?_;rintro e w4 ⟨f,rfl,hE,hm4⟩;have HE:=oh hE;have HM4:=oh hm4;clear hE hm4;go_wp2_with fail;go_ret2
   refine⟨P,F,?_,HX3.out.trans (zY.ext HX3.out.env HX3.out.sub HM4.out),?_⟩
   .have e1:yN G l gen old n=G:=by unfold yN qQ;rw[if_neg HD.out]
    have e2:yV G l old n=l:=by unfold yV;rw[if_neg HD.out]
    rw[e1,e2];exact HG3.out.at HM4.out
   .have e1:qQ G l old n=none:=by unfold qQ;rw[if_neg HD.out]
    have e2:zBI G n=1:=by unfold zBI;rw[if_neg HD.out]
    rw[e1,e2];exact .inr ⟨rfl,f,_,rfl,HE.out⟩
  | true =>
   have HD:Hid (zBm n G.size):=oh ⟨HR.out,of_decide_eq_true hfit⟩;have HPL:=zOY HX3.out.env HX3.out.sub HG3.out gen old HOK.out ho2 hob;unfold pgV at HPL;have HPC:=oh HPL;clear hfit HPL;go_wp2_with fail;refine HPC.out.mono ?_;rintro e w4 ⟨P4,F4,hG4,hN4,hr4⟩;have HG4:=oh hG4;have HX4:=oh (HX3.out.trans hN4);have hp3:¬ P w.heap.size/\¬ P (w.heap.size+1):=HBP.out;have HB4:=oh (hN4.blk HB3.out hp3.1);have HN4:=oh (hN4.blk HN3.out hp3.2);have HSB:Hid (Sl F4 w4 1 zZ (.slice a (yE n).length cc) (yE n)):=oh (hN4.sl HX3.out.sub (((HO.out.blocks (G:=F) (λg hg=>by
    have:=(HO.out.lt g hg).1;have hlt:=HLW.out.lt g;intro hf;have:=hlt hf;simp at *;omega)).sl jE.len (by have:=HLEN.out HR.out;omega)).ext HM3.out))
   clear hG4 hN4 hp3;rcases hr4 with ⟨i,hi,rfl⟩|⟨hi,f,rfl,hE⟩
   .have hil:=zJN hi;have HI:=oh hi;have HIL:Hid (i<G.blocks/\i<256):=oh (by have:=HLIM.out;omega);have b0:=HB4.out.cell (o:=0) rfl;have b2:=HB4.out.cell (o:=2) rfl;have n0:=HN4.out.cell (o:=0) (v:=.bool n.leaf) rfl;have HDI:Hid (qQ G l old n=some i):=oh (by unfold qQ;rw[if_pos HD.out,HI.out]);have HDG:Hid (yN G l gen old n=(qP G l old).put ⟨zBH n,(i:Int),gen,yE n⟩):=oh (by unfold yN;rw[HDI.out]);have HDL:Hid (yV G l old n=vR l old):=oh (by unfold yV;rw[if_pos HD.out]);have hwl:((yE n).length:Int)+24<=(G.size:Int):=by
     have:=HD.out.2;rw[zAm (qU HR.out)] at this;omega
    have HPC:Hid (yY ⟨zBH n,(i:Int),gen,yE n⟩ ((qP G l old).size:Int)=none):=oh (by
     rw[(zD1 G l old).1];unfold yY;have:=HLIM.out;rw[if_neg (by unfold zAX;simp;omega),if_neg];have hk:zC1 (zBH n)=true:=by unfold zBH;split <;> rfl
     have:=HIL.out;simp only[hk];simp;omega)
    clear hi hil hwl;cases hlf:n.leaf
    all_goals
     rw[hlf] at n0;have HK:Hid (zBH n=_):=oh (by unfold zBH;rw[hlf]);simp only[Bool.false_eq_true,if_false,if_true] at HK;have HPT:=oh (λW (m:zF w4 W)=>zRH (HX4.out.env.mods m.ext) HX4.out.sub (HG4.out.at m) ⟨zBH n,(i:Int),gen,yE n⟩ _ (HSB.out.ext m) hgen ⟨by simp,by rw[(zD1 G l old).2.1];have:=HIL.out;simp;omega⟩ (by simpa using HG4.out.fresh (.inr (zOg HOK.out HI.out))) HPC.out (by rw[(zD1 G l old).2.2];exact hco));unfold qA at HPT;simp only[HK.out] at HPT;clear hlf;go_wp2_with fail;refine (HPT.out _ ?_).mono ?_
     .first|exact zA.refl _ _|exact (zA.refl _ _).alloc _
     rintro e w5 ⟨P5,F5,hG5,hN5,rfl⟩;have HG5:=oh hG5;have HX5:=oh ((HX4.out.trans (zY.ext HX4.out.env HX4.out.sub (by first|exact zA.refl _ _|exact (zA.refl _ _).alloc _))).trans hN5);clear hG5 hN5;go_wp2_with fail;go_ret2
     refine⟨P5,F5,?_,HX5.out,?_⟩
     .rw[HDG.out,HDL.out,HK.out];exact HG5.out
     .rw[HDI.out];exact .inl ⟨i,rfl,rfl⟩
   .have HDI:Hid (qQ G l old n=none):=oh (by unfold qQ;rw[if_pos HD.out,hi]);have HDG:Hid (yN G l gen old n=qP G l old):=oh (by unfold yN;rw[HDI.out,zLQ hi]);have HDL:Hid (yV G l old n=vR l old):=oh (by unfold yV;rw[if_pos HD.out]);have HDK:Hid (zBI G n=3):=oh (by unfold zBI;rw[if_pos HD.out]);have HE:=oh hE;clear hi hE;go_wp2_with fail;refine (wrap_any HX4.out.env _ _ _ _ HE.out).mono ?_;rintro e w5 ⟨f5,rfl,hE5,hm5⟩;have HE5:=oh hE5;have HM5:=oh hm5;clear hE5 hm5;go_wp2_with fail;go_ret2
    refine⟨P4,F4,?_,HX4.out.trans (zY.ext HX4.out.env HX4.out.sub HM5.out),?_⟩
    .rw[HDG.out,HDL.out];exact HG4.out.at HM5.out
    .rw[HDI.out,HDK.out];exact .inr ⟨rfl,f5,_,rfl,HE5.out⟩
 .have HD:Hid (¬ zBm n G.size):=oh (λhd=>by rw[hd.1] at hr;cases hr);have HE:=oh hE;have HX1:=oh (HX0.out.trans (zY.ext HL.out HP.out hm1));have HG1:=oh (HG.out.at hm1);clear hE hm1 hr;go_wp2_with fail;refine (wrap_any HX1.out.env _ _ _ _ HE.out).mono ?_;rintro e w5 ⟨f5,rfl,hE5,hm5⟩;have HE5:=oh hE5;have HM5:=oh hm5;clear hE5 hm5;go_wp2_with fail;go_ret2
  refine⟨P,F,?_,HX1.out.trans (zY.ext HX1.out.env HX1.out.sub HM5.out),?_⟩
  .have e1:yN G l gen old n=G:=by unfold yN qQ;rw[if_neg HD.out]
   have e2:yV G l old n=l:=by unfold yV;rw[if_neg HD.out]
   rw[e1,e2];exact HG1.out.at HM5.out
  .have e1:qQ G l old n=none:=by unfold qQ;rw[if_neg HD.out]
   have e2:zBI G n=1:=by unfold zBI;rw[if_neg HD.out]
   rw[e1,e2];exact .inr ⟨rfl,f5,_,rfl,HE5.out⟩
end
end
section
open Go.RowKit
structure Upd(G:GA)(l:List Nat)(A:Nat->Prop)(G':GA)(l':List Nat)(A':Nat->Prop):Prop where
 sz:G'.size=G.size
 bl:G'.blocks=G.blocks
 len:l'.length=l.length
 inn:∀i,A' i->(A i/\l'[i]? = l[i]?)\/(l[i]? = some 0/\l'[i]? = some 2)
 gone:∀i,A i->¬ A' i->(l[i]? = some 2/\l'[i]? = some 0)\/(l[i]? = some 1/\l'[i]? = some 3)
 rest:∀i,¬ A i->¬ A' i->l'[i]? = l[i]? /\ (l[i]? ≠ some 0->G'.view i=G.view i)
 keep:∀i,l[i]? = some 1\/l[i]? = some 3->G'.look i=G.look i/\(G'.view i=G.view i\/G'.view i=zHM (G.look i) i)
def zAW(l:List Nat)(A:Nat->Prop):Prop:=∀i,A i->l[i]? = some 1\/l[i]? = some 2
section
variable {G G1 G2:GA}{l l1 l2:List Nat}{A A1 A2 B:Nat->Prop}
theorem Upd.refl(G:GA)(l:List Nat)(A:Nat->Prop):Upd G l A G l A :=
 ⟨rfl,rfl,rfl,λ_ h=>.inl ⟨h,rfl⟩,λ_ h n=>absurd h n,λ_ _ _=>⟨rfl,λ_=>rfl⟩,λ_ _=>⟨rfl,.inl rfl⟩⟩
theorem Upd.iff{A' A1':Nat->Prop}(h:Upd G l A G1 l1 A1)(h1:∀i,A' i ↔ A i)(h2:∀i,A1' i ↔ A1 i):Upd G l A' G1 l1 A1' :=
 ⟨h.sz,h.bl,h.len,λi hi=>(h.inn i ((h2 i).1 hi)).imp (λx=>⟨(h1 i).2 x.1,x.2⟩) id,λi hi hn=>h.gone i ((h1 i).1 hi) (λx=>hn ((h2 i).2 x)),λi hi hn=>h.rest i (λx=>hi ((h1 i).2 x)) (λx=>hn ((h2 i).2 x)),h.keep⟩
theorem Upd.use(h:Upd G l A G1 l1 A1)(hu:zAW l A):zAW l1 A1:=λi hi=>by
 rcases h.inn i hi with ⟨h1,h2⟩|⟨_,h2⟩
 .rw[h2];exact hu i h1
 .exact .inr h2
theorem Upd.trans(h:Upd G l A G1 l1 A1)(k:Upd G1 l1 A1 G2 l2 A2)(hu:zAW l A):Upd G l A G2 l2 A2:=by
 have h10:∀i,A1 i->l1[i]? ≠ some 0:=λi hi e=>by
  rcases h.use hu i hi with h1|h1 <;> rw[e] at h1 <;> simp at h1
 have h00:∀i,A i->l[i]? ≠ some 0:=λi hi e=>by
  rcases hu i hi with h1|h1 <;> rw[e] at h1 <;> simp at h1
 refine⟨k.sz.trans h.sz,k.bl.trans h.bl,k.len.trans h.len,λi hi=>?_,λi hi hn=>?_,λi hi hn=>?_,λi hi=>?_⟩
 .rcases k.inn i hi with ⟨k1,k2⟩|⟨k1,k2⟩
  .rcases h.inn i k1 with ⟨h1,h2⟩|⟨h1,h2⟩
   .exact .inl ⟨h1,k2.trans h2⟩
   .exact .inr ⟨h1,k2.trans h2⟩
  .have hn1:¬ A1 i:=λx=>h10 i x k1
   by_cases ha:A i
   .rcases h.gone i ha hn1 with ⟨h1,_⟩|⟨_,h2⟩
    .exact .inl ⟨ha,by rw[k2,h1]⟩
    .rw[k1] at h2;simp at h2
   .have:=(h.rest i ha hn1).1;exact .inr ⟨by rw[<- this];exact k1,k2⟩
 .by_cases h1:A1 i
  .rcases h.inn i h1 with ⟨_,h2⟩|⟨h2,_⟩
   .rw[<- h2];exact k.gone i h1 hn
   .exact absurd h2 (h00 i hi)
  .have k1:=(k.rest i h1 hn).1;rw[k1];exact h.gone i hi h1
 .by_cases h1:A1 i
  .rcases h.inn i h1 with ⟨h2,_⟩|⟨h2,h3⟩
   .exact absurd h2 hi
   .rcases k.gone i h1 hn with ⟨_,k2⟩|⟨k2,_⟩
    .exact⟨by rw[k2,h2],λe=>absurd h2 e⟩
    .rw[h3] at k2;simp at k2
  .obtain⟨k1,k2⟩:=k.rest i h1 hn;obtain⟨h2,h3⟩:=h.rest i hi h1;exact⟨k1.trans h2,λe=>(k2 (by rw[h2];exact e)).trans (h3 e)⟩
 .have hl1:l1[i]? = some 1\/l1[i]? = some 3:=by
   by_cases h1:A1 i
   .rcases h.inn i h1 with ⟨_,h2⟩|⟨h2,_⟩
    .rw[h2];exact hi
    .rcases hi with e|e <;> rw[h2] at e <;> simp at e
   .by_cases ha:A i
    .rcases h.gone i ha h1 with ⟨h2,_⟩|⟨_,h2⟩
     .rcases hi with e|e <;> rw[h2] at e <;> simp at e
     .exact .inr h2
    .rw[(h.rest i ha h1).1];exact hi
  obtain⟨h1,h2⟩:=h.keep i hi;obtain⟨k1,k2⟩:=k.keep i hl1;refine⟨k1.trans h1,?_⟩;rcases k2 with k2|k2
  .rw[k2];exact h2
  .rw[k2,h1];exact .inr rfl
theorem Upd.frame(h:Upd G l A G1 l1 A1)(hB:∀i,B i->¬ A i/\l[i]? ≠ some 0):Upd G l (λi=>A i\/B i) G1 l1 (λi=>A1 i\/B i):=by
 have hB1:∀i,B i->¬ A1 i:=λi hi h1=>by
  rcases h.inn i h1 with ⟨h2,_⟩|⟨h2,_⟩
  .exact (hB i hi).1 h2
  .exact (hB i hi).2 h2
 refine⟨h.sz,h.bl,h.len,λi hi=>?_,λi hi hn=>?_,λi hi hn=>?_,h.keep⟩
 .rcases hi with hi|hi
  .exact (h.inn i hi).imp (λx=>⟨.inl x.1,x.2⟩) id
  .exact .inl ⟨.inr hi,(h.rest i (hB i hi).1 (hB1 i hi)).1⟩
 .rcases hi with hi|hi
  .exact h.gone i hi (λx=>hn (.inl x))
  .exact absurd (.inr hi) hn
 .exact h.rest i (λx=>hi (.inl x)) (λx=>hn (.inl x))
theorem Upd.view(h:Upd G l A G1 l1 A1){i:Nat}(h1:¬ A i)(h2:l[i]? ≠ some 0):G1.view i=G.view i/\l1[i]? = l[i]? /\ ¬ A1 i:=by
 have h3:¬ A1 i:=λh3=>by
  rcases h.inn i h3 with ⟨h4,_⟩|⟨h4,_⟩
  .exact h1 h4
  .exact h2 h4
 obtain⟨h4,h5⟩:=h.rest i h1 h3;exact⟨h5 h2,h4,h3⟩
end
def zAn(l:List Nat):Int:=(l.countP (· == 0):Int)-(l.countP (· == 1):Int)
theorem zD3{l:List Nat}{i x y:Nat}(h:l[i]? = some x):zAn (l.set i y)=zAn l+((if y=0 then 1 else 0)-(if y=1 then 1 else 0))-((if x=0 then 1 else 0)-(if x=1 then 1 else 0)):=by
 unfold zAn;have h0:=zAh (· == 0) l i y x h;have h1:=zAh (· == 1) l i y x h;simp only[beq_iff_eq] at h0 h1;have e:∀(p:Prop) [Decidable p],(if p then (1:Int) else 0)=((if p then (1:Nat) else 0:Nat):Int):=λp _=>by split <;> rfl
 simp only[e];omega
theorem zJO{l:List Nat}(h:0<zG9 l):∃i,vJ l=some i:=by
 unfold vJ;cases hf:l.findIdx? (· == 0) with
 | some i=>exact⟨i,rfl⟩
 | none =>
  rw[List.findIdx?_eq_none_iff] at hf;unfold zG9 at h;rw[List.countP_pos_iff] at h;obtain⟨x,hx,hx0⟩:=h;rw[hf x hx] at hx0;cases hx0
theorem zLR{l:List Nat}(h:1<=zAn l):∃i,vJ l=some i:=zJO (by unfold zAn zG9 at *;omega)
theorem zPz{l:List Nat}{i:Nat}(h:0<=zAn l)(hi:l[i]? = some 1):∃i,vJ l=some i:=by
 have:0<l.countP (· == 1):=List.countP_pos_iff.2 ⟨1,List.mem_of_getElem? hi,rfl⟩;exact zJO (by unfold zAn zG9 at *;omega)
section
variable {G:GA}{l:List Nat}
theorem zAu(G:GA)(p:zX)(i:Nat):(G.put p).view i=if i=p.id.toNat then some (.inl p) else G.view i:=by
 show upd G.view p.id.toNat (some (.inl p)) i=_;unfold upd;rfl
theorem zFo(G:GA)(p:zX){i:Nat}(h:i≠p.id.toNat):(G.put p).look i=G.look i:=zDS _ _ h
theorem zCD(G:GA)(k i:Nat):(G.drop k).view i=if i=k then zHM (G.look k) k else G.view i:=by
 show upd G.view k (zHM (G.look k) k) i=_;unfold upd;rfl
theorem zP0{i:Nat}(hi:vJ l=some i)(p:zX)(hp:p.id=(i:Int)):Upd G l (λ_=>False) (G.put p) (l.set i 2) (λk=>k=i):=by
 have h0:=zAF hi;have hpi:p.id.toNat=i:=by omega
 refine⟨rfl,rfl,by simp,λk hk=>?_,λ_ f=>f.elim,λk _ hk=>?_,λk hk=>?_⟩
 .subst hk;exact .inr ⟨h0.1,List.getElem?_set_self h0.2⟩
 .exact⟨List.getElem?_set_ne (λe=>hk e.symm),λ_=>by rw[zAu,hpi,if_neg hk]⟩
 .have hne:k≠i:=λe=>by rw[e,h0.1] at hk;simp at hk
  exact⟨zFo G p (by rw[hpi];exact hne),.inl (by rw[zAu,hpi,if_neg hne])⟩
theorem zOh{i:Nat}(hi:l[i]? = some 2)(p:zX)(hp:p.id=(i:Int)):Upd G l (λk=>k=i) (G.put p) l (λk=>k=i):=by
 have hpi:p.id.toNat=i:=by omega
 refine⟨rfl,rfl,rfl,λk hk=>.inl ⟨hk,rfl⟩,λk hk hn=>absurd hk hn,λk hk _=>⟨rfl,λ_=>by rw[zAu,hpi,if_neg hk]⟩,λk hk=>?_⟩;have hne:k≠i:=λe=>by rw[e,hi] at hk;simp at hk
 exact⟨zFo G p (by rw[hpi];exact hne),.inl (by rw[zAu,hpi,if_neg hne])⟩
theorem zJP{l:List Nat}{i:Nat}(h2:2<=i)(hi:l[i]? = some 1):yR l (i:Int)=(l.set i 3,none):=by
 have hlt:=(List.getElem?_eq_some_iff.1 hi).1;unfold yR qB;rw[if_neg (by omega)];simp only[Int.toNat_natCast,hi];simp
theorem zMo{l:List Nat}{i:Nat}(h2:2<=i)(hi:l[i]? = some 2):yR l (i:Int)=(l.set i 0,none):=by
 have hlt:=(List.getElem?_eq_some_iff.1 hi).1;unfold yR qB;rw[if_neg (by omega)];simp only[Int.toNat_natCast,hi];simp
theorem zP1{i:Nat}(h2:2<=i)(hi:l[i]? = some 1\/l[i]? = some 2):Upd G l (λk=>k=i) (G.drop i) (yR l (i:Int)).1 (λ_=>False)/\(yR l (i:Int)).2=none/\zAn l+1<=zAn (yR l (i:Int)).1:=by
 have hv:∀k,k≠i->(G.drop i).view k=G.view k:=λk hk=>by rw[zCD,if_neg hk]
 rcases hi with hi|hi
 .have hlt:=(List.getElem?_eq_some_iff.1 hi).1;rw[zJP h2 hi];refine⟨⟨rfl,rfl,by simp,λ_ f=>f.elim,λk hk _=>?_,λk hk _=>⟨List.getElem?_set_ne (λe=>hk e.symm),λ_=>hv k hk⟩,λk _=>⟨rfl,?_⟩⟩,rfl,?_⟩
  .subst hk;exact .inr ⟨hi,List.getElem?_set_self hlt⟩
  .by_cases e:k=i
   .subst e;exact .inr (by rw[zCD,if_pos rfl])
   .exact .inl (hv k e)
  .rw[zD3 hi];simp
 .have hlt:=(List.getElem?_eq_some_iff.1 hi).1;rw[zMo h2 hi];refine⟨⟨rfl,rfl,by simp,λ_ f=>f.elim,λk hk _=>?_,λk hk _=>⟨List.getElem?_set_ne (λe=>hk e.symm),λ_=>hv k hk⟩,λk hk=>⟨rfl,?_⟩⟩,rfl,?_⟩
  .subst hk;exact .inl ⟨hi,List.getElem?_set_self hlt⟩
  .by_cases e:k=i
   .subst e;rw[hi] at hk;simp at hk
   .exact .inl (hv k e)
  .rw[zD3 hi];simp
theorem zOi{old i:Nat}(ho:old=0\/(2<=old/\(l[old]? = some 1\/l[old]? = some 2)))(hi:vS l old=some i)(p:zX)(hp:p.id=(i:Int))(h0:l[0]? ≠ some 0) :
  Upd G l (λk=>k=old/\old≠0) ((qP G l old).put p) (vR l old) (λk=>k=i)/\zAn l-(if old=0 then 1 else 0)<=zAn (vR l old)/\1<=i:=by
 rcases ho with rfl|⟨h2,ho⟩
 .have e1:qP G l 0=G:=by unfold qP;rw[if_pos (.inl rfl)]
  have hf:vJ l=some i:=by unfold vS at hi;rw[if_neg (by simp)] at hi;exact hi
  have e2:vR l 0=l.set i 2:=by unfold vR zAk;rw[if_pos rfl,hf]
  rw[e1,e2];refine⟨(zP0 hf p hp).iff (λk=>by simp) (λk=>Iff.rfl),?_,?_⟩
  .rw[zD3 (zAF hf).1];simp
  .rcases Nat.eq_zero_or_pos i with e|e
   .rw[e] at hf;exact absurd (zAF hf).1 h0
   .exact e
 .have hz:old≠0:=by omega
  rcases ho with ho|ho
  .have hfr:vM l (old:Int)=false:=by unfold vM;rw[Int.toNat_natCast,ho];simp
   have hf:vJ l=some i:=by unfold vS at hi;rw[if_neg (by rw[hfr];simp)] at hi;exact hi
   have hne:i≠old:=λe=>by have:=(zAF hf).1;rw[e,ho] at this;simp at this
   have e1:qP G l old=G.drop old:=by unfold qP;rw[if_neg (by rw[hfr];simp[hz]),if_neg (by rw[hf];simp)]
   have ho2:(l.set i 2)[old]? = some 1:=by rw[List.getElem?_set_ne hne];exact ho
   have e2:vR l old=(l.set i 2).set old 3:=by
    unfold vR;rw[if_neg hz,if_neg (by rw[hfr];simp),hf];simp only;rw[zJP h2 ho2]
   have h0f:=zAF hf;have hol:=(List.getElem?_eq_some_iff.1 ho).1;have hpi:p.id.toNat=i:=by omega
   rw[e1,e2];refine⟨⟨rfl,rfl,by simp,λk hk=>?_,λk hk _=>?_,λk hk hn=>?_,λk hk=>?_⟩,?_,?_⟩
   .subst hk;exact .inr ⟨h0f.1,by rw[List.getElem?_set_ne hne.symm];exact List.getElem?_set_self h0f.2⟩
   .obtain⟨rfl,_⟩:=hk;exact .inr ⟨ho,List.getElem?_set_self (by simpa using hol)⟩
   .have hk2:k≠old:=λe=>hk ⟨e,hz⟩
    refine⟨by rw[List.getElem?_set_ne hk2.symm,List.getElem?_set_ne (λe=>hn e.symm)],λ_=>?_⟩;rw[zAu,hpi,if_neg hn,zCD,if_neg hk2]
   .have hki:k≠i:=λe=>by rw[e,h0f.1] at hk;simp at hk
    refine⟨zFo (G.drop old) p (by rw[hpi];exact hki),?_⟩;rw[zAu,hpi,if_neg hki,zCD];by_cases e:k=old
    .subst e;rw[if_pos rfl];exact .inr rfl
    .rw[if_neg e];exact .inl rfl
   .rw[zD3 ho2,zD3 h0f.1];simp[hz]
   .rcases Nat.eq_zero_or_pos i with e|e
    .rw[e] at hf;exact absurd (zAF hf).1 h0
    .exact e
  .have hfr:vM l (old:Int)=true:=by unfold vM;rw[Int.toNat_natCast,ho];simp
   have hio:old=i:=by unfold vS at hi;rw[if_pos ⟨hz,hfr⟩] at hi;exact Option.some.inj hi
   subst hio;have e1:qP G l old=G:=by unfold qP;rw[if_pos (.inr hfr)]
   have e2:vR l old=l:=by unfold vR;rw[if_neg hz,if_pos hfr]
   rw[e1,e2];exact⟨(zOh ho p hp).iff (λk=>by simp[hz]) (λk=>Iff.rfl),by simp[hz],by omega⟩
end
def ndS(sz n:Nat):Nat:=(n-1) / (sz-28)+1
theorem zH0(sz n:Nat)(h:1<=n)(h1:256<=sz)(h2:sz<=1024):zC3 (n:Int) (sz:Int)=(ndS sz n:Int):=by
 unfold zC3 ndS;rw[if_neg (by omega)];have e1:((n:Int)-1)=((n-1:Nat):Int):=by omega
 have e2:((sz:Int)-28)=((sz-28:Nat):Int):=by omega
 rw[e1,e2];simp
theorem zNU(sz n:Nat)(h:1<=n)(h1:256<=sz):Fit n (sz-28) (ndS sz n):=by
 obtain⟨d,hd⟩:∃d,d=sz-28:=⟨_,rfl⟩;unfold ndS;rw[<- hd];have h3:=Nat.div_add_mod (n-1) d;have h4:=Nat.mod_lt (n-1) (show 0<d by omega);have h5:(n-1) / d * d=d * ((n-1) / d):=Nat.mul_comm _ _;generalize (n-1) / d=k at *
 refine⟨by omega,by omega,?_,?_⟩
 .rw[Nat.add_sub_cancel,h5];omega
 .rw[Nat.succ_mul,h5];omega
theorem zP2(sz n:Nat)(h:n<=4096)(h1:256<=sz):ndS sz n<=18:=by
 unfold ndS;have:=Nat.div_le_div_left (show 228<=sz-28 by omega) (show 0<228 by omega) (a:=n-1);omega
structure ChG(G:GA)(gen:Nat)(c s:Int)(v:ByteArray)(ids:List Nat):Prop where
 size:s=(v.size:Int)
 lo:25<=v.size
 hi:v.size<=4096
 len:ids.length=ndS G.size v.size
 first:c=((ids.getD 0 0:Nat):Int)
 lt:∀i∈ids,2<=i/\i<G.blocks
 page:∃g,g<=gen/\∀i,i<ids.length->G.view (ids.getD i 0)=some (.inl (zAy g v.data.toList (G.size-28) ids i))
theorem zBn{ids:List Nat}{i:Nat}(h:i<ids.length):ids.getD i 0∈ids:=by
 have:ids.getD i 0=ids[i]:=by simp[List.getD,h]
 rw[this];exact List.getElem_mem h
theorem zH1{ids:List Nat}{i:Nat}(h:ids.length<=i):ids.getD i 0=0:=by simp[List.getD,List.getElem?_eq_none h]
section
variable {G G':GA}{gen:Nat}{c s:Int}{v:ByteArray}{ids:List Nat}
theorem ChG.mono(h:ChG G gen c s v ids){gen':Nat}(hg:gen<=gen')(hb:G'.blocks=G.blocks)(hs:G'.size=G.size)(hv:∀i∈ids,G'.view i=G.view i):ChG G' gen' c s v ids :=
 ⟨h.size,h.lo,h.hi,by rw[hs];exact h.len,h.first,λi hi=>by rw[hb];exact h.lt i hi,by
  obtain⟨g,h1,h2⟩:=h.page;exact⟨g,Nat.le_trans h1 hg,λi hi=>by rw[hs];exact (hv _ (zBn hi)).trans (h2 i hi)⟩⟩
theorem zP3{v:List UInt8}{m nn blocks:Nat}{ids:List Nat}(hm:ids.length=m)(hf:Fit v.length nn m){size:Nat}(hs:size=nn+28)(hlt:∀i∈ids,2<=i/\i<blocks)(hb2:blocks<=256){i:Nat}(hi:i<m)(g:Nat) :
  yP size (zAy g v nn ids i) ((v.length-i * nn:Nat):Int)=false:=by
 unfold yP zAy;simp only;have hnx:(i+1<m->2<=ids.getD (i+1) 0/\ids.getD (i+1) 0<blocks)/\(¬ i+1<m->ids.getD (i+1) 0=0) :=
  ⟨λh=>hlt _ (zBn (by omega)),λh=>zH1 (by omega)⟩
 generalize ids.getD (i+1) 0=nx at *
 have hn:nx<4294967296:=by
  by_cases h:i+1<m
  .have:=hnx.1 h;omega
  .have:=hnx.2 h;omega
 rw[zFL _ _ hn];have hl:=hf.left hi;have hpl:=zOH v nn i;have hmin:min ((v.length-i * nn:Nat):Int) ((size:Int)-28)=((min nn (v.length-i * nn):Nat):Int):=by omega
 rw[hmin];have e1:((yD 4 nx++zB6 v nn i).length:Int)=4+((min nn (v.length-i * nn):Nat):Int):=by
  rw[List.length_append,zD,hpl];omega
 rw[e1];by_cases h1:i+1<m
 .have:=hf.more h1;have h3:=hnx.1 h1;simp;omega
 .have:=hf.last (show i+1=m by omega);have h3:=hnx.2 h1;rw[h3];simp;omega
theorem zLS{v:List UInt8}{m nn g:Nat}(hm:ids.length=m)(hf:Fit v.length nn m)(hs:G.size=nn+28)(hlt:∀i∈ids,2<=i/\i<G.blocks)(hb2:G.blocks<=256)
  (h:∀i,i<m->G.view (ids.getD i 0)=some (.inl (zAy g v nn ids i))) :
  ∀(k i f:Nat),i+k=m->v.length-i * nn<=f ->
   vO G f ((ids.getD i 0:Nat):Int) ((v.length-i * nn:Nat):Int)=((List.range' i k).map (λj=>(((ids.getD j 0:Nat):Int),zB6 v nn j)),none) /\
   zB7 G f ((ids.getD i 0:Nat):Int) ((v.length-i * nn:Nat):Int)
 | 0,i,f,hc,hfu=>by
  have:v.length-i * nn=0:=by have:=hf.hi;rw[<- hc,Nat.add_zero] at this;omega
  rw[this];exact⟨zMN _ _ _ _ (by omega),zK1 _ _ _ _ (by omega)⟩
 | k+1,i,f,hc,hfu=>by
  have hi:i<m:=by omega
  have hl:=hf.left hi;obtain⟨f,rfl⟩:∃f',f=f'+1:=⟨f-1,by omega⟩;have hnn:=hf.n228;obtain⟨h1,h2⟩:=zLS hm hf hs hlt hb2 h k (i+1) f (by omega) (by rw[Nat.succ_mul];omega);have hid:=hlt _ (zBn (show i<ids.length by omega));have hg:G.get ((ids.getD i 0:Nat):Int)=.inl (zAy g v nn ids i):=zK2 hid.2 (h i hi);have hbad:=zP3 (size:=G.size) hm hf hs hlt hb2 hi g;have hn:ids.getD (i+1) 0<4294967296:=by
   rcases Nat.lt_or_ge (i+1) ids.length with h|h
   .have:=hlt _ (zBn h);omega
   .rw[zH1 h];omega
  have ht:vI (zAy g v nn ids i).body 0 4=(ids.getD (i+1) 0,none):=zFL _ _ hn;have hd:(zAy g v nn ids i).body.drop 4=zB6 v nn i:=zOG _ _;have hsub:((v.length-i * nn:Nat):Int)-min ((v.length-i * nn:Nat):Int) ((G.size:Int)-28)=((v.length-(i+1) * nn:Nat):Int):=by
   rw[Nat.succ_mul];omega
  constructor
  .rw[vO,if_neg (by omega),hg];simp only[hbad,ht,hd,hsub];rw[h1,List.range'_succ];rfl
  .rw[zB7];intro _;refine⟨λ_=>⟨_,by rw[Int.toNat_natCast];exact h i hi⟩,λx hx _=>?_⟩;rw[hg] at hx;injection hx with hx;subst hx;rw[ht,hsub];exact h2
theorem ChG.walk(h:ChG G gen c s v ids)(hs:256<=G.size)(hb:G.blocks<=256) :
  zB0 G c s=none/\zB7 G s.toNat c s/\(vO G s.toNat c s).1.map (·.1)=ids.map (λk:Nat=>(k:Int))/\G.R c s=some v:=by
 obtain⟨g,_,hp⟩:=h.page;have hl:v.data.toList.length=v.size:=zAD v;have hlo:=h.lo;have hhi:=h.hi;have hf:Fit v.data.toList.length (G.size-28) (ndS G.size v.size):=by rw[hl];exact zNU _ _ (by omega) hs
 obtain⟨w1,w2⟩:=zLS (G:=G) (g:=g) h.len hf (by omega) h.lt hb (λi hi=>hp i (by rw[h.len];exact hi)) (ndS G.size v.size) 0 v.size (by omega) (by rw[hl];omega);rw[hl] at w1 w2;simp only[Nat.zero_mul,Nat.sub_zero] at w1 w2;rw[h.size,h.first,Int.toNat_natCast];have hz:zB0 G ((ids.getD 0 0:Nat):Int) (v.size:Int)=none:=by
  unfold zB0 zBM;rw[if_neg (by omega),Int.toNat_natCast,w1];rfl
 refine⟨hz,w2,?_,?_⟩
 .rw[w1];refine List.ext_getElem (by simp[h.len]) (λi h1 h2=>?_);simp only[List.length_map] at h2;simp[List.getD,h2]
 .unfold GA.R;rw[hz,Int.toNat_natCast,w1];simp only[Option.some.injEq,List.flatMap_map];apply ByteArray.ext
  exact congrArg List.toArray (zMM v.data.toList (G.size-28) (ndS G.size v.size) hf.hi)
theorem zH2:∀(m:Nat) (l:List Nat),(m:Int)<=zAn l->∃ids l1,zAp m l=some (ids,l1)
 | 0,l,_=>⟨[],l,rfl⟩
 | m+1,l,h=>by
  obtain⟨i,hi⟩:=zLR (l:=l) (by omega);obtain⟨ids,l1,h1⟩:=zH2 m (l.set i 2) (by rw[zD3 (zAF hi).1];simp;omega);exact⟨i :: ids,l1,by rw[zAp,hi];simp only[h1]⟩
structure zRc(m:Nat)(l ids l1:List Nat):Prop where
 len:ids.length=m
 lenL:l1.length=l.length
 nodup:ids.Nodup
 at_:∀i∈ids,l[i]? = some 0/\l1[i]? = some 2
 far:∀i,i ∉ ids->l1[i]? = l[i]?
 phi:zAn l1=zAn l-m
theorem zBJ:∀(m:Nat) (l ids l1:List Nat),zAp m l=some (ids,l1)->zRc m l ids l1
 | 0,l,ids,l1,h=>by
  rw[zAp] at h;injection h with h;injection h with h1 h2;subst h1 h2;exact⟨rfl,rfl,List.nodup_nil,λi hi=>by simp at hi,λ_ _=>rfl,by simp⟩
 | m+1,l,ids,l1,h=>by
  rw[zAp] at h;cases hf:vJ l with
  | none=>rw[hf] at h;cases h
  | some i =>
   rw[hf] at h;simp only at h;cases ht:zAp m (l.set i 2) with
   | none=>rw[ht] at h;cases h
   | some x =>
    obtain⟨r,l2⟩:=x;rw[ht] at h;simp only[Option.some.injEq,Prod.mk.injEq] at h;obtain⟨rfl,rfl⟩:=h;obtain⟨k1,k2,k3,k4,k5,k6⟩:=zBJ m _ _ _ ht;have h0:=zAF hf;have hir:i ∉ r:=λhm=>by
     have:=(k4 i hm).1;rw[List.getElem?_set_self h0.2] at this;simp at this
    refine⟨by simp[k1],by rw[k2];simp,List.nodup_cons.2 ⟨hir,k3⟩,λj hj=>?_,λj hj=>?_,?_⟩
    .rcases List.mem_cons.1 hj with rfl|hj
     .exact⟨h0.1,by rw[k5 _ hir,List.getElem?_set_self h0.2]⟩
     .have hne:i≠j:=λe=>hir (e ▸ hj)
      have:=k4 j hj;rw[List.getElem?_set_ne hne] at this;exact this
    .rw[List.mem_cons,not_or] at hj;rw[k5 j hj.2,List.getElem?_set_ne (λe=>hj.1 e.symm)]
    .rw[k6,zD3 h0.1];simp;omega
theorem zFO(g:Nat)(v:List UInt8)(nn:Nat)(ids:List Nat)(hn:ids.Nodup):∀(k:Nat) (G:GA),k<=ids.length ->
  (∀j,j<k->(jZ g v nn ids k G).view (ids.getD j 0)=some (.inl (zAy g v nn ids j)))/\(∀i,i ∉ ids->(jZ g v nn ids k G).view i=G.view i/\(jZ g v nn ids k G).look i=G.look i)
 | 0,G,_=>⟨λj hj=>by omega,λi _=>⟨rfl,rfl⟩⟩
 | k+1,G,hk=>by
  obtain⟨h1,h2⟩:=zFO g v nn ids hn k G (by omega);have e:(zAy g v nn ids k).id.toNat=ids.getD k 0:=by
   show ((ids.getD k 0:Nat):Int).toNat=_;rw[Int.toNat_natCast]
  refine⟨λj hj=>?_,λi hi=>?_⟩
  .rw[jZ,zAu,e];by_cases hjk:j=k
   .subst hjk;rw[if_pos rfl]
   .have hne:ids.getD j 0≠ids.getD k 0:=by
     simp only[List.getD,List.getElem?_eq_getElem (show j<ids.length by omega),List.getElem?_eq_getElem (show k<ids.length by omega),Option.getD_some];intro he;exact hjk ((List.getElem_inj hn).1 he)
    rw[if_neg hne];exact h1 j (by omega)
  .have hne:i≠ids.getD k 0:=λhe=>hi (he ▸ zBn (by omega))
   rw[jZ,zAu,e,if_neg hne,zFo _ _ (by rw[e];exact hne)];exact h2 i hi
theorem zOj{l l1:List Nat}{m:Nat}(h:zAp m l=some (ids,l1))(g:Nat)(v:List UInt8)(nn:Nat):Upd G l (λ_=>False) (jZ g v nn ids m G) l1 (λi=>i∈ids):=by
 obtain⟨k1,k2,k3,k4,k5,k6⟩:=zBJ _ _ _ _ h;obtain⟨s1,s2,s3⟩:=qY g v nn ids m G;obtain⟨_,p2⟩:=zFO g v nn ids k3 m G (by omega);exact⟨s2,s1,k2,λi hi=>.inr (k4 i hi),λ_ f=>f.elim,λi _ hi=>⟨k5 i hi,λ_=>(p2 i hi).1⟩,λi hi=>by
  have hni:i ∉ ids:=λhm=>by rw[(k4 i hm).1] at hi;simp at hi
  exact⟨(p2 i hni).2,.inl (p2 i hni).1⟩⟩
theorem zEs:∀(ids l:List Nat) (G:GA),ids.Nodup->(∀i∈ids,2<=i)->zAW l (λi=>i∈ids) ->
  Upd G l (λi=>i∈ids) (jQ G ids) (jM l ids) (λ_=>False)/\zCa l ids/\zAn l+ids.length<=zAn (jM l ids)
 | [],l,G,_,_,_=>⟨(Upd.refl G l (λ_=>False)).iff (λi=>by simp) (λ_=>Iff.rfl),trivial,by simp[jM]⟩
 | i :: r,l,G,hn,h2,hu=>by
  rw[List.nodup_cons] at hn;obtain⟨u1,u2,u3⟩:=zP1 (G:=G) (h2 i List.mem_cons_self) (hu i List.mem_cons_self);have hr:∀j∈r,j≠i:=λj hj e=>hn.1 (e ▸ hj)
  have hu2:zAW (yR l (i:Int)).1 (λj=>j∈r):=λj hj=>by
   rw[zHi (hr j hj)];exact hu j (List.mem_cons_of_mem _ hj)
  obtain⟨k1,k2,k3⟩:=zEs r (yR l (i:Int)).1 (G.drop i) hn.2 (λj hj=>h2 j (List.mem_cons_of_mem _ hj)) hu2;refine⟨?_,⟨u2,k2⟩,?_⟩
  .have f:=u1.frame (B:=λj=>j∈r) (λj hj=>⟨hr j hj,λe=>by
    rcases hu j (List.mem_cons_of_mem _ hj) with h|h <;> rw[e] at h <;> simp at h⟩)
   have f2:=f.iff (A':=λj=>j∈i :: r) (A1':=λj=>j∈r) (λj=>by rw[List.mem_cons]) (λj=>by simp);exact f2.trans k1 hu
  .rw[jM,List.length_cons];omega
theorem zQu{l l1:List Nat}{v:ByteArray}{m:Nat}(h:zAp m l=some (ids,l1))(hm:m=ndS G.size v.size)(h25:25<=v.size)(h4096:v.size<=4096)(h0:l[0]? ≠ some 0)(h1:l[1]? ≠ some 0)(hlb:l.length<=G.blocks)(g:Nat) :
  ChG (jZ g v.data.toList (G.size-28) ids m G) g ((ids.getD 0 0:Nat):Int) (v.size:Int) v ids:=by
 obtain⟨k1,k2,k3,k4,k5,k6⟩:=zBJ _ _ _ _ h;obtain⟨s1,s2,s3⟩:=qY g v.data.toList (G.size-28) ids m G;obtain⟨p1,_⟩:=zFO g v.data.toList (G.size-28) ids k3 m G (by omega);refine⟨rfl,h25,h4096,by rw[s2,k1,hm],rfl,λi hi=>?_,g,Nat.le_refl _,λi hi=>by rw[s2];exact p1 i (by omega)⟩;have hz:=(k4 i hi).1;have hlt:=(List.getElem?_eq_some_iff.1 hz).1;rw[s1];refine⟨?_,by omega⟩;rcases Nat.lt_or_ge i 2 with h|h
 .obtain rfl|rfl:i=0\/i=1:=by omega
  .exact absurd hz h0
  .exact absurd hz h1
 .exact h
end
end
end Go.Proofs.YteabpacpngaoaaaGreatDoor
