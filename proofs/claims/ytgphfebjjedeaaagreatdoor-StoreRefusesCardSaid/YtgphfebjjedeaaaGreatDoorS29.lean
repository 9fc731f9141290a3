import Derived.Test.YtgphfebjjedeaaaGreatDoorS28
import Derived.IntWalk
import Derived.Deep.RegionHeld3
namespace Go.Proofs.YtgphfebjjedeaaaGreatDoor
open Lib renaming hid->oh
set_option maxHeartbeats 4000000
set_option maxRecDepth 100000
section
open Go.RowKit
theorem zI6(e:zS):((qY e).length:Int)=zBA e:=by
 unfold qY zBA;by_cases h:e.chain=0
 .rw[if_pos h,if_pos h];simp only[uC,zC,zAT];omega
 .rw[if_neg h,if_neg h];simp only[uC,zC,zAT];omega
theorem zFU:∀l:List zS,((l.flatMap qY).length:Int)=zAd l
 | []=>rfl
 | e :: l=>by
  rw[wG,uC,zAd,<- zFU l,<- zI6 e];omega
theorem zFV:∀(l:List ByteArray) (k:List Int),l.length<=k.length->(((l.zip k).flatMap vW).length:Int)=zA0 l
 | [],_,_=>rfl
 | s :: l,[],h=>by simp at h
 | s :: l,c :: k,h=>by
  rw[List.zip_cons_cons,wG,uC,zA0,<- zFV l k (by simpa using h)];unfold vW;rw[uC,zAT,zC];simp only;omega
def zIE(n:zK):Prop:=if n.leaf=true then n.keys=[]/\n.kids=[] else n.entries=[]/\n.kids.length=n.keys.length+1
theorem zCu{n:zK}(h:zIE n):yM n=((zT n).length:Int):=by
 unfold zIE at h;unfold yM zT;cases hl:n.leaf with
 | true =>
  rw[if_pos hl] at h;simp only[rE];rw[h.1,uC,zC];have:=zFU n.entries;simp only[zA0];omega
 | false =>
  rw[if_neg (by rw[hl];simp)] at h;simp only[wI,rF];rw[h.1,uC,uC,zC,zC];have:=zFV n.keys n.kids.tail (by rw[List.length_tail];omega);simp only[zAd];omega
theorem zCv{n:zK}(h:zY n=true):zIE n:=by
 unfold zIE;unfold zY at h;cases hl:n.leaf with
 | true =>
  rw[if_pos hl] at h;simp only[uF,wN] at h;rw[if_pos rfl];exact⟨h.1.1.1.2,h.1.1.2⟩
 | false =>
  rw[if_neg (by rw[hl];simp)] at h;simp only[uF,wN,uM] at h;rw[if_neg (by simp)];exact⟨h.1.1.1.1.1.1.1,h.1.1.1.1.1.2⟩
end
section
open Go.RowKit
attribute [local go_sem ↓] Go.wp_at_zero Go.wp_at_succ
theorem yA.slF{α:Type}{F:NP}{w:World}{base:Nat}{e:TypeId}{sz:Nat}{enc:α->List Value}{v:Value}{l:List α}(h:yA (λ_=>False) w base e sz enc v l)(hF:∀k,F k->k<base)(henc:∀x,(enc x).length=sz)(hl:l.length<=140737488355328):Sl F w sz enc v l :=
 (h.blocks (G:=F) (λg hg hf=>by have:=(h.lt g hg).1;have:=hF g hf;omega)).sl henc hl
def zBM(n:zK):Int:=if n.leaf=true then 3 else 2
def zA8(n:zK)(size:Nat):Prop:=zY n=true/\yM n<=(size:Int)-24
instance (n:zK) (size:Nat):Decidable (zA8 n size):=by unfold zA8;exact inferInstance
def vG(G:GA)(l:List Nat)(old:Nat)(n:zK):Option Nat:=if zA8 n G.size then vO l old else none
def yW(G:GA)(l:List Nat)(gen old:Nat)(n:zK):GA:=match vG G l old n with
 | none=>G
 | some i=>(qE G l old).put ⟨zBM n,(i:Int),gen,zT n⟩
def vR(G:GA)(l:List Nat)(old:Nat)(n:zK):List Nat:=if zA8 n G.size then vN l old else l
def zCL(G:GA)(n:zK):Nat:=if zA8 n G.size then 3 else 1
def zLs(ad:Nat->Addr)(o:Option Nat)(k:Nat)(F':NP)(w':World)(e:Ending):Prop :=
 (∃i,o=some i/\e=.returned (.tuple #[.int .i64 (i:Int),.nilIface]))\/(o=none/\∃f el,e=.returned (.tuple #[.int .i64 0,zD f])/\yG F' ad w' (zD f) el k)
theorem zFW{l:List Nat}{old i:Nat}(h:vO l old=some i):i<l.length:=by
 unfold vO at h;split at h
 .rename_i h1;injection h with h;subst h;have:=h1.2;unfold qX at this;simp only[uF,uM,uL] at this;exact (uB.1 this.2).1
 .exact (jY h).2
theorem zGw{G:GA}{l:List Nat}{old:Nat}(h:vO l old=none):qE G l old=G:=by
 unfold vO at h;unfold qE;split at h
 .cases h
 .rw[if_pos h];split <;> rfl
theorem zBq(G:GA)(l:List Nat)(old:Nat):(qE G l old).size=G.size/\(qE G l old).blocks=G.blocks/\(qE G l old).cost=G.cost:=by
 unfold qE;split
 .exact⟨rfl,rfl,rfl⟩
 .split <;> exact⟨rfl,rfl,rfl⟩
section
variable {P P' F F':NP}{ad:Nat->Addr}{w w':World}{c s:Nat}{G:GA}{l:List Nat}
theorem zKH(hL:zZ F ad w)(hP:∀k,P k->F k)(h:jC F w P c s G l)(gen old:Nat)(hgen:gen<18446744073709551616)(n:zK)(ve vk vi:Value)(hve:Sl F w 4 zAA ve n.entries)(hvk:Sl F w 1 zBP vk n.keys)(hvi:Sl F w 1 yX vi n.kids)
  (hlen:zY n=true->(zT n).length<=100000) (hok:zF1 l old) (ho2:old=0\/2<=old) (hob:old<256) (hll:l.length<=G.blocks) (hco:G.cost<1000000) :
  Calls Tryz.prog 188 #[pgV c s gen,.int .i64 (old:Int),.agg #[.bool n.leaf,ve,vk,vi]] w (zAl F P ad w c s (yW G l gen old n) (vR G l old n) (zLs ad (vG G l old n) (zCL G n))):=by
 have m0:zF w ((w.alloc (gP c s gen)).alloc (.cells #[.bool n.leaf,ve,vk,vi] 277)):=((zss w).alloc _).alloc _;have HB0:=oh ((zJ.new w (gP c s gen) 140).alloc (.cells #[.bool n.leaf,ve,vk,vi] 277));have HN0:Hid (zJ ((w.alloc (gP c s gen)).alloc (.cells #[.bool n.leaf,ve,vk,vi] 277)) (w.heap.size+1) #[.bool n.leaf,ve,vk,vi] 277):=oh (zU (by simp));have hx:=hL.mods m0.ext;have HPUT:=oh (zCJ hx n ve vk vi (hve.ext m0) (hvk.ext m0) (hvi.ext m0) hlen);have HM0:=oh m0;have HP:=oh hP;have HG:=oh (h.at m0);have HL:=oh hx;have HLW:=oh hL;have HX0:Hid (zR P P F F ad w _):=oh (zR.ext hL hP m0);have HBP:Hid (¬ P w.heap.size/\¬ P (w.heap.size+1)):=oh ⟨λhp=>by have:=h.bd _ hp;omega,λhp=>by have:=h.bd _ hp;omega⟩;have HOK:=oh hok;have HLIM:=oh h.lim;have HLEN:=oh hlen;have HFT:Hid (zY n=true->∀W,zF w W -> Calls Tryz.prog 274 #[.agg #[.bool n.leaf,ve,vk,vi],.int .i64 (G.size:Int)] W λe w'=>e=.returned (.bool (decide (yM n<=(G.size:Int)-24)))/\zF W w'):=oh (λhr W m=>zGo n ve vk vi W (hve.ext m) (hvk.ext m) (by
  rw[zCu (zCv hr)];have:=hlen hr;omega) _ (by omega) (by have:=h.lim;omega))
 have HSZ:=oh (λW (m:zF w W)=>zEf (h.at m) gen);obtain⟨ea,ec,rfl,_,_,_,_⟩:=hve;obtain⟨ka,kc,rfl,_,_,_,_⟩:=hvk;obtain⟨ia,ic,rfl,_,_,_,_⟩:=hvi;clear hL hP h m0 hok hlen hx;unfold pgV at HSZ ⊢
 go_enter Tryz.func188, Tryz.ntmps188
 go_wp2_with fail;refine HPUT.out.mono ?_;rintro e w1 ⟨hm1,⟨hr,a,cc,rfl,hO⟩|⟨hr,f,rfl,hE⟩⟩
 .have HM1:=oh (HM0.out.trans hm1);have HR:=oh hr;have HO:=oh hO;have HB1:=oh (HB0.out.ext hm1);have HN1:=oh (HN0.out.ext hm1);have HX1:=oh (HX0.out.trans (zR.ext HL.out HP.out hm1));have HG1:=oh (HG.out.at hm1);have b0:=HB1.out.k 0 rfl;have b1:=HB1.out.k 1 rfl;have b2:=HB1.out.k 2 rfl;have n0:=HN1.out.k 0 rfl;have n1:=HN1.out.k 1 rfl;have n2:=HN1.out.k 2 rfl;have n3:=HN1.out.k 3 rfl;clear hm1 hr hO;go_wp2_with fail;go_region_held3 (λw'=>w'.cell? ⟨w.heap.size+1,0,none⟩=some (.bool n.leaf)/\w'.cell? ⟨w.heap.size+1,1,none⟩=some (.slice ea n.entries.length ec)/\w'.cell? ⟨w.heap.size+1,2,none⟩=some (.slice ka n.keys.length kc)/\w'.cell? ⟨w.heap.size+1,3,none⟩=some (.slice ia n.kids.length ic) /\
    w'.cell? ⟨w.heap.size,0,none⟩=some (.pointer (some ⟨c,0,none⟩))/\w'.cell? ⟨w.heap.size,1,none⟩=some (.pointer (some ⟨s,0,none⟩))/\w'.cell? ⟨w.heap.size,2,none⟩=some (.int .u64 (gen:Int)))
   (first|(with_reducible exact⟨n0,n1,n2,n3,b0,b1,b2⟩)|(with_reducible exact⟨y0,y1,y2,y3,d0,d1,d2⟩)|(with_reducible exact⟨z0,z1,z2,z3,f0,f1,f2⟩)|go_keep)
   (first
    | (go_at_call 275;(with_reducible refine (HSZ.out _ HM1.out.drew).mono ?_);rintro e w2 ⟨rfl,hm2⟩;have y0:=zI hm2 n0;have y1:=zI hm2 n1;have y2:=zI hm2 n2;have y3:=zI hm2 n3;have d0:=zI hm2 b0;have d1:=zI hm2 b1;have d2:=zI hm2 b2)
    | (go_at_call 274;refine (HFT.out HR.out _ (HM1.out.drew.trans hm2)).mono ?_;rintro e w3 ⟨rfl,hm3⟩;have z0:=zI hm3 y0;have z1:=zI hm3 y1;have z2:=zI hm3 y2;have z3:=zI hm3 y3;have f0:=zI hm3 d0;have f1:=zI hm3 d1;have f2:=zI hm3 d2)
    | fail)
  have HM2:Hid (zF w1 w2):=oh ((zss w1).drew.trans hm2);have HM3:=oh (HM2.out.trans hm3);have HB3:=oh (HB1.out.ext (HM2.out.trans hm3));have HN3:=oh (HN1.out.ext (HM2.out.trans hm3));have HX3:=oh (HX1.out.trans (zR.ext HX1.out.env HX1.out.sub (HM2.out.trans hm3)));have HG3:=oh (HG1.out.at (HM2.out.trans hm3));have b0:=HB3.out.k 0 rfl;have b1:=HB3.out.k 1 rfl;have b2:=HB3.out.k 2 rfl;have g1:=HX3.out.env.c1;clear hm3;cases hfit:decide (yM n<=(G.size:Int)-24) with
  | false =>
   have HD:Hid (¬ zA8 n G.size):=oh (λhd=>by rw[uU hd.2] at hfit;cases hfit);clear hfit;go_wp2_with fail;refine (qO HX3.out.env _ (old:Int) _ [] 1 (.sent 1 (by decide) (by decide))).mono ?_;rintro e w4 ⟨f,rfl,hE,hm4⟩;have HE:=oh hE;have HM4:=oh hm4;clear hE hm4;go_wp2_with fail;go_ret2
   refine⟨P,F,?_,HX3.out.trans (zR.ext HX3.out.env HX3.out.sub HM4.out),?_⟩
   .have e1:yW G l gen old n=G:=by unfold yW vG;rw[if_neg HD.out]
    have e2:vR G l old n=l:=by unfold vR;rw[if_neg HD.out]
    rw[e1,e2];exact HG3.out.at HM4.out
   .have e1:vG G l old n=none:=by unfold vG;rw[if_neg HD.out]
    have e2:zCL G n=1:=by unfold zCL;rw[if_neg HD.out]
    rw[e1,e2];exact .inr ⟨rfl,f,_,rfl,HE.out⟩
  | true =>
   have HD:Hid (zA8 n G.size):=oh ⟨HR.out,of_decide_eq_true hfit⟩;have HPL:=zIy HX3.out.env HX3.out.sub HG3.out gen old HOK.out ho2 hob;unfold pgV at HPL;have HPC:=oh HPL;clear hfit HPL;go_wp2_with fail;refine HPC.out.mono ?_;rintro e w4 ⟨P4,F4,hG4,hN4,hr4⟩;have HG4:=oh hG4;have HX4:=oh (HX3.out.trans hN4);have hp3:¬ P w.heap.size/\¬ P (w.heap.size+1):=HBP.out;have HB4:=oh (hN4.blk HB3.out hp3.1);have HN4:=oh (hN4.blk HN3.out hp3.2);have HSB:Hid (Sl F4 w4 1 zM (.slice a (zT n).length cc) (zT n)):=oh (hN4.sl HX3.out.sub (((HO.out.blocks (G:=F) (λg hg=>by
    have:=(HO.out.lt g hg).1;have hlt:=HLW.out.lt g;intro hf;have:=hlt hf;simp at *;omega)).sl qJ.len (by have:=HLEN.out HR.out;omega)).ext HM3.out))
   clear hG4 hN4 hp3;rcases hr4 with ⟨i,hi,rfl⟩|⟨hi,f,rfl,hE⟩
   .have hil:=zFW hi;have HI:=oh hi;have HIL:Hid (i<G.blocks/\i<256):=oh (by have:=HLIM.out;omega);have b0:=HB4.out.k 0 rfl;have b2:=HB4.out.k 2 rfl;have n0:=HN4.out.d 0 (.bool n.leaf) rfl;have HDI:Hid (vG G l old n=some i):=oh (by unfold vG;rw[if_pos HD.out,HI.out]);have HDG:Hid (yW G l gen old n=(qE G l old).put ⟨zBM n,(i:Int),gen,zT n⟩):=oh (by unfold yW;rw[HDI.out]);have HDL:Hid (vR G l old n=vN l old):=oh (by unfold vR;rw[if_pos HD.out]);have hwl:((zT n).length:Int)+24<=(G.size:Int):=by
     have:=HD.out.2;rw[zCu (zCv HR.out)] at this;omega
    have HPC:Hid (yN ⟨zBM n,(i:Int),gen,zT n⟩ ((qE G l old).size:Int)=none):=oh (by
     rw[(zBq G l old).1];unfold yN;have:=HLIM.out;rw[if_neg (by unfold vS;simp;omega),if_neg];have hk:zBB (zBM n)=true:=by unfold zBM;split <;> rfl
     have:=HIL.out;simp only[hk];simp;omega)
    clear hi hil hwl;cases hlf:n.leaf
    all_goals
     rw[hlf] at n0;have HK:Hid (zBM n=_):=oh (by unfold zBM;rw[hlf]);simp only[wI,rF,rE] at HK;have HPT:=oh (λW (m:zF w4 W)=>zLl (HX4.out.env.mods m.ext) HX4.out.sub (HG4.out.at m) ⟨zBM n,(i:Int),gen,zT n⟩ _ (HSB.out.ext m) hgen ⟨by simp,by rw[(zBq G l old).2.1];have:=HIL.out;simp;omega⟩ HPC.out (by rw[(zBq G l old).2.2];exact hco));unfold yH at HPT;simp only[HK.out] at HPT;clear hlf;go_wp2_with fail;refine (HPT.out _ ?_).mono ?_
     .first|exact zA.refl _ _|exact zr.alloc _
     rintro e w5 ⟨P5,F5,hG5,hN5,rfl⟩;have HG5:=oh hG5;have HX5:=oh ((HX4.out.trans (zR.ext HX4.out.env HX4.out.sub (by first|exact zA.refl _ _|exact zr.alloc _))).trans hN5);clear hG5 hN5;go_wp2_with fail;go_ret2
     refine⟨P5,F5,?_,HX5.out,?_⟩
     .rw[HDG.out,HDL.out,HK.out];exact HG5.out
     .rw[HDI.out];exact .inl ⟨i,rfl,rfl⟩
   .have HDI:Hid (vG G l old n=none):=oh (by unfold vG;rw[if_pos HD.out,hi]);have HDG:Hid (yW G l gen old n=qE G l old):=oh (by unfold yW;rw[HDI.out,zGw hi]);have HDL:Hid (vR G l old n=vN l old):=oh (by unfold vR;rw[if_pos HD.out]);have HDK:Hid (zCL G n=3):=oh (by unfold zCL;rw[if_pos HD.out]);have HE:=oh hE;clear hi hE;go_wp2_with fail;refine (wrap_any HX4.out.env _ _ _ _ HE.out).mono ?_;rintro e w5 ⟨f5,rfl,hE5,hm5⟩;have HE5:=oh hE5;have HM5:=oh hm5;clear hE5 hm5;go_wp2_with fail;go_ret2
    refine⟨P4,F4,?_,HX4.out.trans (zR.ext HX4.out.env HX4.out.sub HM5.out),?_⟩
    .rw[HDG.out,HDL.out];exact HG4.out.at HM5.out
    .rw[HDI.out,HDK.out];exact .inr ⟨rfl,f5,_,rfl,HE5.out⟩
 .have HD:Hid (¬ zA8 n G.size):=oh (λhd=>by rw[hd.1] at hr;cases hr);have HE:=oh hE;have HX1:=oh (HX0.out.trans (zR.ext HL.out HP.out hm1));have HG1:=oh (HG.out.at hm1);clear hE hm1 hr;go_wp2_with fail;refine (wrap_any HX1.out.env _ _ _ _ HE.out).mono ?_;rintro e w5 ⟨f5,rfl,hE5,hm5⟩;have HE5:=oh hE5;have HM5:=oh hm5;clear hE5 hm5;go_wp2_with fail;go_ret2
  refine⟨P,F,?_,HX1.out.trans (zR.ext HX1.out.env HX1.out.sub HM5.out),?_⟩
  .have e1:yW G l gen old n=G:=by unfold yW vG;rw[if_neg HD.out]
   have e2:vR G l old n=l:=by unfold vR;rw[if_neg HD.out]
   rw[e1,e2];exact HG1.out.at HM5.out
  .have e1:vG G l old n=none:=by unfold vG;rw[if_neg HD.out]
   have e2:zCL G n=1:=by unfold zCL;rw[if_neg HD.out]
   rw[e1,e2];exact .inr ⟨rfl,f5,_,rfl,HE5.out⟩
end
end
section
open Go.RowKit
structure Upd(G:GA)(l:List Nat)(A:NP)(G':GA)(l':List Nat)(A':NP):Prop where
 sz:G'.size=G.size
 bl:G'.blocks=G.blocks
 len:l'.length=l.length
 inn:∀i,A' i->(A i/\l'[i]? = l[i]?)\/(l[i]? = some 0/\l'[i]? = some 2)
 gone:∀i,A i->¬ A' i->(l[i]? = some 2/\l'[i]? = some 0)\/(l[i]? = some 1/\l'[i]? = some 3)
 rest:∀i,¬ A i->¬ A' i->l'[i]? = l[i]? /\ (l[i]? ≠ some 0->G'.view i=G.view i)
 keep:∀i,l[i]? = some 1\/l[i]? = some 3->G'.look i=G.look i/\(G'.view i=G.view i\/G'.view i=zED (G.look i) i)
section
variable {G G1 G2:GA}{l l1 l2:List Nat}{A A1 A2 B:NP}
theorem Upd.iff{A' A1':NP}(h:Upd G l A G1 l1 A1)(h1:∀i,A' i ↔ A i)(h2:∀i,A1' i ↔ A1 i):Upd G l A' G1 l1 A1' :=
 ⟨h.sz,h.bl,h.len,λi hi=>(h.inn i ((h2 i).1 hi)).imp (λx=>⟨(h1 i).2 x.1,x.2⟩) id,λi hi hn=>h.gone i ((h1 i).1 hi) (λx=>hn ((h2 i).2 x)),λi hi hn=>h.rest i (λx=>hi ((h1 i).2 x)) (λx=>hn ((h2 i).2 x)),h.keep⟩
end
def zHi(l:List Nat):Int:=(l.countP (· == 0):Int)-(l.countP (· == 1):Int)
theorem zF6{l:List Nat}{i x y:Nat}(h:l[i]? = some x):zHi (l.set i y)=zHi l+((if y=0 then 1 else 0)-(if y=1 then 1 else 0))-((if x=0 then 1 else 0)-(if x=1 then 1 else 0)):=by
 unfold zHi;have h0:=vT (· == 0) l i y x h;have h1:=vT (· == 1) l i y x h;simp only[tL] at h0 h1;have e:∀(p:Prop) [Decidable p],(if p then (1:Int) else 0)=((if p then (1:Nat) else 0:Nat):Int):=λp _=>by split <;> rfl
 simp only[e];omega
section
variable {G:GA}{l:List Nat}
theorem zAk(G:GA)(p:zX)(i:Nat):(G.put p).view i=if i=p.id.toNat then some (.inl p) else G.view i:=by
 show upd G.view p.id.toNat (some (.inl p)) i=_;unfold upd;rfl
theorem zEo(G:GA)(p:zX){i:Nat}(h:i≠p.id.toNat):(G.put p).look i=G.look i:=zCf _ _ h
theorem zFX(G:GA)(k i:Nat):(G.drop k).view i=if i=k then zED (G.look k) k else G.view i:=by
 show upd G.view k (zED (G.look k) k) i=_;unfold upd;rfl
theorem zKI{i:Nat}(hi:qG l=some i)(p:zX)(hp:p.id=(i:Int)):Upd G l (λ_=>False) (G.put p) (l.set i 2) (λk=>k=i):=by
 have h0:=jY hi;have hpi:p.id.toNat=i:=by omega
 refine⟨rfl,rfl,by simp,λk hk=>?_,λ_ f=>f.elim,λk _ hk=>?_,λk hk=>?_⟩
 .subst hk;exact .inr ⟨h0.1,tR h0.2⟩
 .exact⟨wE (λe=>hk e.symm),λ_=>by rw[zAk,hpi,if_neg hk]⟩
 .have hne:k≠i:=λe=>by rw[e,h0.1] at hk;simp at hk
  exact⟨zEo G p (by rw[hpi];exact hne),.inl (by rw[zAk,hpi,if_neg hne])⟩
theorem zI7{i:Nat}(hi:l[i]? = some 2)(p:zX)(hp:p.id=(i:Int)):Upd G l (λk=>k=i) (G.put p) l (λk=>k=i):=by
 have hpi:p.id.toNat=i:=by omega
 refine⟨rfl,rfl,rfl,λk hk=>.inl ⟨hk,rfl⟩,λk hk hn=>absurd hk hn,λk hk _=>⟨rfl,λ_=>by rw[zAk,hpi,if_neg hk]⟩,λk hk=>?_⟩;have hne:k≠i:=λe=>by rw[e,hi] at hk;simp at hk
 exact⟨zEo G p (by rw[hpi];exact hne),.inl (by rw[zAk,hpi,if_neg hne])⟩
theorem zI8{l:List Nat}{i:Nat}(h2:2<=i)(hi:l[i]? = some 1):jV l (i:Int)=(l.set i 3,none):=by
 have hlt:=(uB.1 hi).1;unfold jV vK;rw[if_neg (by omega)];simp only[uL,hi];simp
theorem zI9{old i:Nat}(ho:old=0\/(2<=old/\(l[old]? = some 1\/l[old]? = some 2)))(hi:vO l old=some i)(p:zX)(hp:p.id=(i:Int))(h0:l[0]? ≠ some 0) :
  Upd G l (λk=>k=old/\old≠0) ((qE G l old).put p) (vN l old) (λk=>k=i)/\zHi l-(if old=0 then 1 else 0)<=zHi (vN l old)/\1<=i:=by
 rcases ho with rfl|⟨h2,ho⟩
 .have e1:qE G l 0=G:=by unfold qE;rw[if_pos (.inl rfl)]
  have hf:qG l=some i:=by unfold vO at hi;rw[if_neg (by simp)] at hi;exact hi
  have e2:vN l 0=l.set i 2:=by unfold vN zAm;rw[if_pos rfl,hf]
  rw[e1,e2];refine⟨(zKI hf p hp).iff (λk=>by simp) (λk=>rP),?_,?_⟩
  .rw[zF6 (jY hf).1];simp
  .rcases Nat.eq_zero_or_pos i with e|e
   .rw[e] at hf;exact absurd (jY hf).1 h0
   .exact e
 .have hz:old≠0:=by omega
  rcases ho with ho|ho
  .have hfr:qX l (old:Int)=false:=by unfold qX;rw[uL,ho];simp
   have hf:qG l=some i:=by unfold vO at hi;rw[if_neg (by rw[hfr];simp)] at hi;exact hi
   have hne:i≠old:=λe=>by have:=(jY hf).1;rw[e,ho] at this;simp at this
   have e1:qE G l old=G.drop old:=by unfold qE;rw[if_neg (by rw[hfr];simp[hz]),if_neg (by rw[hf];simp)]
   have ho2:(l.set i 2)[old]? = some 1:=by rw[wE hne];exact ho
   have e2:vN l old=(l.set i 2).set old 3:=by
    unfold vN;rw[if_neg hz,if_neg (by rw[hfr];simp),hf];simp only;rw[zI8 h2 ho2]
   have h0f:=jY hf;have hol:=(uB.1 ho).1;have hpi:p.id.toNat=i:=by omega
   rw[e1,e2];refine⟨⟨rfl,rfl,by simp,λk hk=>?_,λk hk _=>?_,λk hk hn=>?_,λk hk=>?_⟩,?_,?_⟩
   .subst hk;exact .inr ⟨h0f.1,by rw[wE hne.symm];exact tR h0f.2⟩
   .obtain⟨rfl,_⟩:=hk;exact .inr ⟨ho,tR (by simpa using hol)⟩
   .have hk2:k≠old:=λe=>hk ⟨e,hz⟩
    refine⟨by rw[wE hk2.symm,wE (λe=>hn e.symm)],λ_=>?_⟩;rw[zAk,hpi,if_neg hn,zFX,if_neg hk2]
   .have hki:k≠i:=λe=>by rw[e,h0f.1] at hk;simp at hk
    refine⟨zEo (G.drop old) p (by rw[hpi];exact hki),?_⟩;rw[zAk,hpi,if_neg hki,zFX];by_cases e:k=old
    .subst e;rw[if_pos rfl];exact .inr rfl
    .rw[if_neg e];exact .inl rfl
   .rw[zF6 ho2,zF6 h0f.1];simp[hz]
   .rcases Nat.eq_zero_or_pos i with e|e
    .rw[e] at hf;exact absurd (jY hf).1 h0
    .exact e
  .have hfr:qX l (old:Int)=true:=by unfold qX;rw[uL,ho];simp
   have hio:old=i:=by unfold vO at hi;rw[if_pos ⟨hz,hfr⟩] at hi;exact Option.some.inj hi
   subst hio;have e1:qE G l old=G:=by unfold qE;rw[if_pos (.inr hfr)]
   have e2:vN l old=l:=by unfold vN;rw[if_neg hz,if_pos hfr]
   rw[e1,e2];exact⟨(zI7 ho p hp).iff (λk=>by simp[hz]) (λk=>rP),by simp[hz],by omega⟩
end
structure zJA where
 id0:Nat
 id1:Nat
 key:ByteArray
 two:Bool
 news:Bool
abbrev StA(α:Type):=(GA × List Nat × α) ⊕ Nat
def zBN(G:GA)(l:List Nat)(gen old:Nat)(n:zK):StA zJA :=
 if yM n<=(G.size:Int)-24 then (match vG G l old n with
  | some i=>.inl (yW G l gen old n,vR G l old n,⟨i,0,e0,false,false⟩)
  | none=>.inr (zCL G n))
 else match zLg n with
  | none=>.inr 8
  | some (a,k,b)=>if yM a<=(G.size:Int)-24/\yM b<=(G.size:Int)-24 then (match vG G l old a with
    | none=>.inr (zCL G a)
    | some i=>match vG (yW G l gen old a) (vR G l old a) 0 b with
     | none=>.inr (zCL (yW G l gen old a) b)
     | some j=>.inl (yW (yW G l gen old a) (vR G l old a) gen 0 b,vR (yW G l gen old a) (vR G l old a) 0 b,⟨i,j,k,true,false⟩))
   else .inr 8
def zDt(n:zK)(key:ByteArray)(e:zS):zK :=
  { n with entries:=n.entries.take (zBJ key n.entries)++[e]++n.entries.drop (zBJ key n.entries+if zEJ key n.entries=true then 1 else 0) }
def zKJ:zK:=⟨true,[],[],[]⟩
structure FrG(G:GA)(l:List Nat)(G':GA)(l':List Nat):Prop where
 sz:G'.size=G.size
 bl:G'.blocks=G.blocks
 len:l'.length=l.length
 keep:∀i,l[i]? = some 1\/l[i]? = some 3->(l'[i]? = some 1\/l'[i]? = some 3)/\G'.look i=G.look i/\(G'.view i=G.view i\/G'.view i=zED (G.look i) i)
 low:∀i,i<2->l[i]? = some 1->l'[i]? = some 1
 other:∀i:Nat,l[i]? = some 0\/l[i]? = some 2->l'[i]? = some 0\/l'[i]? = some 2
section
variable {G G1 G2:GA}{l l1 l2:List Nat}
theorem FrG.refl(G:GA)(l:List Nat):FrG G l G l:=⟨rfl,rfl,rfl,λ_ h=>⟨h,rfl,.inl rfl⟩,λ_ _ h=>h,λ_ h=>h⟩
def zKK(l:List Nat):Prop:=l[0]? = some 1/\l[1]? = some 1
theorem Upd.fr{A A1:NP}(h:Upd G l A G1 l1 A1)(hA:∀i,A i->2<=i):FrG G l G1 l1:=by
 refine⟨h.sz,h.bl,h.len,λi hi=>⟨?_,h.keep i hi⟩,λi hi h1=>?_,λi hi=>?_⟩
 .by_cases h1:A1 i
  .rcases h.inn i h1 with ⟨_,h2⟩|⟨h2,_⟩
   .rw[h2];exact hi
   .rcases hi with e|e <;> rw[h2] at e <;> simp at e
  .by_cases ha:A i
   .rcases h.gone i ha h1 with ⟨h2,_⟩|⟨_,h2⟩
    .rcases hi with e|e <;> rw[h2] at e <;> simp at e
    .exact .inr h2
   .rw[(h.rest i ha h1).1];exact hi
 .have ha:¬ A i:=λha=>by have:=hA i ha;omega
  have hn:¬ A1 i:=λh2=>by
   rcases h.inn i h2 with ⟨h3,_⟩|⟨h3,_⟩
   .exact ha h3
   .rw[h3] at h1;simp at h1
  rw[(h.rest i ha hn).1];exact h1
 .by_cases h1:A1 i
  .rcases h.inn i h1 with ⟨_,h2⟩|⟨_,h2⟩
   .rw[h2];exact hi
   .exact .inr h2
  .by_cases ha:A i
   .rcases h.gone i ha h1 with ⟨_,h2⟩|⟨h2,_⟩
    .exact .inl h2
    .rcases hi with e|e <;> rw[h2] at e <;> simp at e
   .rw[(h.rest i ha h1).1];exact hi
theorem zHj{G:GA}{l:List Nat}{old:Nat}{n:zK}(h:vG G l old n=none)(_ho:old=0\/(2<=old/\(l[old]? = some 1\/l[old]? = some 2))):vR G l old n=l:=by
 unfold vG at h;unfold vR;split at h
 .rename_i hd;rw[if_pos hd];unfold vO at h;unfold vN;split at h
  .cases h
  .rename_i hf;by_cases hz:old=0
   .rw[if_pos hz];unfold zAm;rw[h]
   .rw[if_neg hz,if_neg (λhf2=>hf ⟨hz,hf2⟩),h]
 .rename_i hd;rw[if_neg hd]
theorem zHk{gen old:Nat}{n:zK}(h:vG G l old n=none):yW G l gen old n=G:=by unfold yW;rw[h]
def zAw(l:List Nat)(old:Nat):Prop:=old=0\/(2<=old/\(l[old]? = some 1\/l[old]? = some 2))
theorem zAw.ok{old:Nat}(h:zAw l old):zF1 l old:=h.imp id (λh=>h.2)
theorem zAw.two{old:Nat}(h:zAw l old):old=0\/2<=old:=h.imp id (λh=>h.1)
theorem zAw.lt{old:Nat}(h:zAw l old)(hl:l.length<=256):old<256:=by
 rcases h with rfl|⟨_,h|h⟩
 .omega
 .have:=(uB.1 h).1;omega
 .have:=(uB.1 h).1;omega
theorem zKL{gen old i:Nat}{n:zK}(ho:zAw l old)(hi:vG G l old n=some i)(h0:l[0]? ≠ some 0) :
  Upd G l (λk=>k=old/\old≠0) (yW G l gen old n) (vR G l old n) (λk=>k=i)/\zHi l-(if old=0 then 1 else 0)<=zHi (vR G l old n)/\1<=i/\i<l.length/\(yW G l gen old n).view i=some (.inl ⟨zBM n,(i:Int),gen,zT n⟩)/\zA8 n G.size:=by
 have hd:zA8 n G.size:=by
  unfold vG at hi;split at hi
  .rename_i h;exact h
  .cases hi
 have hp:vO l old=some i:=by unfold vG at hi;rw[if_pos hd] at hi;exact hi
 have e1:yW G l gen old n=(qE G l old).put ⟨zBM n,(i:Int),gen,zT n⟩:=by unfold yW;rw[hi]
 have e2:vR G l old n=vN l old:=by unfold vR;rw[if_pos hd]
 obtain⟨u1,u2,u3⟩:=zI9 (G:=G) ho hp ⟨zBM n,(i:Int),gen,zT n⟩ rfl h0;rw[e1,e2];exact⟨u1,u2,u3,zFW hp,by rw[zAk];simp,hd⟩
theorem zKy{gen old:Nat}{n:zK}(ho:zAw l old)(h0:l[0]? ≠ some 0):FrG G l (yW G l gen old n) (vR G l old n):=by
 cases hi:vG G l old n with
 | none=>rw[zHk hi,zHj hi ho];exact FrG.refl G l
 | some i=>exact (zKL ho hi h0).1.fr (λk hk=>by
   obtain⟨rfl,hz⟩:=hk;rcases ho with h|h
   .exact absurd h hz
   .exact h.1)
end
end
section
open Go.RowKit
attribute [local go_sem ↓] Go.wp_at_zero Go.wp_at_succ
structure zBX(F P:NP)(w0 wr:World)(b:Nat)(c:Array Value)(t:TypeId):Prop where
 blk:zJ wr b c t
 f:F b
 p:¬ P b
 new:w0.heap.size<=b
section
variable {P P' F F':NP}{ad:Nat->Addr}{w0 w w':World}{b b2:Nat}{c c2:Array Value}{t t2:TypeId}
theorem zBX.nxt(h:zBX F P w0 w b c t)(n:zR P P' F F' ad w w'):zBX F' P' w0 w' b c t:=⟨n.blk h.blk h.p,n.grow b h.f,n.not h.blk.lt h.p,h.new⟩
theorem zBX.ext(h:zBX F P w0 w b c t)(m:zF w w'):zBX F P w0 w' b c t:=⟨h.blk.ext m,h.f,h.p,h.new⟩
theorem zBX.other(h:zBX F P w0 w b c t){b2:Nat}(m:zA (λk=>k=b2) w w')(hb:b≠b2):zBX F P w0 w' b c t:=⟨h.blk.mods m hb,h.f,h.p,h.new⟩
end
section
variable {P P0 F F0:NP}{ad:Nat->Addr}{w0 w w':World}{b:Nat}{cc:Array Value}{t:TypeId}{c s:Nat}{G:GA}{l:List Nat}
theorem jC.var(h:jC F w P c s G l)(v:zBX F P w0 w b cc t)(m:zA (λk=>k=b) w w'):jC F w' P c s G l:=h.res m v.p v.f
theorem zR.var(n:zR P0 P F0 F ad w0 w)(v:zBX F P w0 w b cc t)(m:zA (λk=>k=b) w w'):zR P0 P F0 F ad w0 w':=n.resD m v.new v.f
theorem zBX.mF(v:zBX F P w0 w b cc t)(m:zA (λk=>k=b) w w'):zA F w w':=m.mono (λ_ hk=>hk ▸ v.f)
end
def zKM(o:zJA):Array Value:=#[.int .i64 (o.id0:Int),.int .i64 (o.id1:Int),.string o.key,.bool o.two,.bool o.news]
def zMG:zJA:=⟨0,0,e0,false,false⟩
abbrev zBc:Array Value:=#[.int .i64 0,.int .i64 0,.string ⟨#[]⟩,.bool false,.bool false]
def zLt(F P:NP)(ad:Nat->Addr)(w:World)(c s:Nat)(G:GA)(l:List Nat)(r:StA zJA)(e:Ending)(w':World):Prop :=
  ∃(P' F':NP) (G':GA) (l':List Nat),jC F' w' P' c s G' l'/\zR P P' F F' ad w w' /\
    ((∃ o, r = .inl (G', l', o) /\ e = .returned (.tuple #[.agg (zKM o), .nilIface])) \/
     (∃k o f el,r=.inr k/\FrG G l G' l'/\e=.returned (.tuple #[.agg (zKM o),zD f])/\yG F' ad w' (zD f) el k))
theorem Tryz.outSz:(Tryz.prog.info? 294).map (·.size)=some 5:=by kernel_rfl
theorem zKN{G:GA}{l:List Nat}{old i:Nat}{n:zK}(h:vG G l old n=some i):zA8 n G.size:=by
 unfold vG at h;split at h
 .rename_i hd;exact hd
 .cases h
theorem zJB(G:GA)(l:List Nat)(gen old:Nat)(n:zK):(yW G l gen old n).size=G.size/\(yW G l gen old n).blocks=G.blocks/\(yW G l gen old n).cost<=G.cost+1:=by
 unfold yW;split
 .exact⟨rfl,rfl,by omega⟩
 .obtain⟨h1,h2,h3⟩:=zBq G l old;exact⟨h1,h2,by show (qE G l old).cost+1<=_;omega⟩
structure zKO(G:GA)(l:List Nat)(old:Nat)(n:zK):Prop where
 place:zAw l old
 low:zKK l
 len:l.length<=G.blocks
 cost:G.cost+10<=1000000
 wt:yM n<=100000
 bytes:zY n=true->(zT n).length<=100000
 cut:¬ yM n<=(G.size:Int)-24->∃a k b,zLg n=some (a,k,b)/\yM a<=(G.size:Int)-24/\yM b<=(G.size:Int)-24
 few:n.entries.length<=100000/\n.keys.length<=100000/\n.kids.length<=100000
section
variable {P P' F F':NP}{ad:Nat->Addr}{w w':World}{c s:Nat}{G:GA}{l:List Nat}
theorem zGx(n:zK)(hF:yM n<=(G.size:Int)-24)(hL:zZ F ad w)(hP:∀k,P k->F k)(h:jC F w P c s G l)(gen old:Nat)(hgen:gen<18446744073709551616)(ve vk vi:Value)(hve:Sl F w 4 zAA ve n.entries)(hvk:Sl F w 1 zBP vk n.keys)(hvi:Sl F w 1 yX vi n.kids)(hok:zKO G l old n) :
  Calls Tryz.prog 270 #[pgV c s gen,.int .i64 (old:Int),.agg #[.bool n.leaf,ve,vk,vi]] w (zLt F P ad w c s G l (zBN G l gen old n)):=by
 have HFF:=oh hF;clear hF;obtain⟨w1,hw1⟩:∃w1,w1=(((w.alloc (gP c s gen)).alloc (.cells #[.bool n.leaf,ve,vk,vi] 277)).alloc (.cells zBc 294)).alloc (.cells zBc 294):=⟨_,rfl⟩;have m0:zF w w1:=by rw[hw1];exact ((((zss w).alloc _).alloc _).alloc _).alloc _
 have hz:w1.heap.size=w.heap.size+4:=by rw[hw1];simp
 have hN:zR P P F (λk=>F k\/(w.heap.size<=k/\k<w1.heap.size)) ad w w1:=zR.new hL hP (Q:=λk=>w.heap.size<=k/\k<w1.heap.size) m0 (λk hk=>hk.1) (λk hk=>hk.2);have HB:=oh (show zBX (λk=>F k\/(w.heap.size<=k/\k<w1.heap.size)) P w w1 w.heap.size (gP c s gen) 140 from ⟨by rw[hw1];exact (((zJ.new w _ _).alloc _).alloc _).alloc _,.inr ⟨by omega,by omega⟩,λhp=>by have:=h.bd _ hp;omega,by omega⟩);have HD:=oh (show zBX (λk=>F k\/(w.heap.size<=k/\k<w1.heap.size)) P w w1 (w.heap.size+1) #[.bool n.leaf,ve,vk,vi] 277 from ⟨by rw[hw1];exact ((show zJ ((w.alloc _).alloc (.cells #[.bool n.leaf,ve,vk,vi] 277)) (w.heap.size+1) #[.bool n.leaf,ve,vk,vi] 277 from zU (by simp)).alloc _).alloc _,.inr ⟨by omega,by omega⟩,λhp=>by have:=h.bd _ hp;omega,by omega⟩);have HR:=oh (show zBX (λk=>F k\/(w.heap.size<=k/\k<w1.heap.size)) P w w1 (w.heap.size+1+1) zBc 294 from ⟨by rw[hw1];exact (show zJ (((w.alloc _).alloc _).alloc (.cells zBc 294)) (w.heap.size+1+1) zBc 294 from zU (by simp)).alloc _,.inr ⟨by omega,by omega⟩,λhp=>by have:=h.bd _ hp;omega,by omega⟩);have HO:=oh (show zBX (λk=>F k\/(w.heap.size<=k/\k<w1.heap.size)) P w w1 (w.heap.size+1+1+1) zBc 294 from ⟨by rw[hw1];exact zU (by simp),.inr ⟨by omega,by omega⟩,λhp=>by have:=h.bd _ hp;omega,by omega⟩);have HG:=oh (h.plusNew hP (Q:=λk=>w.heap.size<=k/\k<w1.heap.size) m0 (λk hk=>hk.1));have HVE:=oh (hN.sl hP hve);have HVK:=oh (hN.sl hP hvk);have HVI:=oh (hN.sl hP hvi);have HLIM:=oh h.lim;have HN:=oh hN;have HOK:=oh hok;have HSZ:=oh (λW (m:zF w1 W)=>zEf (HG.out.at m) gen);have HFT:Hid (∀W,zF w1 W -> Calls Tryz.prog 274 #[.agg #[.bool n.leaf,ve,vk,vi],.int .i64 (G.size:Int)] W λe w'=>e=.returned (.bool (decide (yM n<=(G.size:Int)-24)))/\zF W w'):=oh (λW m=>zGo n ve vk vi W (HVE.out.ext m) (HVK.out.ext m) (by have:=hok.wt;omega) _ (by omega) (by have:=HLIM.out;omega));obtain⟨ea,ec,rfl,_,_,_,_⟩:=hve;obtain⟨ka,kc,rfl,_,_,_,_⟩:=hvk;obtain⟨ia,ic,rfl,_,_,_,_⟩:=hvi;have b0:=HB.out.blk.k 0 rfl;have b1:=HB.out.blk.k 1 rfl;have b2:=HB.out.blk.k 2 rfl;have n0:=HD.out.blk.k 0 rfl;have n1:=HD.out.blk.k 1 rfl;have n2:=HD.out.blk.k 2 rfl;have n3:=HD.out.blk.k 3 rfl;have HW1:=oh hw1;clear hL hP h m0 hN hok hw1;unfold pgV at HSZ ⊢
 go_enter Tryz.func270, Tryz.ntmps270
 go_wp2_with fail;rw[<- HW1.out];go_cut [17] (λv17 wx=>v17=.bool (decide (yM n<=(G.size:Int)-24))/\Hid (zF w1 wx))
 case first =>
  go_region_held3 (λw'=>w'.cell? ⟨w.heap.size+1,0,none⟩=some (.bool n.leaf)/\w'.cell? ⟨w.heap.size+1,1,none⟩=some (.slice ea n.entries.length ec)/\w'.cell? ⟨w.heap.size+1,2,none⟩=some (.slice ka n.keys.length kc)/\w'.cell? ⟨w.heap.size+1,3,none⟩=some (.slice ia n.kids.length ic) /\
    w'.cell? ⟨w.heap.size,0,none⟩=some (.pointer (some ⟨c,0,none⟩))/\w'.cell? ⟨w.heap.size,1,none⟩=some (.pointer (some ⟨s,0,none⟩))/\w'.cell? ⟨w.heap.size,2,none⟩=some (.int .u64 (gen:Int)))
   (first|(with_reducible exact⟨n0,n1,n2,n3,b0,b1,b2⟩)|(with_reducible exact⟨y0,y1,y2,y3,d0,d1,d2⟩)|(with_reducible exact⟨z0,z1,z2,z3,f0,f1,f2⟩)|go_keep)
   (first
    | (go_at_call 275;(with_reducible refine (HSZ.out _ (zss w1).drew).mono ?_);rintro e w2 ⟨rfl,hm2⟩;have y0:=zI hm2 n0;have y1:=zI hm2 n1;have y2:=zI hm2 n2;have y3:=zI hm2 n3;have d0:=zI hm2 b0;have d1:=zI hm2 b1;have d2:=zI hm2 b2)
    | (go_at_call 274;refine (HFT.out _ ((zss w1).drew.trans hm2)).mono ?_;rintro e w3 ⟨rfl,hm3⟩;have z0:=zI hm3 y0;have z1:=zI hm3 y1;have z2:=zI hm3 y2;have z3:=zI hm3 y3;have f0:=zI hm3 d0;have f1:=zI hm3 d1;have f2:=zI hm3 d2)
    | fail)
  all_goals
   go_wp2_with fail;go_meet;exact⟨rfl,oh ((zss w1).drew.trans (hm2.trans hm3))⟩
 obtain⟨rfl,HX⟩:=hcut;have HB:=oh (HB.out.ext HX.out);have HD:=oh (HD.out.ext HX.out);have HR:=oh (HR.out.ext HX.out);have HO:=oh (HO.out.ext HX.out);have HN1:=oh (HN.out.trans (zR.ext HN.out.env HN.out.sub HX.out));have HG:=oh (HG.out.at HX.out);have b0:=HB.out.blk.k 0 rfl;have b1:=HB.out.blk.k 1 rfl;have b2:=HB.out.blk.k 2 rfl;have n0:=HD.out.blk.k 0 rfl;have n1:=HD.out.blk.k 1 rfl;have n2:=HD.out.blk.k 2 rfl;have n3:=HD.out.blk.k 3 rfl;cases hfit:decide (yM n<=(G.size:Int)-24) with
 | true =>
  have HFT:=oh (of_decide_eq_true hfit);have HDW:=oh (zKH HN1.out.env HN1.out.sub HG.out gen old hgen n _ _ _ (HVE.out.ext HX.out) (HVK.out.ext HX.out) (HVI.out.ext HX.out) HOK.out.bytes HOK.out.place.ok HOK.out.place.two (HOK.out.place.lt (by have:=HLIM.out;omega)) HOK.out.len (by have:=HOK.out.cost;omega));unfold pgV at HDW;clear hfit;go_wp2_with fail;refine HDW.out.mono ?_;rintro e w2 ⟨P2,F2,hG2,hN2,hr⟩;have HR2:=oh (HR.out.nxt hN2);have hO2:=HO.out.nxt hN2;have HG2:=oh hG2;have HN2:=oh (HN1.out.trans hN2);have o0:=hO2.blk.k 0 rfl;have o1:=hO2.blk.k 1 rfl;have o2:=hO2.blk.k 2 rfl;have o3:=hO2.blk.k 3 rfl;have o4:=hO2.blk.k 4 rfl;have of:=hO2.blk.frozen;have HO2:=oh hO2;have r0:=HR2.out.blk.k 0 rfl;have r1:=HR2.out.blk.k 1 rfl;have r2:=HR2.out.blk.k 2 rfl;have r3:=HR2.out.blk.k 3 rfl;have r4:=HR2.out.blk.k 4 rfl;have rf:=HR2.out.blk.frozen;clear hG2 hN2 hO2;rcases hr with ⟨i,hi,rfl⟩|⟨hi,f,el,rfl,hE⟩
  .have HSA:Hid (zBN G l gen old n=.inl (yW G l gen old n,vR G l old n,⟨i,0,e0,false,false⟩)):=oh (by unfold zBN;rw[if_pos HFT.out,hi]);clear hi;go_wp2_with fail;have mO:=zA.at (λk=>k=w.heap.size+1+1+1) w2 (w.heap.size+1+1+1) 0 (.int .i64 (i:Int)) rfl;have g3:=HG2.out.var HO2.out mO;have n3:=HN2.out.var HO2.out mO;have r3:=HR2.out.other mO (by omega);have mR:=zA.set5 (F:=λk=>k=w.heap.size+1+1) (zA.refl _ (w2.setCell ⟨w.heap.size+1+1+1,0,none⟩ (.int .i64 (i:Int)))) (R:=w.heap.size+1+1) (.inr rfl) (.int .i64 (i:Int)) (.int .i64 0) (.string ⟨#[]⟩) (.bool false) (.bool false);have bR:=r3.blk.set5 (.int .i64 (i:Int)) (.int .i64 0) (.string ⟨#[]⟩) (.bool false) (.bool false);refine bodyPost_ret (zG rfl _ _ (w.heap.size+1+1) 294 _ _ rfl bR Tryz.underlying294 rfl Tryz.outSz) rfl ?_;exact⟨P2,F2,_,_,g3.var r3 mR,n3.var r3 mR,.inl ⟨_,HSA.out,rfl⟩⟩
  .have HSA:Hid (zBN G l gen old n=.inr (zCL G n)):=oh (by unfold zBN;rw[if_pos HFT.out,hi]);have HFR:Hid (FrG G l (yW G l gen old n) (vR G l old n)):=oh (zKy HOK.out.place (by rw[HOK.out.low.1];simp));have HE:=oh hE;clear hi hE;go_wp2_with fail;have mO:=zA.at (λk=>k=w.heap.size+1+1+1) w2 (w.heap.size+1+1+1) 0 (.int .i64 0) rfl;have g3:=HG2.out.var HO2.out mO;have n3:=HN2.out.var HO2.out mO;have r3:=HR2.out.other mO (by omega);have mR:=zA.set5 (F:=λk=>k=w.heap.size+1+1) (zA.refl _ (w2.setCell ⟨w.heap.size+1+1+1,0,none⟩ (.int .i64 0))) (R:=w.heap.size+1+1) (.inr rfl) (.int .i64 0) (.int .i64 0) (.string ⟨#[]⟩) (.bool false) (.bool false);have bR:=r3.blk.set5 (.int .i64 0) (.int .i64 0) (.string ⟨#[]⟩) (.bool false) (.bool false);refine bodyPost_ret (zG rfl _ _ (w.heap.size+1+1) 294 _ _ rfl bR Tryz.underlying294 rfl Tryz.outSz) rfl ?_;exact⟨P2,F2,_,_,g3.var r3 mR,n3.var r3 mR,.inr ⟨_,zMG,_,_,HSA.out,HFR.out,rfl,(HE.out.mods (HO2.out.mF mO)).mods (r3.mF mR)⟩⟩
 | false=>exact absurd HFF.out (of_decide_eq_false hfit)
end
theorem Tryz.entSz:(Tryz.prog.info? 289).map (·.size)=some 4:=by kernel_rfl
section
variable {P P' F F':NP}{ad:Nat->Addr}{w w':World}{c s:Nat}{G:GA}{l:List Nat}
theorem zHl(gen:Nat)(key v:ByteArray)(hv:v.size<=24) :
  Calls Tryz.prog 268 #[pgV c s gen,.string key,.string v] w λe w'=>e=.returned (.tuple #[.agg #[.string key,.string v,.int .i64 0,.int .i64 0],.nilIface])/\zF w w':=by
 have hv2:(v.size:Int)<=24:=by omega
 have HB:Hid (zJ ((w.alloc (gP c s gen)).alloc (.cells #[.string key,.string v,.int .i64 0,.int .i64 0] 289)) (w.heap.size+1) #[.string key,.string v,.int .i64 0,.int .i64 0] 289):=oh (zU (by simp));have HM:Hid (zF w ((w.alloc (gP c s gen)).alloc (.cells #[.string key,.string v,.int .i64 0,.int .i64 0] 289))):=oh (((zss w).alloc _).alloc _);clear hv;unfold pgV
 go_enter Tryz.func268, Tryz.ntmps268
 go_wp2_with fail;refine bodyPost_ret (zG rfl _ _ (w.heap.size+1) 289 _ _ rfl HB.out Tryz.underlying289 rfl Tryz.entSz) rfl ?_;exact⟨rfl,HM.out⟩
end
section
variable {P P' F F':NP}{ad:Nat->Addr}{w w':World}{c s:Nat}{G:GA}{l:List Nat}
def zLC(b:Bool):StA zJA->StA zJA
 | .inr k=>.inr k
 | .inl (G2,l2,o)=>.inl (G2,l2,{ o with news:=b })
theorem zJC{n:zK}{key:ByteArray}(hno:zEJ key n.entries=false)(e:zS):(zDt n key e).entries=n.entries.take (zBJ key n.entries)++[e]++n.entries.drop (zBJ key n.entries+0):=by
 unfold zDt;rw[hno];rfl
theorem zKP(key:ByteArray)(es:List zS):zBJ key es<=es.length:=List.findIdx_le_length
theorem zJD(n:zK)(hlf:n.leaf=true)(key v:ByteArray)(hno:zEJ key n.entries=false)(hv:v.size<=24)(hF:yM (zDt n key ⟨key,v,0,0⟩)<=(G.size:Int)-24)(hL:zZ F ad w)(hP:∀k,P k->F k)(h:jC F w P c s G l)(gen old:Nat)(hgen:gen<18446744073709551616)(ve vk vi:Value)(hve:Sl F w 4 zAA ve n.entries)(hvk:Sl F w 1 zBP vk n.keys)(hvi:Sl F w 1 yX vi n.kids)(hfew:n.entries.length<=100000)(hok:zKO G l old (zDt n key ⟨key,v,0,0⟩)) :
  Calls Tryz.prog 186 #[pgV c s gen,.int .i64 (old:Int),.agg #[.bool true,ve,vk,vi],.string key,.string v] w (zLt F P ad w c s G l (zLC true (zBN G l gen old (zDt n key ⟨key,v,0,0⟩)))):=by
 obtain⟨w1,hw1⟩:∃w1,w1=((w.alloc (gP c s gen)).alloc (.cells #[.bool true,ve,vk,vi] 277)).alloc (.cells zBc 294):=⟨_,rfl⟩;have m0:zF w w1:=by rw[hw1];exact (((zss w).alloc _).alloc _).alloc _
 have hz:w1.heap.size=w.heap.size+3:=by rw[hw1];simp
 have hN:zR P P F (λk=>F k\/(w.heap.size<=k/\k<w1.heap.size)) ad w w1:=zR.new hL hP (Q:=λk=>w.heap.size<=k/\k<w1.heap.size) m0 (λk hk=>hk.1) (λk hk=>hk.2);have HB:=oh (show zBX (λk=>F k\/(w.heap.size<=k/\k<w1.heap.size)) P w w1 w.heap.size (gP c s gen) 140 from ⟨by rw[hw1];exact ((zJ.new w _ _).alloc _).alloc _,.inr ⟨by omega,by omega⟩,λhp=>by have:=h.bd _ hp;omega,by omega⟩);have HD:=oh (show zBX (λk=>F k\/(w.heap.size<=k/\k<w1.heap.size)) P w w1 (w.heap.size+1) #[.bool true,ve,vk,vi] 277 from ⟨by rw[hw1];exact (show zJ ((w.alloc _).alloc (.cells #[.bool true,ve,vk,vi] 277)) (w.heap.size+1) #[.bool true,ve,vk,vi] 277 from zU (by simp)).alloc _,.inr ⟨by omega,by omega⟩,λhp=>by have:=h.bd _ hp;omega,by omega⟩);have HR:=oh (show zBX (λk=>F k\/(w.heap.size<=k/\k<w1.heap.size)) P w w1 (w.heap.size+1+1) zBc 294 from ⟨by rw[hw1];exact zU (by simp),.inr ⟨by omega,by omega⟩,λhp=>by have:=h.bd _ hp;omega,by omega⟩);have HG:=oh (h.plusNew hP (Q:=λk=>w.heap.size<=k/\k<w1.heap.size) m0 (λk hk=>hk.1));have HVE:=oh (hN.sl hP hve);have HVK:=oh (hN.sl hP hvk);have HVI:=oh (hN.sl hP hvi);have HN:=oh hN;have HOK:=oh hok;have HFIT:=oh hF;have HFN:=oh (zBm hlf key);have HNO:=oh hno;have HLF:=oh hlf;obtain⟨ea,ec,rfl,_,_,_,_⟩:=hve;obtain⟨ka,kc,rfl,_,_,_,_⟩:=hvk;obtain⟨ia,ic,rfl,_,_,_,_⟩:=hvi;obtain⟨at_,hat⟩:∃at_,at_=zBJ key n.entries:=⟨_,rfl⟩
 have hal:at_<=n.entries.length:=by rw[hat];exact zKP _ _
 have HAT:=oh hat;have b0:=HB.out.blk.k 0 rfl;have b1:=HB.out.blk.k 1 rfl;have b2:=HB.out.blk.k 2 rfl;have n0:=HD.out.blk.k 0 rfl;have n1:=HD.out.blk.k 1 rfl;have n2:=HD.out.blk.k 2 rfl;have n3:=HD.out.blk.k 3 rfl;have HW1:=oh hw1;have HFD:=zBl n key _ _ (.slice ia n.kids.length ic) HVE.out HVK.out;rw[hlf,zBm hlf key,hno,<- hat] at HFD;have HFD:=oh HFD;have HEN:=oh (λW=>zHl (c:=c) (s:=s) (w:=W) gen key v hv);clear hL hP h m0 hN hok hw1 hF hlf hno hv hat;unfold pgV at HEN ⊢
 go_enter Tryz.func186, Tryz.ntmps186
 go_wp2_with fail;rw[<- HW1.out];refine HFD.out.mono ?_;rintro e w2 ⟨rfl,hm2⟩;have HX2:=oh hm2;have b0:=zI hm2 b0;have b1:=zI hm2 b1;have b2:=zI hm2 b2;clear hm2;go_wp2_with fail;refine (HEN.out _).mono ?_;rintro e w3 ⟨rfl,hm3⟩;obtain⟨w4,hw4⟩:∃w4,w4=(w3.alloc (.cells #[.string key,.string v,.int .i64 0,.int .i64 0] 289)).alloc (.cells #[.string key,.string v,.int .i64 0,.int .i64 0] 289):=⟨_,rfl⟩;have hm4:zF w1 w4:=by rw[hw4];exact ((HX2.out.trans hm3).alloc _).alloc _
 have HX4:=oh hm4;have n1:=(HD.out.ext (HX2.out.trans hm3)).blk.k 1 rfl;have n1c:=qC n1 (.cells #[.string key,.string v,.int .i64 0,.int .i64 0] 289);have HSL1:Hid (Sl (λk=>F k\/(w.heap.size<=k/\k<w1.heap.size)) w4 4 zAA (.slice (some ⟨w3.heap.size+1,0,none⟩) 1 1) [(⟨key,v,0,0⟩:zS)]):=oh (Sl.one (by rw[hw4];exact zU (by simp)) (λf=>by
  rcases f with f|f
  .have:=HN.out.env.lt _ (.inl f);have:=(HX2.out.trans hm3).size;omega
  .have:=(HX2.out.trans hm3).size;omega))
 have n1b:w4.cell? ⟨w.heap.size+1,1,none⟩=some (.slice ea n.entries.length ec):=(HD.out.ext hm4).blk.k 1 rfl;have HW4:=oh hw4;clear hm3 hm4 hw4;go_wp2_with fail;rw[<- HW4.out];refine (zIv _ _ n.entries [(⟨key,v,0,0⟩:zS)] (HVE.out.ext HX4.out) HSL1.out at_ 0 (by omega) (by omega) (by simp)).mono ?_;rintro e w5 ⟨ev,rfl,hO5,hm5⟩;obtain⟨oa,oc,rfl,_,_⟩:=hO5.form;have HL5:Hid ((n.entries.take at_++[(⟨key,v,0,0⟩:zS)]++n.entries.drop (at_+0))=(zDt n key ⟨key,v,0,0⟩).entries):=oh (by rw[zJC HNO.out,HAT.out]);rw[HL5.out] at hO5 ⊢;have HX5:=oh (HX4.out.trans hm5);have hD5:=HD.out.ext HX5.out;have HO5:=oh (hO5.rebase (base':=w1.heap.size) HX4.out.size);have d0:=hD5.blk.d 0 (.bool true) rfl;have d1:=hD5.blk.d 1 (.slice ea n.entries.length ec) rfl;have d2:=hD5.blk.d 2 (.slice ka n.keys.length kc) rfl;have d3:=hD5.blk.d 3 (.slice ia n.kids.length ic) rfl;have df:=hD5.blk.frozen;have b0:=(HB.out.ext HX5.out).blk.k 0 rfl;have b1:=(HB.out.ext HX5.out).blk.k 1 rfl;have b2:=(HB.out.ext HX5.out).blk.k 2 rfl;obtain⟨n',hn'⟩:∃n',n'=zDt n key ⟨key,v,0,0⟩:=⟨_,rfl⟩;have HN':Hid (n'.leaf=true/\n'.keys=n.keys/\n'.kids=n.kids):=oh (by rw[hn'];exact⟨HLF.out,rfl,rfl⟩);rw[<- hn'] at HO5 HOK HFIT HL5 ⊢;have mD:zA (λk=>k=w.heap.size+1) w5 (w5.setCell ⟨w.heap.size+1,1,none⟩ (.slice oa n'.entries.length oc)):=zA.at _ w5 _ 1 _ rfl;have HGD:=oh ((HG.out.at HX5.out).var hD5 mD);have HND:=oh ((HN.out.trans (zR.ext HN.out.env HN.out.sub HX5.out)).var hD5 mD);have HRD:=oh ((HR.out.ext HX5.out).other mD (by omega));have hmF:=hD5.mF mD;have HSE:Hid (Sl (λk=>F k\/(w.heap.size<=k/\k<w1.heap.size)) (w5.setCell ⟨w.heap.size+1,1,none⟩ (.slice oa n'.entries.length oc)) 4 zAA (.slice oa n'.entries.length oc) n'.entries):=oh ((HO5.out.slF (λk hk=>by
  rcases hk with hk|hk
  .exact HN.out.env.lt k (.inl hk)
  .exact hk.2) zBL.len (by have:=HOK.out.few.1;omega)).mods hmF)
 have HSK:=oh (((HVK.out.ext HX5.out).mods hmF));have HSI:=oh (((HVI.out.ext HX5.out).mods hmF));have HST:=zGx n' HFIT.out HND.out.env HND.out.sub HGD.out gen old hgen _ _ _ HSE.out (by rw[HN'.out.2.1];exact HSK.out) (by rw[HN'.out.2.2];exact HSI.out) HOK.out;rw[HN'.out.1] at HST;unfold pgV at HST;have HST:=oh HST;have HNN:=oh hn';clear hO5 hm5 hD5 mD hmF hn';go_wp2_with fail;refine HST.out.mono ?_;rintro e w6 ⟨P6,F6,G6,l6,hG6,hN6,hr⟩;have HR6:=oh (HRD.out.nxt hN6);have HG6:=oh hG6;have HN6:=oh (HND.out.trans hN6);have hlt6:w.heap.size+1+1<w6.heap.size:=HR6.out.blk.lt;have hne6:w6.heap.size≠w.heap.size+1+1:=by omega
 clear hG6 hN6;rcases hr with ⟨o,hs,rfl⟩|⟨k,o,f,el,hs,hfr,rfl,hE⟩
 .have HS:=oh hs;clear hs;unfold zKM;have q0:=HR6.out.blk.k 0 rfl;have q1:=HR6.out.blk.k 1 rfl;have q2:=HR6.out.blk.k 2 rfl;have q3:=HR6.out.blk.k 3 rfl;have q4:=HR6.out.blk.k 4 rfl;have qf:=HR6.out.blk.frozen;go_wp2_with fail;have mR:=zA.set5 (F:=λk=>k=w.heap.size+1+1) (zss w6) (R:=w.heap.size+1+1) (.inr rfl) (.int .i64 (o.id0:Int)) (.int .i64 (o.id1:Int)) (.string o.key) (.bool o.two) (.bool true);have bR:=HR6.out.blk.set5 (.int .i64 (o.id0:Int)) (.int .i64 (o.id1:Int)) (.string o.key) (.bool o.two) (.bool true);have gR:=HG6.out.var HR6.out mR;have nR:=HN6.out.var HR6.out mR;have mA:=(zA.refl (λ_=>False) (((((w6.setCell ⟨w.heap.size+1+1,0,none⟩ (.int .i64 (o.id0:Int))).setCell ⟨w.heap.size+1+1,1,none⟩ (.int .i64 (o.id1:Int))).setCell ⟨w.heap.size+1+1,2,none⟩ (.string o.key)).setCell ⟨w.heap.size+1+1,3,none⟩ (.bool o.two)).setCell ⟨w.heap.size+1+1,4,none⟩ (.bool true))).alloc (.cells #[.int .i64 (o.id0:Int),.int .i64 (o.id1:Int),.string o.key,.bool o.two,.bool true] 294);refine bodyPost_ret (zG rfl _ _ (w.heap.size+1+1) 294 _ _ rfl (bR.ext mA) Tryz.underlying294 rfl Tryz.outSz) rfl ?_;exact⟨P6,F6,G6,l6,gR.at mA,nR.trans (zR.ext nR.env nR.sub mA),.inl ⟨{ o with news:=true },by rw[<- HNN.out,HS.out];rfl,rfl⟩⟩
 .have HS:=oh hs;have HE:=oh hE;clear hs hE;unfold zKM;have q0:=HR6.out.blk.k 0 rfl;have q1:=HR6.out.blk.k 1 rfl;have q2:=HR6.out.blk.k 2 rfl;have q3:=HR6.out.blk.k 3 rfl;have q4:=HR6.out.blk.k 4 rfl;have qf:=HR6.out.blk.frozen;go_wp2_with fail;have mR:=zA.set5 (F:=λk=>k=w.heap.size+1+1) (zss w6) (R:=w.heap.size+1+1) (.inr rfl) (.int .i64 (o.id0:Int)) (.int .i64 (o.id1:Int)) (.string o.key) (.bool o.two) (.bool true);have bR:=HR6.out.blk.set5 (.int .i64 (o.id0:Int)) (.int .i64 (o.id1:Int)) (.string o.key) (.bool o.two) (.bool true);have gR:=HG6.out.var HR6.out mR;have nR:=HN6.out.var HR6.out mR;have mA:=(zA.refl (λ_=>False) (((((w6.setCell ⟨w.heap.size+1+1,0,none⟩ (.int .i64 (o.id0:Int))).setCell ⟨w.heap.size+1+1,1,none⟩ (.int .i64 (o.id1:Int))).setCell ⟨w.heap.size+1+1,2,none⟩ (.string o.key)).setCell ⟨w.heap.size+1+1,3,none⟩ (.bool o.two)).setCell ⟨w.heap.size+1+1,4,none⟩ (.bool true))).alloc (.cells #[.int .i64 (o.id0:Int),.int .i64 (o.id1:Int),.string o.key,.bool o.two,.bool true] 294);refine bodyPost_ret (zG rfl _ _ (w.heap.size+1+1) 294 _ _ rfl (bR.ext mA) Tryz.underlying294 rfl Tryz.outSz) rfl ?_;exact⟨P6,F6,G6,l6,gR.at mA,nR.trans (zR.ext nR.env nR.sub mA),.inr ⟨k,{ o with news:=true },f,el,by rw[<- HNN.out,HS.out];rfl,hfr,rfl,(HE.out.mods (HR6.out.mF mR)).mods mA.ext⟩⟩
end
end
end Go.Proofs.YtgphfebjjedeaaaGreatDoor
