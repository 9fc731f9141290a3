import Derived.Test.YtchklfmggpconaaGreatDoorK25
import Derived.IntWalk
namespace Go.Proofs.YtchklfmggpconaaGreatDoor
open Lib renaming hid->oh
section
open Go.RowKit
attribute [local go_sem ↓] Go.wp_at_zero Go.wp_at_succ
section
variable {P P' P1 P2 F F' F1 F2 Q:Nat->Prop}{ad:Nat->Addr}{w w' wr w2:World}{c s:Nat}{G:GA}{l:List Nat}{v v':Value}{st st':List (Int × Nat)}{gen:Nat}
theorem yS.anti(h:yS F w P c s G l)(hQ:∀k,Q k->F k):yS Q w P c s G l :=
 h.plus (Q:=λ_=>False) (zA.refl _ w) (λ_ _ f=>f) (λ_ f=>f.elim) (λk _ hn hq=>hn (hQ k hq))
theorem zR.least(n:zR P P' F F' ad w w'):zR P P' F (λk=>F k\/P' k) ad w w' :=
 ⟨n.stp,λ_ h=>.inr h,λ_ h=>.inl h,λk hk h=>h.elim id (λh=>n.oldF k hk (n.sub k h)),n.env.anti (λk h=>h.elim (n.grow k) (n.sub k))⟩
end
end
section
open Go.RowKit
theorem zOp(e:zI):((jT e).length:Int)=yF e:=by
 unfold jT yF;by_cases h:e.chain=0
 .rw[if_pos h,if_pos h];simp only[uC,zO,zBx];omega
 .rw[if_neg h,if_neg h];simp only[uC,zO,zBx];omega
theorem zI6:∀l:List zI,((l.flatMap jT).length:Int)=zY l
 | []=>rfl
 | e :: l=>by
  rw[wI,uC,zY,<- zI6 l,<- zOp e];omega
theorem zI7:∀(l:List ByteArray) (k:List Int),l.length<=k.length->(((l.zip k).flatMap zAh).length:Int)=yA l
 | [],_,_=>rfl
 | s :: l,[],h=>by simp at h
 | s :: l,c :: k,h=>by
  rw[List.zip_cons_cons,wI,uC,yA,<- zI7 l k (by simpa using h)];unfold zAh;rw[uC,zBx,zO];simp only;omega
def zAo(n:zF):Prop:=if n.leaf=true then n.keys=[]/\n.kids=[] else n.entries=[]/\n.kids.length=n.keys.length+1
theorem vW{n:zF}(h:zAo n):zD n=((zZ n).length:Int):=by
 unfold zAo at h;unfold zD zZ;cases hl:n.leaf with
 | true =>
  rw[if_pos hl] at h;simp only[t8];rw[h.1,uC,zO];have:=zI6 n.entries;simp only[yA];omega
 | false =>
  rw[if_neg (by rw[hl];simp)] at h;simp only[wG,tP];rw[h.1,uC,uC,zO,zO];have:=zI7 n.keys n.kids.tail (by rw[rI];omega);simp only[zY];omega
theorem qD{n:zF}(h:zM n=true):zAo n:=by
 unfold zAo;unfold zM at h;cases hl:n.leaf with
 | true =>
  rw[if_pos hl] at h;simp only[uK,wX] at h;rw[if_pos rfl];exact⟨h.1.1.1.2,h.1.1.2⟩
 | false =>
  rw[if_neg (by rw[hl];simp)] at h;simp only[uK,wX,uQ] at h;rw[if_neg (by simp)];exact⟨h.1.1.1.1.1.1.1,h.1.1.1.1.1.2⟩
theorem zJ1(l:List zI)(k:Nat):zY (l.drop k)<=zY l:=by
 have:=yM (l.take k) (l.drop k);rw[uZ] at this;have:=vO (l.take k);omega
theorem zJ2(l:List ByteArray)(k:Nat):yA (l.drop k)<=yA l:=by
 have:=qI (l.take k) (l.drop k);rw[uZ] at this;have:=qS (l.take k);omega
structure zBD(n:zF)(a:Nat):Prop where
 leaf:n.leaf=true->1<=a/\a<n.entries.length
 inner:n.leaf=false->2<=a/\a+1<n.kids.length
theorem zLH{n:zF}{a:Nat}(h1:qA n<=a)(h2:a<qA n+qZ n):zBD n a:=by
 unfold qA at h1 h2;unfold qZ at h2;constructor
 .intro hl;simp only[hl,t8] at h1 h2;omega
 .intro hl;simp only[hl,wG,tP] at h1 h2;omega
section
variable {n:zF}{a:Nat}
theorem zCt(hl:n.leaf=true):(zS n a).1=⟨true,n.entries.take a,[],[]⟩:=by unfold zS;rw[if_pos hl]
theorem zCu(hl:n.leaf=true):(zS n a).2.2=⟨true,n.entries.drop a,[],[]⟩:=by unfold zS;rw[if_pos hl]
theorem zCc(hl:n.leaf=false):(zS n a).1=⟨false,[],n.keys.take (a-1),n.kids.take a⟩:=by unfold zS;rw[if_neg (by rw[hl];simp)]
theorem zCd(hl:n.leaf=false):(zS n a).2.2=⟨false,[],n.keys.drop a,n.kids.drop a⟩:=by unfold zS;rw[if_neg (by rw[hl];simp)]
theorem zHm(h:zAo n)(hp:zBD n a):zAo (zS n a).1/\zAo (zS n a).2.2:=by
 unfold zAo at h;cases hl:n.leaf with
 | true =>
  rw[zCt hl,zCu hl];exact⟨⟨rfl,rfl⟩,⟨rfl,rfl⟩⟩
 | false =>
  rw[if_neg (by rw[hl];simp)] at h;have:=hp.inner hl;rw[zCc hl,zCd hl];unfold zAo;simp only[wG,tP,uP,u0,true_and];omega
theorem zJ3:zD (zS n a).1<=zD n/\zD (zS n a).2.2<=zD n:=by
 have e1:=vO n.entries;have e2:=zCU n.entries a;have e3:=zJ1 n.entries a;have e4:=qS n.keys;have e5:=zCV n.keys (a-1);have e6:=zJ2 n.keys a;cases hl:n.leaf with
 | true =>
  rw[zCt hl,zCu hl];unfold zD;simp only[hl,t8,yA];omega
 | false =>
  rw[zCc hl,zCd hl];unfold zD;simp only[hl,wG,tP,zY];omega
theorem zFE(n:zF):2<=zD n:=by
 have e1:=vO n.entries;have e4:=qS n.keys;unfold zD;split <;> omega
theorem zQu(h:zAo n)(hp:zBD n a):(zFd (zS n a).1:Int)=zD (zS n a).1:=(vW (zHm h hp).1).symm
theorem zQv(h:zAo n)(hp:zBD n a):(zFd (zS n a).2.2:Int)=zD (zS n a).2.2:=(vW (zHm h hp).2).symm
theorem zEb(h:zAo n)(hp:zBD n a):(zAN n a:Int)=if zD (zS n a).1-zD (zS n a).2.2<0 then -(zD (zS n a).1-zD (zS n a).2.2) else zD (zS n a).1-zD (zS n a).2.2:=by
 unfold zAN;rw[zQu h hp,zQv h hp];split <;> omega
end
end
section
open Go.RowKit
attribute [local go_sem ↓] Go.wp_at_zero Go.wp_at_succ
def zDJ(n:zF):Int:=if n.leaf=true then 3 else 2
def zCj(n:zF)(size:Nat):Prop:=zM n=true/\zD n<=(size:Int)-24
instance (n:zF) (size:Nat):Decidable (zCj n size):=by unfold zCj;exact inferInstance
def qW(G:GA)(l:List Nat)(old:Nat)(n:zF):Option Nat:=if zCj n G.size then zAU l old else none
def yD(G:GA)(l:List Nat)(gen old:Nat)(n:zF):GA:=match qW G l old n with
 | none=>G
 | some i=>(vV G l old).put ⟨zDJ n,(i:Int),gen,zZ n⟩
def yO(G:GA)(l:List Nat)(old:Nat)(n:zF):List Nat:=if zCj n G.size then zAI l old else l
def zAp(G:GA)(n:zF):Nat:=if zCj n G.size then 3 else 1
def zQB(ad:Nat->Addr)(o:Option Nat)(k:Nat)(F':Nat->Prop)(w':World)(e:Ending):Prop :=
 (∃i,o=some i/\e=.returned (.tuple #[.int .i64 (i:Int),.nilIface]))\/(o=none/\∃f el,e=.returned (.tuple #[.int .i64 0,zQ f])/\qQ F' ad w' (zQ f) el k)
theorem zQB.form{ad:Nat->Addr}{o:Option Nat}{k:Nat}{F':Nat->Prop}{w':World}{e:Ending}(h:zQB ad o k F' w' e):∃iv ev,e=.returned (.tuple #[iv,ev]):=by
 rcases h with ⟨i,_,h⟩|⟨_,f,_,h,_⟩
 .exact⟨_,_,h⟩
 .exact⟨_,_,h⟩
theorem zI8{l:List Nat}{old i:Nat}(h:zAU l old=some i):i<l.length:=by
 unfold zAU at h;split at h
 .rename_i h1;injection h with h;subst h;have:=h1.2;unfold jU at this;simp only[uK,uQ,uL] at this;exact (uB.1 this.2).1
 .exact (zAa h).2
theorem zLI{G:GA}{l:List Nat}{old:Nat}(h:zAU l old=none):vV G l old=G:=by
 unfold zAU at h;unfold vV;split at h
 .cases h
 .rw[if_pos h];split <;> rfl
theorem zDk(G:GA)(l:List Nat)(old:Nat):(vV G l old).size=G.size/\(vV G l old).blocks=G.blocks/\(vV G l old).cost=G.cost:=by
 unfold vV;split
 .exact⟨rfl,rfl,rfl⟩
 .split <;> exact⟨rfl,rfl,rfl⟩
section
variable {P P' F F':Nat->Prop}{ad:Nat->Addr}{w w':World}{c s:Nat}{G:GA}{l:List Nat}
set_option maxRecDepth 100000 in
set_option maxHeartbeats 1000000 in
theorem zEF(hL:yW F ad w)(hP:∀k,P k->F k)(h:yS F w P c s G l)(gen old:Nat)(hgen:gen<18446744073709551616)(n:zF)(ve vk vi:Value)(hve:Sl F w 4 vA ve n.entries)(hvk:Sl F w 1 qK vk n.keys)(hvi:Sl F w 1 yB vi n.kids)
  (hlen:zM n=true->(zZ n).length<=100000) (hok:zJt l old) (ho2:old=0\/2<=old) (hob:old<256) (hll:l.length<=G.blocks) (hco:G.cost<1000000) :
  Calls Tryz.prog 55 #[qR c s gen,.int .i64 (old:Int),.agg #[.bool n.leaf,ve,vk,vi]] w (jL F P ad w c s (yD G l gen old n) (yO G l old n) (zQB ad (qW G l old n) (zAp G n))):=by
 have m0:zJ w ((w.alloc (gP c s gen)).alloc (.cells #[.bool n.leaf,ve,vk,vi] 118)):=((zA.refl _ w).alloc _).alloc _;have HB0:=oh ((zL.new w (gP c s gen) 31).alloc (.cells #[.bool n.leaf,ve,vk,vi] 118));have HN0:Hid (zL ((w.alloc (gP c s gen)).alloc (.cells #[.bool n.leaf,ve,vk,vi] 118)) (w.heap.size+1) #[.bool n.leaf,ve,vk,vi] 118):=oh (zK (by simp));have hx:=hL.mods m0.ext;have HPUT:=oh (zEE hx n ve vk vi (hve.ext m0) (hvk.ext m0) (hvi.ext m0) hlen);have HM0:=oh m0;have HP:=oh hP;have HG:=oh (h.at m0);have HL:=oh hx;have HLW:=oh hL;have HX0:Hid (zR P P F F ad w _):=oh (zR.ext hL hP m0);have HBP:Hid (¬ P w.heap.size/\¬ P (w.heap.size+1)):=oh ⟨λhp=>by have:=h.bd _ hp;omega,λhp=>by have:=h.bd _ hp;omega⟩;have HOK:=oh hok;have HLIM:=oh h.lim;have HLEN:=oh hlen;have HFT:Hid (zM n=true->∀W,zJ w W -> Calls Tryz.prog 97 #[.agg #[.bool n.leaf,ve,vk,vi],.int .i64 (G.size:Int)] W λe w'=>e=.returned (.bool (decide (zD n<=(G.size:Int)-24)))/\zJ W w'):=oh (λhr W m=>zCC n ve vk vi W (hve.ext m) (hvk.ext m) (by
  rw[vW (qD hr)];have:=hlen hr;omega) _ (by omega) (by have:=h.lim;omega))
 have HSZ:=oh (λW (m:zJ w W)=>zDf (h.at m) gen);obtain⟨ea,ec,rfl,_,_,_,_⟩:=hve;obtain⟨ka,kc,rfl,_,_,_,_⟩:=hvk;obtain⟨ia,ic,rfl,_,_,_,_⟩:=hvi;clear hL hP h m0 hok hlen hx;unfold qR at HSZ ⊢
 go_enter Tryz.func55, Tryz.ntmps55
 go_wp2_with fail;refine HPUT.out.mono ?_;rintro e w1 ⟨hm1,⟨hr,a,cc,rfl,hO⟩|⟨hr,f,rfl,hE⟩⟩
 .have HM1:=oh (HM0.out.trans hm1);have HR:=oh hr;have HO:=oh hO;have HB1:=oh (HB0.out.ext hm1);have HN1:=oh (HN0.out.ext hm1);have HX1:=oh (HX0.out.trans (zR.ext HL.out HP.out hm1));have HG1:=oh (HG.out.at hm1);have b0:=HB1.out.cell (o:=0) rfl;have b1:=HB1.out.cell (o:=1) rfl;have b2:=HB1.out.cell (o:=2) rfl;have n0:=HN1.out.cell (o:=0) rfl;have n1:=HN1.out.cell (o:=1) rfl;have n2:=HN1.out.cell (o:=2) rfl;have n3:=HN1.out.cell (o:=3) rfl;clear hm1 hr hO;go_wp2_with fail;go_region_held3 (λw'=>w'.cell? ⟨w.heap.size+1,0,none⟩=some (.bool n.leaf)/\w'.cell? ⟨w.heap.size+1,1,none⟩=some (.slice ea n.entries.length ec)/\w'.cell? ⟨w.heap.size+1,2,none⟩=some (.slice ka n.keys.length kc)/\w'.cell? ⟨w.heap.size+1,3,none⟩=some (.slice ia n.kids.length ic) /\
    w'.cell? ⟨w.heap.size,0,none⟩=some (.pointer (some ⟨c,0,none⟩))/\w'.cell? ⟨w.heap.size,1,none⟩=some (.pointer (some ⟨s,0,none⟩))/\w'.cell? ⟨w.heap.size,2,none⟩=some (.int .u64 (gen:Int)))
   (first|(with_reducible exact⟨n0,n1,n2,n3,b0,b1,b2⟩)|(with_reducible exact⟨y0,y1,y2,y3,d0,d1,d2⟩)|(with_reducible exact⟨z0,z1,z2,z3,f0,f1,f2⟩)|go_keep)
   (first
    | (go_at_call 98;(with_reducible refine (HSZ.out _ HM1.out.drew).mono ?_);rintro e w2 ⟨rfl,hm2⟩;have y0:=zC hm2 n0;have y1:=zC hm2 n1;have y2:=zC hm2 n2;have y3:=zC hm2 n3;have d0:=zC hm2 b0;have d1:=zC hm2 b1;have d2:=zC hm2 b2)
    | (go_at_call 97;refine (HFT.out HR.out _ (HM1.out.drew.trans hm2)).mono ?_;rintro e w3 ⟨rfl,hm3⟩;have z0:=zC hm3 y0;have z1:=zC hm3 y1;have z2:=zC hm3 y2;have z3:=zC hm3 y3;have f0:=zC hm3 d0;have f1:=zC hm3 d1;have f2:=zC hm3 d2)
    | fail)
  have HM2:Hid (zJ w1 w2):=oh ((zA.refl _ w1).drew.trans hm2);have HM3:=oh (HM2.out.trans hm3);have HB3:=oh (HB1.out.ext (HM2.out.trans hm3));have HN3:=oh (HN1.out.ext (HM2.out.trans hm3));have HX3:=oh (HX1.out.trans (zR.ext HX1.out.env HX1.out.sub (HM2.out.trans hm3)));have HG3:=oh (HG1.out.at (HM2.out.trans hm3));have b0:=HB3.out.cell (o:=0) rfl;have b1:=HB3.out.cell (o:=1) rfl;have b2:=HB3.out.cell (o:=2) rfl;have g1:=HX3.out.env.c1;clear hm3;cases hfit:decide (zD n<=(G.size:Int)-24) with
  | false =>
   have HD:Hid (¬ zCj n G.size):=oh (λhd=>by rw[wC hd.2] at hfit;cases hfit);clear hfit;go_wp2_with fail;refine (zAS HX3.out.env _ (old:Int) _ [] 1 (.sent 1 (by decide) (by decide))).mono ?_;rintro e w4 ⟨f,rfl,hE,hm4⟩;have HE:=oh hE;have HM4:=oh hm4;clear hE hm4;go_wp2_with fail;go_ret2
   refine⟨P,F,?_,HX3.out.trans (zR.ext HX3.out.env HX3.out.sub HM4.out),?_⟩
   .have e1:yD G l gen old n=G:=by unfold yD qW;rw[if_neg HD.out]
    have e2:yO G l old n=l:=by unfold yO;rw[if_neg HD.out]
    rw[e1,e2];exact HG3.out.at HM4.out
   .have e1:qW G l old n=none:=by unfold qW;rw[if_neg HD.out]
    have e2:zAp G n=1:=by unfold zAp;rw[if_neg HD.out]
    rw[e1,e2];exact .inr ⟨rfl,f,_,rfl,HE.out⟩
  | true =>
   have HD:Hid (zCj n G.size):=oh ⟨HR.out,rU hfit⟩;have HPL:=zOh HX3.out.env HX3.out.sub HG3.out gen old HOK.out ho2 hob;unfold qR at HPL;have HPC:=oh HPL;clear hfit HPL;go_wp2_with fail;refine HPC.out.mono ?_;rintro e w4 ⟨P4,F4,hG4,hN4,hr4⟩;have HG4:=oh hG4;have HX4:=oh (HX3.out.trans hN4);have hp3:¬ P w.heap.size/\¬ P (w.heap.size+1):=HBP.out;have HB4:=oh (hN4.blk HB3.out hp3.1);have HN4:=oh (hN4.blk HN3.out hp3.2);have HSB:Hid (Sl F4 w4 1 yE (.slice a (zZ n).length cc) (zZ n)):=oh (hN4.sl HX3.out.sub (((HO.out.blocks (G:=F) (λg hg=>by
    have:=(HO.out.lt g hg).1;have hlt:=HLW.out.lt g;intro hf;have:=hlt hf;simp at *;omega)).sl jI.len (by have:=HLEN.out HR.out;omega)).ext HM3.out))
   clear hG4 hN4 hp3;rcases hr4 with ⟨i,hi,rfl⟩|⟨hi,f,rfl,hE⟩
   .have hil:=zI8 hi;have HI:=oh hi;have HIL:Hid (i<G.blocks/\i<256):=oh (by have:=HLIM.out;omega);have b0:=HB4.out.cell (o:=0) rfl;have b2:=HB4.out.cell (o:=2) rfl;have n0:=HN4.out.cell (o:=0) (v:=.bool n.leaf) rfl;have HDI:Hid (qW G l old n=some i):=oh (by unfold qW;rw[if_pos HD.out,HI.out]);have HDG:Hid (yD G l gen old n=(vV G l old).put ⟨zDJ n,(i:Int),gen,zZ n⟩):=oh (by unfold yD;rw[HDI.out]);have HDL:Hid (yO G l old n=zAI l old):=oh (by unfold yO;rw[if_pos HD.out]);have hwl:((zZ n).length:Int)+24<=(G.size:Int):=by
     have:=HD.out.2;rw[vW (qD HR.out)] at this;omega
    have HPC:Hid (vE ⟨zDJ n,(i:Int),gen,zZ n⟩ ((vV G l old).size:Int)=none):=oh (by
     rw[(zDk G l old).1];unfold vE;have:=HLIM.out;rw[if_neg (by unfold zBC;simp;omega),if_neg];have hk:zDz (zDJ n)=true:=by unfold zDJ;split <;> rfl
     have:=HIL.out;simp only[hk];simp;omega)
    clear hi hil hwl;cases hlf:n.leaf
    all_goals
     rw[hlf] at n0;have HK:Hid (zDJ n=_):=oh (by unfold zDJ;rw[hlf]);simp only[wG,tP,t8] at HK;have HPT:=oh (λW (m:zJ w4 W)=>zRC (HX4.out.env.mods m.ext) HX4.out.sub (HG4.out.at m) ⟨zDJ n,(i:Int),gen,zZ n⟩ _ (HSB.out.ext m) hgen ⟨by simp,by rw[(zDk G l old).2.1];have:=HIL.out;simp;omega⟩ HPC.out (by rw[(zDk G l old).2.2];exact hco));unfold vQ at HPT;simp only[HK.out] at HPT;clear hlf;go_wp2_with fail;refine (HPT.out _ ?_).mono ?_
     .first|exact zA.refl _ _|exact (zA.refl _ _).alloc _
     rintro e w5 ⟨P5,F5,hG5,hN5,rfl⟩;have HG5:=oh hG5;have HX5:=oh ((HX4.out.trans (zR.ext HX4.out.env HX4.out.sub (by first|exact zA.refl _ _|exact (zA.refl _ _).alloc _))).trans hN5);clear hG5 hN5;go_wp2_with fail;go_ret2
     refine⟨P5,F5,?_,HX5.out,?_⟩
     .rw[HDG.out,HDL.out,HK.out];exact HG5.out
     .rw[HDI.out];exact .inl ⟨i,rfl,rfl⟩
   .have HDI:Hid (qW G l old n=none):=oh (by unfold qW;rw[if_pos HD.out,hi]);have HDG:Hid (yD G l gen old n=vV G l old):=oh (by unfold yD;rw[HDI.out,zLI hi]);have HDL:Hid (yO G l old n=zAI l old):=oh (by unfold yO;rw[if_pos HD.out]);have HDK:Hid (zAp G n=3):=oh (by unfold zAp;rw[if_pos HD.out]);have HE:=oh hE;clear hi hE;go_wp2_with fail;refine (wrap_any HX4.out.env _ _ _ _ HE.out).mono ?_;rintro e w5 ⟨f5,rfl,hE5,hm5⟩;have HE5:=oh hE5;have HM5:=oh hm5;clear hE5 hm5;go_wp2_with fail;go_ret2
    refine⟨P4,F4,?_,HX4.out.trans (zR.ext HX4.out.env HX4.out.sub HM5.out),?_⟩
    .rw[HDG.out,HDL.out];exact HG4.out.at HM5.out
    .rw[HDI.out,HDK.out];exact .inr ⟨rfl,f5,_,rfl,HE5.out⟩
 .have HD:Hid (¬ zCj n G.size):=oh (λhd=>by rw[hd.1] at hr;cases hr);have HE:=oh hE;have HX1:=oh (HX0.out.trans (zR.ext HL.out HP.out hm1));have HG1:=oh (HG.out.at hm1);clear hE hm1 hr;go_wp2_with fail;refine (wrap_any HX1.out.env _ _ _ _ HE.out).mono ?_;rintro e w5 ⟨f5,rfl,hE5,hm5⟩;have HE5:=oh hE5;have HM5:=oh hm5;clear hE5 hm5;go_wp2_with fail;go_ret2
  refine⟨P,F,?_,HX1.out.trans (zR.ext HX1.out.env HX1.out.sub HM5.out),?_⟩
  .have e1:yD G l gen old n=G:=by unfold yD qW;rw[if_neg HD.out]
   have e2:yO G l old n=l:=by unfold yO;rw[if_neg HD.out]
   rw[e1,e2];exact HG1.out.at HM5.out
  .have e1:qW G l old n=none:=by unfold qW;rw[if_neg HD.out]
   have e2:zAp G n=1:=by unfold zAp;rw[if_neg HD.out]
   rw[e1,e2];exact .inr ⟨rfl,f5,_,rfl,HE5.out⟩
end
end
section
open Go.RowKit
structure Upd(G:GA)(l:List Nat)(A:Nat->Prop)(G':GA)(l':List Nat)(A':Nat->Prop):Prop where
 sz:G'.size=G.size
 bl:G'.blocks=G.blocks
 len:l'.length=l.length
 inn:∀i,A' i->(A i/\l'[i]? = l[i]?)\/(l[i]? = some 0/\l'[i]? = some 2)
 gone:∀i,A i->¬ A' i->(l[i]? = some 2/\l'[i]? = some 0)\/(l[i]? = some 1/\l'[i]? = some 3)
 rest:∀i,¬ A i->¬ A' i->l'[i]? = l[i]? /\ (l[i]? ≠ some 0->G'.view i=G.view i)
 keep:∀i,l[i]? = some 1\/l[i]? = some 3->G'.look i=G.look i/\(G'.view i=G.view i\/G'.view i=zHJ (G.look i) i)
def vX(l:List Nat)(A:Nat->Prop):Prop:=∀i,A i->l[i]? = some 1\/l[i]? = some 2
section
variable {G G1 G2:GA}{l l1 l2:List Nat}{A A1 A2 B:Nat->Prop}
theorem Upd.refl(G:GA)(l:List Nat)(A:Nat->Prop):Upd G l A G l A :=
 ⟨rfl,rfl,rfl,λ_ h=>.inl ⟨h,rfl⟩,λ_ h n=>absurd h n,λ_ _ _=>⟨rfl,λ_=>rfl⟩,λ_ _=>⟨rfl,.inl rfl⟩⟩
theorem Upd.iff{A' A1':Nat->Prop}(h:Upd G l A G1 l1 A1)(h1:∀i,A' i ↔ A i)(h2:∀i,A1' i ↔ A1 i):Upd G l A' G1 l1 A1' :=
 ⟨h.sz,h.bl,h.len,λi hi=>(h.inn i ((h2 i).1 hi)).imp (λx=>⟨(h1 i).2 x.1,x.2⟩) id,λi hi hn=>h.gone i ((h1 i).1 hi) (λx=>hn ((h2 i).2 x)),λi hi hn=>h.rest i (λx=>hi ((h1 i).2 x)) (λx=>hn ((h2 i).2 x)),h.keep⟩
theorem Upd.use(h:Upd G l A G1 l1 A1)(hu:vX l A):vX l1 A1:=λi hi=>by
 rcases h.inn i hi with ⟨h1,h2⟩|⟨_,h2⟩
 .rw[h2];exact hu i h1
 .exact .inr h2
theorem Upd.trans(h:Upd G l A G1 l1 A1)(k:Upd G1 l1 A1 G2 l2 A2)(hu:vX l A):Upd G l A G2 l2 A2:=by
 have h10:∀i,A1 i->l1[i]? ≠ some 0:=λi hi e=>by
  rcases h.use hu i hi with h1|h1 <;> rw[e] at h1 <;> simp at h1
 have h00:∀i,A i->l[i]? ≠ some 0:=λi hi e=>by
  rcases hu i hi with h1|h1 <;> rw[e] at h1 <;> simp at h1
 refine⟨k.sz.trans h.sz,k.bl.trans h.bl,k.len.trans h.len,λi hi=>?_,λi hi hn=>?_,λi hi hn=>?_,λi hi=>?_⟩
 .rcases k.inn i hi with ⟨k1,k2⟩|⟨k1,k2⟩
  .rcases h.inn i k1 with ⟨h1,h2⟩|⟨h1,h2⟩
   .exact .inl ⟨h1,k2.trans h2⟩
   .exact .inr ⟨h1,k2.trans h2⟩
  .have hn1:¬ A1 i:=λx=>h10 i x k1
   by_cases ha:A i
   .rcases h.gone i ha hn1 with ⟨h1,_⟩|⟨_,h2⟩
    .exact .inl ⟨ha,by rw[k2,h1]⟩
    .rw[k1] at h2;simp at h2
   .have:=(h.rest i ha hn1).1;exact .inr ⟨by rw[<- this];exact k1,k2⟩
 .by_cases h1:A1 i
  .rcases h.inn i h1 with ⟨_,h2⟩|⟨h2,_⟩
   .rw[<- h2];exact k.gone i h1 hn
   .exact absurd h2 (h00 i hi)
  .have k1:=(k.rest i h1 hn).1;rw[k1];exact h.gone i hi h1
 .by_cases h1:A1 i
  .rcases h.inn i h1 with ⟨h2,_⟩|⟨h2,h3⟩
   .exact absurd h2 hi
   .rcases k.gone i h1 hn with ⟨_,k2⟩|⟨k2,_⟩
    .exact⟨by rw[k2,h2],λe=>absurd h2 e⟩
    .rw[h3] at k2;simp at k2
  .obtain⟨k1,k2⟩:=k.rest i h1 hn;obtain⟨h2,h3⟩:=h.rest i hi h1;exact⟨k1.trans h2,λe=>(k2 (by rw[h2];exact e)).trans (h3 e)⟩
 .have hl1:l1[i]? = some 1\/l1[i]? = some 3:=by
   by_cases h1:A1 i
   .rcases h.inn i h1 with ⟨_,h2⟩|⟨h2,_⟩
    .rw[h2];exact hi
    .rcases hi with e|e <;> rw[h2] at e <;> simp at e
   .by_cases ha:A i
    .rcases h.gone i ha h1 with ⟨h2,_⟩|⟨_,h2⟩
     .rcases hi with e|e <;> rw[h2] at e <;> simp at e
     .exact .inr h2
    .rw[(h.rest i ha h1).1];exact hi
  obtain⟨h1,h2⟩:=h.keep i hi;obtain⟨k1,k2⟩:=k.keep i hl1;refine⟨k1.trans h1,?_⟩;rcases k2 with k2|k2
  .rw[k2];exact h2
  .rw[k2,h1];exact .inr rfl
theorem Upd.frame(h:Upd G l A G1 l1 A1)(hB:∀i,B i->¬ A i/\l[i]? ≠ some 0):Upd G l (λi=>A i\/B i) G1 l1 (λi=>A1 i\/B i):=by
 have hB1:∀i,B i->¬ A1 i:=λi hi h1=>by
  rcases h.inn i h1 with ⟨h2,_⟩|⟨h2,_⟩
  .exact (hB i hi).1 h2
  .exact (hB i hi).2 h2
 refine⟨h.sz,h.bl,h.len,λi hi=>?_,λi hi hn=>?_,λi hi hn=>?_,h.keep⟩
 .rcases hi with hi|hi
  .exact (h.inn i hi).imp (λx=>⟨.inl x.1,x.2⟩) id
  .exact .inl ⟨.inr hi,(h.rest i (hB i hi).1 (hB1 i hi)).1⟩
 .rcases hi with hi|hi
  .exact h.gone i hi (λx=>hn (.inl x))
  .exact absurd (.inr hi) hn
 .exact h.rest i (λx=>hi (.inl x)) (λx=>hn (.inl x))
theorem Upd.view(h:Upd G l A G1 l1 A1){i:Nat}(h1:¬ A i)(h2:l[i]? ≠ some 0):G1.view i=G.view i/\l1[i]? = l[i]? /\ ¬ A1 i:=by
 have h3:¬ A1 i:=λh3=>by
  rcases h.inn i h3 with ⟨h4,_⟩|⟨h4,_⟩
  .exact h1 h4
  .exact h2 h4
 obtain⟨h4,h5⟩:=h.rest i h1 h3;exact⟨h5 h2,h4,h3⟩
end
def zAJ(l:List Nat):Int:=(l.countP (· == 0):Int)-(l.countP (· == 1):Int)
theorem zDl{l:List Nat}{i x y:Nat}(h:l[i]? = some x):zAJ (l.set i y)=zAJ l+((if y=0 then 1 else 0)-(if y=1 then 1 else 0))-((if x=0 then 1 else 0)-(if x=1 then 1 else 0)):=by
 unfold zAJ;have h0:=zAg (· == 0) l i y x h;have h1:=zAg (· == 1) l i y x h;simp only[tU] at h0 h1;have e:∀(p:Prop) [Decidable p],(if p then (1:Int) else 0)=((if p then (1:Nat) else 0:Nat):Int):=λp _=>by split <;> rfl
 simp only[e];omega
theorem zI9{l:List Nat}(h:0<zG6 l):∃i,vK l=some i:=by
 unfold vK;cases hf:l.findIdx? (· == 0) with
 | some i=>exact⟨i,rfl⟩
 | none =>
  rw[List.findIdx?_eq_none_iff] at hf;unfold zG6 at h;rw[List.countP_pos_iff] at h;obtain⟨x,hx,hx0⟩:=h;rw[hf x hx] at hx0;cases hx0
theorem zLJ{l:List Nat}(h:1<=zAJ l):∃i,vK l=some i:=zI9 (by unfold zAJ zG6 at *;omega)
theorem zQC{l:List Nat}{i:Nat}(h:0<=zAJ l)(hi:l[i]? = some 1):∃i,vK l=some i:=by
 have:0<l.countP (· == 1):=List.countP_pos_iff.2 ⟨1,wM hi,rfl⟩;exact zI9 (by unfold zAJ zG6 at *;omega)
section
variable {G:GA}{l:List Nat}
theorem zBi(G:GA)(p:yN)(i:Nat):(G.put p).view i=if i=p.id.toNat then some (.inl p) else G.view i:=by
 show upd G.view p.id.toNat (some (.inl p)) i=_;unfold upd;rfl
theorem zFn(G:GA)(p:yN){i:Nat}(h:i≠p.id.toNat):(G.put p).look i=G.look i:=zF7 _ _ h
theorem zDK(G:GA)(k i:Nat):(G.drop k).view i=if i=k then zHJ (G.look k) k else G.view i:=by
 show upd G.view k (zHJ (G.look k) k) i=_;unfold upd;rfl
theorem zQD{i:Nat}(hi:vK l=some i)(p:yN)(hp:p.id=(i:Int)):Upd G l (λ_=>False) (G.put p) (l.set i 2) (λk=>k=i):=by
 have h0:=zAa hi;have hpi:p.id.toNat=i:=by omega
 refine⟨rfl,rfl,by simp,λk hk=>?_,λ_ f=>f.elim,λk _ hk=>?_,λk hk=>?_⟩
 .subst hk;exact .inr ⟨h0.1,tF h0.2⟩
 .exact⟨wP (λe=>hk e.symm),λ_=>by rw[zBi,hpi,if_neg hk]⟩
 .have hne:k≠i:=λe=>by rw[e,h0.1] at hk;simp at hk
  exact⟨zFn G p (by rw[hpi];exact hne),.inl (by rw[zBi,hpi,if_neg hne])⟩
theorem zOq{i:Nat}(hi:l[i]? = some 2)(p:yN)(hp:p.id=(i:Int)):Upd G l (λk=>k=i) (G.put p) l (λk=>k=i):=by
 have hpi:p.id.toNat=i:=by omega
 refine⟨rfl,rfl,rfl,λk hk=>.inl ⟨hk,rfl⟩,λk hk hn=>absurd hk hn,λk hk _=>⟨rfl,λ_=>by rw[zBi,hpi,if_neg hk]⟩,λk hk=>?_⟩;have hne:k≠i:=λe=>by rw[e,hi] at hk;simp at hk
 exact⟨zFn G p (by rw[hpi];exact hne),.inl (by rw[zBi,hpi,if_neg hne])⟩
theorem zJA{l:List Nat}{i:Nat}(h2:2<=i)(hi:l[i]? = some 1):yR l (i:Int)=(l.set i 3,none):=by
 have hlt:=(uB.1 hi).1;unfold yR zAF;rw[if_neg (by omega)];simp only[uL,hi];simp
theorem zMi{l:List Nat}{i:Nat}(h2:2<=i)(hi:l[i]? = some 2):yR l (i:Int)=(l.set i 0,none):=by
 have hlt:=(uB.1 hi).1;unfold yR zAF;rw[if_neg (by omega)];simp only[uL,hi];simp
theorem zQE{i:Nat}(h2:2<=i)(hi:l[i]? = some 1\/l[i]? = some 2):Upd G l (λk=>k=i) (G.drop i) (yR l (i:Int)).1 (λ_=>False)/\(yR l (i:Int)).2=none/\zAJ l+1<=zAJ (yR l (i:Int)).1:=by
 have hv:∀k,k≠i->(G.drop i).view k=G.view k:=λk hk=>by rw[zDK,if_neg hk]
 rcases hi with hi|hi
 .have hlt:=(uB.1 hi).1;rw[zJA h2 hi];refine⟨⟨rfl,rfl,by simp,λ_ f=>f.elim,λk hk _=>?_,λk hk _=>⟨wP (λe=>hk e.symm),λ_=>hv k hk⟩,λk _=>⟨rfl,?_⟩⟩,rfl,?_⟩
  .subst hk;exact .inr ⟨hi,tF hlt⟩
  .by_cases e:k=i
   .subst e;exact .inr (by rw[zDK,if_pos rfl])
   .exact .inl (hv k e)
  .rw[zDl hi];simp
 .have hlt:=(uB.1 hi).1;rw[zMi h2 hi];refine⟨⟨rfl,rfl,by simp,λ_ f=>f.elim,λk hk _=>?_,λk hk _=>⟨wP (λe=>hk e.symm),λ_=>hv k hk⟩,λk hk=>⟨rfl,?_⟩⟩,rfl,?_⟩
  .subst hk;exact .inl ⟨hi,tF hlt⟩
  .by_cases e:k=i
   .subst e;rw[hi] at hk;simp at hk
   .exact .inl (hv k e)
  .rw[zDl hi];simp
theorem zOr{old i:Nat}(ho:old=0\/(2<=old/\(l[old]? = some 1\/l[old]? = some 2)))(hi:zAU l old=some i)(p:yN)(hp:p.id=(i:Int))(h0:l[0]? ≠ some 0) :
  Upd G l (λk=>k=old/\old≠0) ((vV G l old).put p) (zAI l old) (λk=>k=i)/\zAJ l-(if old=0 then 1 else 0)<=zAJ (zAI l old)/\1<=i:=by
 rcases ho with rfl|⟨h2,ho⟩
 .have e1:vV G l 0=G:=by unfold vV;rw[if_pos (.inl rfl)]
  have hf:vK l=some i:=by unfold zAU at hi;rw[if_neg (by simp)] at hi;exact hi
  have e2:zAI l 0=l.set i 2:=by unfold zAI zAs;rw[if_pos rfl,hf]
  rw[e1,e2];refine⟨(zQD hf p hp).iff (λk=>by simp) (λk=>rZ),?_,?_⟩
  .rw[zDl (zAa hf).1];simp
  .rcases rJ i with e|e
   .rw[e] at hf;exact absurd (zAa hf).1 h0
   .exact e
 .have hz:old≠0:=by omega
  rcases ho with ho|ho
  .have hfr:jU l (old:Int)=false:=by unfold jU;rw[uL,ho];simp
   have hf:vK l=some i:=by unfold zAU at hi;rw[if_neg (by rw[hfr];simp)] at hi;exact hi
   have hne:i≠old:=λe=>by have:=(zAa hf).1;rw[e,ho] at this;simp at this
   have e1:vV G l old=G.drop old:=by unfold vV;rw[if_neg (by rw[hfr];simp[hz]),if_neg (by rw[hf];simp)]
   have ho2:(l.set i 2)[old]? = some 1:=by rw[wP hne];exact ho
   have e2:zAI l old=(l.set i 2).set old 3:=by
    unfold zAI;rw[if_neg hz,if_neg (by rw[hfr];simp),hf];simp only;rw[zJA h2 ho2]
   have h0f:=zAa hf;have hol:=(uB.1 ho).1;have hpi:p.id.toNat=i:=by omega
   rw[e1,e2];refine⟨⟨rfl,rfl,by simp,λk hk=>?_,λk hk _=>?_,λk hk hn=>?_,λk hk=>?_⟩,?_,?_⟩
   .subst hk;exact .inr ⟨h0f.1,by rw[wP hne.symm];exact tF h0f.2⟩
   .obtain⟨rfl,_⟩:=hk;exact .inr ⟨ho,tF (by simpa using hol)⟩
   .have hk2:k≠old:=λe=>hk ⟨e,hz⟩
    refine⟨by rw[wP hk2.symm,wP (λe=>hn e.symm)],λ_=>?_⟩;rw[zBi,hpi,if_neg hn,zDK,if_neg hk2]
   .have hki:k≠i:=λe=>by rw[e,h0f.1] at hk;simp at hk
    refine⟨zFn (G.drop old) p (by rw[hpi];exact hki),?_⟩;rw[zBi,hpi,if_neg hki,zDK];by_cases e:k=old
    .subst e;rw[if_pos rfl];exact .inr rfl
    .rw[if_neg e];exact .inl rfl
   .rw[zDl ho2,zDl h0f.1];simp[hz]
   .rcases rJ i with e|e
    .rw[e] at hf;exact absurd (zAa hf).1 h0
    .exact e
  .have hfr:jU l (old:Int)=true:=by unfold jU;rw[uL,ho];simp
   have hio:old=i:=by unfold zAU at hi;rw[if_pos ⟨hz,hfr⟩] at hi;exact Option.some.inj hi
   subst hio;have e1:vV G l old=G:=by unfold vV;rw[if_pos (.inr hfr)]
   have e2:zAI l old=l:=by unfold zAI;rw[if_neg hz,if_pos hfr]
   rw[e1,e2];exact⟨(zOq ho p hp).iff (λk=>by simp[hz]) (λk=>rZ),by simp[hz],by omega⟩
end
def ndS(sz n:Nat):Nat:=(n-1) / (sz-28)+1
theorem zFo(sz n:Nat)(h:1<=n)(h1:256<=sz)(h2:sz<=1024):zCP (n:Int) (sz:Int)=(ndS sz n:Int):=by
 unfold zCP ndS;rw[if_neg (by omega)];have e1:((n:Int)-1)=((n-1:Nat):Int):=by omega
 have e2:((sz:Int)-28)=((sz-28:Nat):Int):=by omega
 rw[e1,e2];simp
theorem zQw(sz n:Nat)(h:1<=n)(h1:256<=sz):Fit n (sz-28) (ndS sz n):=by
 obtain⟨d,hd⟩:∃d,d=sz-28:=⟨_,rfl⟩;unfold ndS;rw[<- hd];have h3:=Nat.div_add_mod (n-1) d;have h4:=nX (n-1) (show 0<d by omega);have h5:(n-1) / d * d=d * ((n-1) / d):=Nat.mul_comm _ _;generalize (n-1) / d=k at *
 refine⟨by omega,by omega,?_,?_⟩
 .rw[rP,h5];omega
 .rw[t9,h5];omega
theorem zMj(sz n:Nat)(h:n<=4096)(h1:256<=sz):ndS sz n<=18:=by
 unfold ndS;have:=Nat.div_le_div_left (show 228<=sz-28 by omega) (show 0<228 by omega) (a:=n-1);omega
structure ChG(G:GA)(gen:Nat)(c s:Int)(v:ByteArray)(ids:List Nat):Prop where
 size:s=(v.size:Int)
 lo:25<=v.size
 hi:v.size<=4096
 len:ids.length=ndS G.size v.size
 first:c=((ids.getD 0 0:Nat):Int)
 lt:∀i∈ids,2<=i/\i<G.blocks
 page:∃g,g<=gen/\∀i,i<ids.length->G.view (ids.getD i 0)=some (.inl (zBN g v.data.toList (G.size-28) ids i))
theorem zCw{ids:List Nat}{i:Nat}(h:i<ids.length):ids.getD i 0∈ids:=by
 have:ids.getD i 0=ids[i]:=by simp[List.getD,h]
 rw[this];exact wH h
theorem zLK{ids:List Nat}{i:Nat}(h:ids.length<=i):ids.getD i 0=0:=by simp[List.getD,rQ h]
section
variable {G G':GA}{gen:Nat}{c s:Int}{v:ByteArray}{ids:List Nat}
theorem ChG.mono(h:ChG G gen c s v ids){gen':Nat}(hg:gen<=gen')(hb:G'.blocks=G.blocks)(hs:G'.size=G.size)(hv:∀i∈ids,G'.view i=G.view i):ChG G' gen' c s v ids :=
 ⟨h.size,h.lo,h.hi,by rw[hs];exact h.len,h.first,λi hi=>by rw[hb];exact h.lt i hi,by
  obtain⟨g,h1,h2⟩:=h.page;exact⟨g,uM h1 hg,λi hi=>by rw[hs];exact (hv _ (zCw hi)).trans (h2 i hi)⟩⟩
theorem zRZ{v:List UInt8}{m nn blocks:Nat}{ids:List Nat}(hm:ids.length=m)(hf:Fit v.length nn m){size:Nat}(hs:size=nn+28)(hlt:∀i∈ids,2<=i/\i<blocks)(hb2:blocks<=256){i:Nat}(hi:i<m)(g:Nat) :
  jO size (zBN g v nn ids i) ((v.length-i * nn:Nat):Int)=false:=by
 unfold jO zBN;simp only;have hnx:(i+1<m->2<=ids.getD (i+1) 0/\ids.getD (i+1) 0<blocks)/\(¬ i+1<m->ids.getD (i+1) 0=0) :=
  ⟨λh=>hlt _ (zCw (by omega)),λh=>zLK (by omega)⟩
 generalize ids.getD (i+1) 0=nx at *
 have hn:nx<4294967296:=by
  by_cases h:i+1<m
  .have:=hnx.1 h;omega
  .have:=hnx.2 h;omega
 rw[zHV _ _ hn];have hl:=hf.left hi;have hpl:=zOV v nn i;have hmin:min ((v.length-i * nn:Nat):Int) ((size:Int)-28)=((min nn (v.length-i * nn):Nat):Int):=by omega
 rw[hmin];have e1:((yI 4 nx++zBv v nn i).length:Int)=4+((min nn (v.length-i * nn):Nat):Int):=by
  rw[uC,zO,hpl];omega
 rw[e1];by_cases h1:i+1<m
 .have:=hf.more h1;have h3:=hnx.1 h1;simp;omega
 .have:=hf.last (show i+1=m by omega);have h3:=hnx.2 h1;rw[h3];simp;omega
theorem zLL{v:List UInt8}{m nn g:Nat}(hm:ids.length=m)(hf:Fit v.length nn m)(hs:G.size=nn+28)(hlt:∀i∈ids,2<=i/\i<G.blocks)(hb2:G.blocks<=256)
  (h:∀i,i<m->G.view (ids.getD i 0)=some (.inl (zBN g v nn ids i))) :
  ∀(k i f:Nat),i+k=m->v.length-i * nn<=f ->
   yY G f ((ids.getD i 0:Nat):Int) ((v.length-i * nn:Nat):Int)=((List.range' i k).map (λj=>(((ids.getD j 0:Nat):Int),zBv v nn j)),none) /\
   zAj G f ((ids.getD i 0:Nat):Int) ((v.length-i * nn:Nat):Int)
 | 0,i,f,hc,hfu=>by
  have:v.length-i * nn=0:=by have:=hf.hi;rw[<- hc,uO] at this;omega
  rw[this];exact⟨zMR _ _ _ _ (by omega),zKn _ _ _ _ (by omega)⟩
 | k+1,i,f,hc,hfu=>by
  have hi:i<m:=by omega
  have hl:=hf.left hi;obtain⟨f,rfl⟩:∃f',f=f'+1:=⟨f-1,by omega⟩;have hnn:=hf.n228;obtain⟨h1,h2⟩:=zLL hm hf hs hlt hb2 h k (i+1) f (by omega) (by rw[t9];omega);have hid:=hlt _ (zCw (show i<ids.length by omega));have hg:G.get ((ids.getD i 0:Nat):Int)=.inl (zBN g v nn ids i):=zFg hid.2 (h i hi);have hbad:=zRZ (size:=G.size) hm hf hs hlt hb2 hi g;have hn:ids.getD (i+1) 0<4294967296:=by
   rcases pI (i+1) ids.length with h|h
   .have:=hlt _ (zCw h);omega
   .rw[zLK h];omega
  have ht:jW (zBN g v nn ids i).body 0 4=(ids.getD (i+1) 0,none):=zHV _ _ hn;have hd:(zBN g v nn ids i).body.drop 4=zBv v nn i:=zOU _ _;have hsub:((v.length-i * nn:Nat):Int)-min ((v.length-i * nn:Nat):Int) ((G.size:Int)-28)=((v.length-(i+1) * nn:Nat):Int):=by
   rw[t9];omega
  constructor
  .rw[yY,if_neg (by omega),hg];simp only[hbad,ht,hd,hsub];rw[h1,List.range'_succ];rfl
  .rw[zAj];intro _;refine⟨λ_=>⟨_,by rw[uL];exact h i hi⟩,λx hx _=>?_⟩;rw[hg] at hx;injection hx with hx;subst hx;rw[ht,hsub];exact h2
theorem ChG.walk(h:ChG G gen c s v ids)(hs:256<=G.size)(hb:G.blocks<=256) :
  jY G c s=none/\zAj G s.toNat c s/\(yY G s.toNat c s).1.map (·.1)=ids.map (λk:Nat=>(k:Int))/\G.R c s=some v:=by
 obtain⟨g,_,hp⟩:=h.page;have hl:v.data.toList.length=v.size:=zAO v;have hlo:=h.lo;have hhi:=h.hi;have hf:Fit v.data.toList.length (G.size-28) (ndS G.size v.size):=by rw[hl];exact zQw _ _ (by omega) hs
 obtain⟨w1,w2⟩:=zLL (G:=G) (g:=g) h.len hf (by omega) h.lt hb (λi hi=>hp i (by rw[h.len];exact hi)) (ndS G.size v.size) 0 v.size (by omega) (by rw[hl];omega);rw[hl] at w1 w2;simp only[pW,Nat.sub_zero] at w1 w2;rw[h.size,h.first,uL];have hz:jY G ((ids.getD 0 0:Nat):Int) (v.size:Int)=none:=by
  unfold jY zAi;rw[if_neg (by omega),uL,w1];rfl
 refine⟨hz,w2,?_,?_⟩
 .rw[w1];refine List.ext_getElem (by simp[h.len]) (λi h1 h2=>?_);simp only[uU] at h2;simp[List.getD,h2]
 .unfold GA.R;rw[hz,uL,w1];simp only[Option.some.injEq,nJ];apply pN
  exact congrArg List.toArray (zMQ v.data.toList (G.size-28) (ndS G.size v.size) hf.hi)
theorem zHn:∀(m:Nat) (l:List Nat),(m:Int)<=zAJ l->∃ids l1,zAf m l=some (ids,l1)
 | 0,l,_=>⟨[],l,rfl⟩
 | m+1,l,h=>by
  obtain⟨i,hi⟩:=zLJ (l:=l) (by omega);obtain⟨ids,l1,h1⟩:=zHn m (l.set i 2) (by rw[zDl (zAa hi).1];simp;omega);exact⟨i :: ids,l1,by rw[zAf,hi];simp only[h1]⟩
structure zRa(m:Nat)(l ids l1:List Nat):Prop where
 len:ids.length=m
 lenL:l1.length=l.length
 nodup:ids.Nodup
 at_:∀i∈ids,l[i]? = some 0/\l1[i]? = some 2
 far:∀i,i ∉ ids->l1[i]? = l[i]?
 phi:zAJ l1=zAJ l-m
theorem zA0:∀(m:Nat) (l ids l1:List Nat),zAf m l=some (ids,l1)->zRa m l ids l1
 | 0,l,ids,l1,h=>by
  rw[zAf] at h;injection h with h;injection h with h1 h2;subst h1 h2;exact⟨rfl,rfl,rM,λi hi=>by simp at hi,λ_ _=>rfl,by simp⟩
 | m+1,l,ids,l1,h=>by
  rw[zAf] at h;cases hf:vK l with
  | none=>rw[hf] at h;cases h
  | some i =>
   rw[hf] at h;simp only at h;cases ht:zAf m (l.set i 2) with
   | none=>rw[ht] at h;cases h
   | some x =>
    obtain⟨r,l2⟩:=x;rw[ht] at h;simp only[Option.some.injEq,Prod.mk.injEq] at h;obtain⟨rfl,rfl⟩:=h;obtain⟨k1,k2,k3,k4,k5,k6⟩:=zA0 m _ _ _ ht;have h0:=zAa hf;have hir:i ∉ r:=λhm=>by
     have:=(k4 i hm).1;rw[tF h0.2] at this;simp at this
    refine⟨by simp[k1],by rw[k2];simp,tN.2 ⟨hir,k3⟩,λj hj=>?_,λj hj=>?_,?_⟩
    .rcases uN.1 hj with rfl|hj
     .exact⟨h0.1,by rw[k5 _ hir,tF h0.2]⟩
     .have hne:i≠j:=λe=>hir (e ▸ hj)
      have:=k4 j hj;rw[wP hne] at this;exact this
    .rw[uN,not_or] at hj;rw[k5 j hj.2,wP (λe=>hj.1 e.symm)]
    .rw[k6,zDl h0.1];simp;omega
theorem zFF(g:Nat)(v:List UInt8)(nn:Nat)(ids:List Nat)(hn:ids.Nodup):∀(k:Nat) (G:GA),k<=ids.length ->
  (∀j,j<k->(zAG g v nn ids k G).view (ids.getD j 0)=some (.inl (zBN g v nn ids j)))/\(∀i,i ∉ ids->(zAG g v nn ids k G).view i=G.view i/\(zAG g v nn ids k G).look i=G.look i)
 | 0,G,_=>⟨λj hj=>by omega,λi _=>⟨rfl,rfl⟩⟩
 | k+1,G,hk=>by
  obtain⟨h1,h2⟩:=zFF g v nn ids hn k G (by omega);have e:(zBN g v nn ids k).id.toNat=ids.getD k 0:=by
   show ((ids.getD k 0:Nat):Int).toNat=_;rw[uL]
  refine⟨λj hj=>?_,λi hi=>?_⟩
  .rw[zAG,zBi,e];by_cases hjk:j=k
   .subst hjk;rw[if_pos rfl]
   .have hne:ids.getD j 0≠ids.getD k 0:=by
     simp only[List.getD,uA (show j<ids.length by omega),uA (show k<ids.length by omega),Option.getD_some];intro he;exact hjk ((List.getElem_inj hn).1 he)
    rw[if_neg hne];exact h1 j (by omega)
  .have hne:i≠ids.getD k 0:=λhe=>hi (he ▸ zCw (by omega))
   rw[zAG,zBi,e,if_neg hne,zFn _ _ (by rw[e];exact hne)];exact h2 i hi
theorem zOs{l l1:List Nat}{m:Nat}(h:zAf m l=some (ids,l1))(g:Nat)(v:List UInt8)(nn:Nat):Upd G l (λ_=>False) (zAG g v nn ids m G) l1 (λi=>i∈ids):=by
 obtain⟨k1,k2,k3,k4,k5,k6⟩:=zA0 _ _ _ _ h;obtain⟨s1,s2,s3⟩:=qV g v nn ids m G;obtain⟨_,p2⟩:=zFF g v nn ids k3 m G (by omega);exact⟨s2,s1,k2,λi hi=>.inr (k4 i hi),λ_ f=>f.elim,λi _ hi=>⟨k5 i hi,λ_=>(p2 i hi).1⟩,λi hi=>by
  have hni:i ∉ ids:=λhm=>by rw[(k4 i hm).1] at hi;simp at hi
  exact⟨(p2 i hni).2,.inl (p2 i hni).1⟩⟩
theorem zDL:∀(ids l:List Nat) (G:GA),ids.Nodup->(∀i∈ids,2<=i)->vX l (λi=>i∈ids) ->
  Upd G l (λi=>i∈ids) (qM G ids) (qU l ids) (λ_=>False)/\zBM l ids/\zAJ l+ids.length<=zAJ (qU l ids)
 | [],l,G,_,_,_=>⟨(Upd.refl G l (λ_=>False)).iff (λi=>by simp) (λ_=>rZ),trivial,by simp[qU]⟩
 | i :: r,l,G,hn,h2,hu=>by
  rw[tN] at hn;obtain⟨u1,u2,u3⟩:=zQE (G:=G) (h2 i uF) (hu i uF);have hr:∀j∈r,j≠i:=λj hj e=>hn.1 (e ▸ hj)
  have hu2:vX (yR l (i:Int)).1 (λj=>j∈r):=λj hj=>by
   rw[zHT (hr j hj)];exact hu j (uI _ hj)
  obtain⟨k1,k2,k3⟩:=zDL r (yR l (i:Int)).1 (G.drop i) hn.2 (λj hj=>h2 j (uI _ hj)) hu2;refine⟨?_,⟨u2,k2⟩,?_⟩
  .have f:=u1.frame (B:=λj=>j∈r) (λj hj=>⟨hr j hj,λe=>by
    rcases hu j (uI _ hj) with h|h <;> rw[e] at h <;> simp at h⟩)
   have f2:=f.iff (A':=λj=>j∈i :: r) (A1':=λj=>j∈r) (λj=>by rw[uN]) (λj=>by simp);exact f2.trans k1 hu
  .rw[qU,uD];omega
theorem zQx{l l1:List Nat}{v:ByteArray}{m:Nat}(h:zAf m l=some (ids,l1))(hm:m=ndS G.size v.size)(h25:25<=v.size)(h4096:v.size<=4096)(h0:l[0]? ≠ some 0)(h1:l[1]? ≠ some 0)(hlb:l.length<=G.blocks)(g:Nat) :
  ChG (zAG g v.data.toList (G.size-28) ids m G) g ((ids.getD 0 0:Nat):Int) (v.size:Int) v ids:=by
 obtain⟨k1,k2,k3,k4,k5,k6⟩:=zA0 _ _ _ _ h;obtain⟨s1,s2,s3⟩:=qV g v.data.toList (G.size-28) ids m G;obtain⟨p1,_⟩:=zFF g v.data.toList (G.size-28) ids k3 m G (by omega);refine⟨rfl,h25,h4096,by rw[s2,k1,hm],rfl,λi hi=>?_,g,uJ _,λi hi=>by rw[s2];exact p1 i (by omega)⟩;have hz:=(k4 i hi).1;have hlt:=(uB.1 hz).1;rw[s1];refine⟨?_,by omega⟩;rcases pI i 2 with h|h
 .obtain rfl|rfl:i=0\/i=1:=by omega
  .exact absurd hz h0
  .exact absurd hz h1
 .exact h
end
end
end Go.Proofs.YtchklfmggpconaaGreatDoor
