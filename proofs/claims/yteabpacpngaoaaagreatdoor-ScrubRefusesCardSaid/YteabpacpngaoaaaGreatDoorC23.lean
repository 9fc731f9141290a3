import Derived.Test.YteabpacpngaoaaaGreatDoorC22
namespace Go.Proofs.YteabpacpngaoaaaGreatDoor
open Lib renaming hid->oh
set_option maxHeartbeats 4000000
set_option maxRecDepth 100000
section
open Go.RowKit
attribute [local go_sem ↓] Go.wp_at_zero Go.wp_at_succ
theorem zFf(s:ByteArray):Go.Lib.strCells s=s.data.toList.flatMap zZ:=by
 unfold Go.Lib.strCells;induction s.data.toList with
 | nil=>rfl
 | cons x l ih=>rw[List.map_cons,List.flatMap_cons,ih];rfl
theorem zAD(s:ByteArray):s.data.toList.length=s.size:=by rw[Array.length_toList];rfl
theorem zJx{P:Program}{w:World}{t u e:TypeId}(T:ElT P t e (.int .u8 0) 1 1)(hu:P.underlying u=some .string)
  {ops:Array Oper} {o:Oper} {a:Act} {K:Act->World->Prop} {Q:Exit->Act->World->Prop} {X:Prop} (hgd:o.guard=none) (sx x:Operand)
  (ho:o.op=.call { callee:=.builtin .append,args:=#[sx,x],argTypes:=#[t,u] })
  (base:Nat) (v:Value) (l:List UInt8) (s:ByteArray) (hv:a.eval sx=v) (hx:a.eval x=.string s) (hown:yC (λ_=>False) w base e 1 zZ v l) (hb:l.length+s.size<=140737488355328) (hbase:base<=w.heap.size)
  (h:∀a' c' w',yC (λ_=>False) w' base e 1 zZ (.slice a' (l.length+s.size) c') (l++s.data.toList)->w.grownBy w' v.ownBlock->K (a.put o.dst (.slice a' (l.length+s.size) c')) w') :
  if Region.wanted o (yielded ops a.tmps)=true then Oper.wp P o a w K Q else X:=by
 have hw:Region.wanted o (yielded ops a.tmps)=true:=by simp[Region.wanted,hgd]
 rw[if_pos hw];obtain⟨i,hi,hz,hs1,hb1⟩:=zEz T.info;obtain⟨v',w',hr,h2,h3,_⟩:=Go.Lib.run_append_own_string (P:=P) (w:=w) base t u o.type e i T.under hu hi hz hs1 hb1 v l.length _ hown.1 s (by simp only[maxLen];omega) hb hbase;have hO:yC (λ_=>False) w' base e 1 zZ v' (l++s.data.toList):=⟨by
  rw[List.length_append,zAD,List.flatMap_append,<- zFf];exact h2,λ_ _ f=>f⟩
 obtain⟨a',c',hvv,_⟩:=hO.form;rw[List.length_append,zAD] at hvv;subst hvv;unfold Oper.wp execOp;simp only[ho,resolve,invoke,builtin,Sem.run_bind,Sem.run_pure,Result.andThen_ok,List.map_toArray,List.map_cons,List.map_nil,hv,hx,hr];exact h a' c' w' hO h3
section
variable {P P' F F':Nat->Prop}{ad:Nat->Addr}{w w':World}{c s:Nat}{G G':GA}{l l':List Nat}
theorem zKu[zW](hL:yG F ad w)(hP:∀k,P k->F k)(h:jU F w P c s G l)(gen:Nat)(hg:gen<18446744073709551616)(id:Nat)(hid:id<G.blocks)(hlo:vQ<=id)(next:Nat)(hn:next<4294967296)(v:ByteArray)(hv:v.size+28<=G.size)(hco:G.cost<1000000) :
  Calls Tryz.prog 273 #[pgV c s gen,.int .i64 (id:Int),.int .i64 (next:Int),.string v] w (zDX F P ad w c s (G.put ⟨4,id,gen,yD 4 next++v.data.toList⟩) l (λ_ _ e=>e=.returned .nilIface)):=by
 unfold pgV;obtain⟨_,b256,_,s1024,_,_⟩:=h.lim;have m0:zF w (w.alloc (.cells #[.pointer (some ⟨c,0,none⟩),.pointer (some ⟨s,0,none⟩),.int .u64 (gen:Int)] 120)):=(zA.refl _ w).alloc _;have hL0:=hL.mods m0.ext;have HB0:=oh (zH.new w #[.pointer (some ⟨c,0,none⟩),.pointer (some ⟨s,0,none⟩),.int .u64 (gen:Int)] 120);have HL0:=oh hL0;have HG:=oh h;have HL:=oh hL;have HP:=oh hP;have HGN:=oh hg;have HM0:=oh m0;have HPC:Hid (yY ⟨4,(id:Int),gen,yD 4 next++v.data.toList⟩ (G.size:Int)=none):=oh (by
  unfold yY;rw[if_neg (by have:=(h.lim).2.2.1;unfold zAX;simp;omega),if_neg];simp only[List.length_append,zD,zAD];have:zC1 4=true:=rfl;rw[this];simp;omega)
 clear hL hL0 hP h m0 hg
 go_enter Tryz.func273, Tryz.ntmps273
 go_wp2_with fail;refine (zBL HL0.out (.slice none 0 0) [] (Sl.nil _ _ _ _) next 4 (by omega) (by omega) (by simp)).mono ?_;rintro e w1 ⟨pa,pc,rfl,hown,hm1⟩;have HO1:Hid (yC (λ_=>False) w1.drew w.heap.size 5 1 zZ (.slice pa 4 pc) (yD 4 next)):=oh (by
  have h1:=hown.rebase (base':=w.heap.size) (by simp);have h2:yC F w1 w.heap.size 5 1 zZ (.slice pa 4 pc) (yD 4 next):=by simpa using h1
  exact⟨h2.1,λ_ _ f=>f⟩)
 have HOB:Hid (∀g,(Value.slice pa 4 pc).ownBlock=some g->w.heap.size<g/\g<w1.heap.size):=oh (λg hg=>by
  have:=hown.lt g (by simpa using hg);simp at this;omega)
 have HM1:=oh hm1;have HB1:=oh (HB0.out.ext hm1);have r0:=HB1.out.cell (o:=0) (v:=.pointer (some ⟨c,0,none⟩)) rfl;have r2:=HB1.out.cell (o:=2) (v:=.int .u64 (gen:Int)) rfl;have HBZ:Hid (w.heap.size<=w1.drew.heap.size):=oh (HM0.out.trans hm1).size;have hlen4:(yD 4 next).length=4:=zD 4 next;have HL4:=oh hlen4;simp only[List.length_nil,Nat.zero_add];clear hown hm1 hlen4;go_wp2_with fail;go_region_law
  (first
   | (refine zJx Tryz.elB Tryz.underlying9 (by rfl) _ _ (by rfl) w.heap.size (.slice pa 4 pc) (yD 4 next) v (by rfl) (by rfl) HO1.out (by have:=HL4.out;omega) HBZ.out ?_;intro a' c' w4 hown hgrow;have hg4:=zA.of_grown hgrow;have y0:=(hg4.cell (yH r0) (λe=>by have:=HOB.out _ e;omega)).trans r0;have y2:=(hg4.cell (yH r2) (λe=>by have:=HOB.out _ e;omega)).trans r2;have HE4:Hid (zF w w4):=oh ((HM0.out.trans HM1.out).drew.trans' hg4 (λi hi e=>by have:=HOB.out _ e;omega));have HS4:=oh (yC.sl (F:=F) ⟨hown.1,λg hg f=>by have:=hown.lt g hg;have:=HL.out.lt g f;omega⟩ jE.len (by rw[List.length_append,zAD,zD];omega)))
   | (go_simp;go_at_call 153;refine (zRH (HL.out.mods HE4.out.ext) HP.out (HG.out.at HE4.out) ⟨4,id,gen,yD 4 next++v.data.toList⟩ _ HS4.out HGN.out ⟨by simp only;omega,by simp only;omega⟩ (by simpa using hlo) HPC.out hco).mono ?_;rintro e w5 ⟨P5,F5,hG5,hN5,rfl⟩))
 all_goals
  have HG5:=oh hG5;have HN5:=oh hN5;clear hG5 hN5 hown hgrow hg4 y0 y2;go_wp2_with fail;go_ret;exact⟨P5,F5,HG5.out,(zY.ext HL.out HP.out HE4.out).trans HN5.out,rfl⟩
end
def zB6(v:List UInt8)(n i:Nat):List UInt8:=(v.drop (i * n)).take n
def zAy(gen:Nat)(v:List UInt8)(n:Nat)(ids:List Nat)(i:Nat):zX:=⟨4,((ids.getD i 0:Nat):Int),gen,yD 4 (ids.getD (i+1) 0)++zB6 v n i⟩
def jZ(gen:Nat)(v:List UInt8)(n:Nat)(ids:List Nat):Nat->GA->GA
 | 0,G=>G
 | k+1,G=>(jZ gen v n ids k G).put (zAy gen v n ids k)
theorem qY(gen:Nat)(v:List UInt8)(n:Nat)(ids:List Nat):∀(k:Nat) (G:GA),(jZ gen v n ids k G).blocks=G.blocks/\(jZ gen v n ids k G).size=G.size/\(jZ gen v n ids k G).cost=G.cost+k
 | 0,G=>⟨rfl,rfl,rfl⟩
 | k+1,G=>by
  obtain⟨h1,h2,h3⟩:=qY gen v n ids k G;exact⟨h1,h2,by show (jZ gen v n ids k G).cost+1=_;omega⟩
def zOC[zW](F P:Nat->Prop)(ad:Nat->Addr)(w:World)(c s:Nat)(G:GA)(l:List Nat)(gen:Nat)(v:ByteArray)(e:Ending)(w':World):Prop :=
  ∃(P' F':Nat->Prop) (G':GA) (l':List Nat),jU F' w' P' c s G' l'/\zY P P' F F' ad w w' /\
    ((∃ ids, zAp (zC3 v.size G.size).toNat l = some (ids, l') /\ zE1 l ids l' /\ ids.length = (zC3 v.size G.size).toNat /\ G' = jZ gen v.data.toList (G.size - 28) ids ids.length G /\ e = .returned (.tuple #[.int .i64 ((ids.getD 0 0 : Nat) : Int), .nilIface])) \/
     (∃(a:List Nat) (f:Nat),zAp (zC3 v.size G.size).toNat l=none/\l'=l/\G'=jQ G a/\(∀id∈a,l[id]? = some 0)/\e=.returned (.tuple #[.int .i64 0,zL f])/\vB F' ad w' (zL f) [-1, -1] 3))
section
variable {P P' F F':Nat->Prop}{ad:Nat->Addr}{w w':World}{c s:Nat}{G G':GA}{l l':List Nat}
theorem zKv(n size:Nat)(h1:25<=n)(h2:n<=4096)(h3:256<=size)(h4:size<=1024):∃m:Nat,zC3 n size=(m:Int)/\1<=m/\m<=18/\(m-1) * (size-28)<n/\n<=m * (size-28):=by
 refine⟨(n-1) / (size-28)+1,?_,Nat.le_add_left 1 _,?_,?_,?_⟩
 .unfold zC3;rw[if_neg (by omega)];have e1:((n:Int)-1)=((n-1:Nat):Int):=by omega
  have e2:((size:Int)-28)=((size-28:Nat):Int):=by omega
  rw[e1,e2];simp
 .have:(n-1) / (size-28)<=(n-1) / 228:=Nat.div_le_div_left (by omega) (by omega);omega
 .rw[Nat.add_sub_cancel];have:=Nat.div_mul_le_self (n-1) (size-28);omega
 .have:=Nat.lt_div_mul_add (a:=n-1) (b:=size-28) (by omega);rw[Nat.add_mul,Nat.one_mul];omega
theorem zI6(v:ByteArray)(i j:Nat):(v.extract i j).data.toList=(v.data.toList.drop i).take (j-i):=by
 rw[ByteArray.data_extract,Array.toList_extract,List.extract_eq_take_drop]
theorem zCQ.form[zW]{n:Nat}{e:Ending}(h:zCQ F P ad w c s G l n e w'):∃iv ev,e=.returned (.tuple #[iv,ev]):=by
 obtain⟨_,_,_,_,_,_,⟨_,iv,_,_,_,_,h,_⟩|⟨_,f,_,_,_,_,h,_⟩⟩:=h
 .exact⟨_,_,h⟩
 .exact⟨_,_,h⟩
theorem zCQ.cellK[zW]{n:Nat}{e:Ending}(h:zCQ F P ad w c s G l n e w'){b o:Nat}{x:Value}(hc:w.cell? ⟨b,o,none⟩=some x)(hb:¬ P b):w'.cell? ⟨b,o,none⟩=some x:=by
 obtain⟨_,_,_,_,_,hn,_⟩:=h;exact hn.cellK hc hb
theorem zKw[zW](hL:yG F ad w)(hP:∀k,P k->F k)(h:jU F w P c s G l)(gen:Nat)(hg:gen<18446744073709551616)(v:ByteArray)(h25:25<=v.size)(h4096:v.size<=4096)(hok:zQj l)(hlb:l.length=G.blocks)(hco:G.cost+100<=1000000) :
  Calls Tryz.prog 212 #[pgV c s gen,.string v] w (zOC F P ad w c s G l gen v):=by
 obtain⟨_,b256,s256,s1024,_,_⟩:=h.lim;obtain⟨m,hm,hm1,hm18,hlo,hhi⟩:=zKv v.size G.size h25 h4096 s256 s1024;have hck:zBM (v.size:Int)=none:=by unfold zBM;rw[if_neg (by omega)]
 obtain⟨nn,hnn⟩:∃nn,nn=G.size-28:=⟨_,rfl⟩;have hnI:(G.size:Int)-28=(nn:Int):=by omega
 unfold pgV;have m0:zF w (w.alloc (.cells #[.pointer (some ⟨c,0,none⟩),.pointer (some ⟨s,0,none⟩),.int .u64 (gen:Int)] 120)):=(zA.refl _ w).alloc _;have HN0:Hid (¬ P w.heap.size):=oh (λf=>by have:=h.bd _ f;omega);have HB0:=oh (zH.new w #[.pointer (some ⟨c,0,none⟩),.pointer (some ⟨s,0,none⟩),.int .u64 (gen:Int)] 120);have HX0:=oh (zY.ext hL hP m0);have HG0:=oh (h.at m0);have HOK:=oh hok;have HLB:=oh hlb;have HM:=oh hm;have HNN:=oh hnn;have HNI:=oh hnI;have HGN:=oh hg;have HLO:=oh hlo;have HHI:=oh hhi;have hsz4:(v.size:Int)<=4096:=by omega
 clear hL hP h m0 hok hlb hm hnn hnI hg hlo hhi
 go_enter Tryz.func212, Tryz.ntmps212
 go_wp2_with fail;refine (zGa HX0.out.env _ gen (v.size:Int)).mono ?_;rintro e w1 ⟨ev,rfl,hE,hm1'⟩;rw[hck] at hE;cases hE
 have HX1:=oh (HX0.out.trans (zY.ext HX0.out.env HX0.out.sub hm1'));have HG1:=oh (HG0.out.at hm1');have HB1:=oh (HB0.out.ext hm1');have r0:=HB1.out.cell (o:=0) (v:=.pointer (some ⟨c,0,none⟩)) rfl;have r1:=HB1.out.cell (o:=1) (v:=.pointer (some ⟨s,0,none⟩)) rfl;have r2:=HB1.out.cell (o:=2) (v:=.int .u64 (gen:Int)) rfl;clear hm1' hck;go_wp2_with fail;refine (zFK HG1.out gen).mono ?_;rintro e w2 ⟨rfl,hm2⟩;have HX2:=oh (HX1.out.trans (zY.ext HX1.out.env HX1.out.sub hm2));have HG2:=oh (HG1.out.at hm2);have HB2:=oh (HB1.out.ext hm2);have t0:=HB2.out.cell (o:=0) (v:=.pointer (some ⟨c,0,none⟩)) rfl;have t1:=HB2.out.cell (o:=1) (v:=.pointer (some ⟨s,0,none⟩)) rfl;have t2:=HB2.out.cell (o:=2) (v:=.int .u64 (gen:Int)) rfl;clear hm2 r0 r1 r2;go_wp2_with fail;refine (zF7 (G.size:Int) _ (by omega) (by omega)).mono ?_;rintro e w2' ⟨rfl,rfl⟩;rw[HNI.out];have HG2d:=oh (HG2.out.at (zA.refl _ w2).drew);have HX2d:=oh (HX2.out.trans (zY.ext HX2.out.env HX2.out.sub (zA.refl _ w2).drew));have HBN:Hid (¬ P w.heap.size):=oh HN0.out;go_wp2_with fail;go_region_held3 (λw'=>w'.cell? ⟨w.heap.size,0,none⟩=some (.pointer (some ⟨c,0,none⟩))/\w'.cell? ⟨w.heap.size,1,none⟩=some (.pointer (some ⟨s,0,none⟩))/\w'.cell? ⟨w.heap.size,2,none⟩=some (.int .u64 (gen:Int)))
  (first|(with_reducible exact⟨x0,x1,x2⟩)|(with_reducible exact⟨z0,z1,z2⟩)|go_keep)
  (first
   | (go_at_call 271;refine (zFK HG2d.out gen).mono ?_;rintro e w3 ⟨rfl,hm3⟩;have x0:=zE hm3 t0;have x1:=zE hm3 t1;have x2:=zE hm3 t2)
   | (go_at_call 209;refine (zPO (v.size:Int) (G.size:Int) _ (by omega) (by omega)).mono ?_;rintro e w3' ⟨rfl,rfl⟩;rw[HM.out])
   | (go_at_call 272;refine (zKt (HX2d.out.env.mods hm3.ext) HX2d.out.sub (HG2d.out.at hm3) gen m (by omega) HOK.out).mono ?_;rintro e w4 ht4;obtain⟨iv,ev,rfl⟩:=ht4.form;have z0:=ht4.cellK x0 HBN.out;have z1:=ht4.cellK x1 HBN.out;have z2:=ht4.cellK x2 HBN.out))
 obtain⟨P4,F4,G4,l4,hG4,hN4,hres⟩:=ht4;have HX4:=oh ((HX2d.out.trans (zY.ext HX2d.out.env HX2d.out.sub hm3)).trans hN4);have HG4:=oh hG4;have HB4:=oh (hN4.blk ((HB2.out.drew).ext hm3) HBN.out);have HP4:Hid (¬ P4 w.heap.size):=oh (hN4.not ((HB2.out.drew).ext hm3).lt HBN.out);clear hG4 hN4 z0 z1 z2 x0 x1 x2 hm3 t0 t1 t2;rcases hres with ⟨ids,iv',k1,k2,k3,k4,k5,k6⟩|⟨a,f,k1,k2,k3,k4,k5,k6⟩
 .simp only[Ending.returned.injEq,Value.tuple.injEq,Array.mk.injEq,List.cons.injEq,and_true] at k5;obtain⟨e1,e2⟩:=k5;subst e1 e2 k4;obtain⟨ia,icap,rfl,i1,i2,i3,i4⟩:=_root_.id k6;have K1:=oh k1;have K2:=oh k2;have K3:=oh k3;have K6:=oh k6;have I4:=oh i4;rw[k3] at i1 i3 ⊢;unfold maxLen at i2;clear k1 k2 k3 k6 i4;go_wp2_with fail;go_loopg [40] m (λq iv wr=>∃(k:Nat) (P5 F5:Nat->Prop),k+q=m/\iv=.int .i64 k/\Hid (jU F5 wr P5 c s (jZ gen v.data.toList nn ids k G4) l4/\zY P P5 F F5 ad w wr/\(zH wr w.heap.size #[.pointer (some ⟨c,0,none⟩),.pointer (some ⟨s,0,none⟩),.int .u64 (gen:Int)] 120 /\ ¬ P5 w.heap.size)/\Sl P5 wr 1 zIh (.slice ia m icap) ids))
  case atStart=>exact⟨0,P4,F4,by omega,rfl,oh ⟨HG4.out,HX4.out,⟨HB4.out,HP4.out⟩,by have:=K6.out;rw[K3.out] at this;exact this⟩⟩
  case round =>
   obtain⟨k,P5,F5,hk,rfl,HW⟩:=hrel;by_cases hlt:k<m
   .obtain⟨hW1,hW2,⟨hW3,hW4⟩,hW5⟩:=HW.out;obtain⟨ia',icap',eia,_,_,_,hcs⟩:=hW5;simp only[Value.slice.injEq] at eia;obtain⟨eia1,eia3,eia2⟩:=eia;clear eia3;subst eia1 eia2;rcases hcs with hcs|⟨b,off,rfl,hbl,hbP,hcs⟩
    .have:=K3.out;rw[hcs] at this;simp at this;omega
    .have hkl:k<ids.length:=by rw[K3.out];exact hlt
     have c0:=hcs k ids[k] (List.getElem?_eq_getElem hkl) 0 _ rfl;simp only[Nat.mul_one,Nat.add_zero] at c0;have r0:=hW3.cell (o:=0) (v:=.pointer (some ⟨c,0,none⟩)) rfl;have r1:=hW3.cell (o:=1) (v:=.pointer (some ⟨s,0,none⟩)) rfl;have r2:=hW3.cell (o:=2) (v:=.int .u64 (gen:Int)) rfl;obtain⟨p,hp⟩:∃p,p=k * nn:=⟨_,rfl⟩;obtain⟨q,hq⟩:∃q,q=(k+1) * nn:=⟨_,rfl⟩;have hpq:q=p+nn:=by rw[hp,hq,Nat.add_mul,Nat.one_mul]
     have hpv:p<v.size:=by
      have h1:k * nn<=(m-1) * nn:=Nat.mul_le_mul_right _ (by omega);have h2:=HLO.out;rw[<- HNN.out] at h2;omega
     have hnn2:228<=nn/\nn<=996:=by have:=HNN.out;omega
     have w1:(k:Int) * (nn:Int)=(p:Int):=by rw[hp];simp
     have h1:(0:Int)<=(k:Int):=by omega
     have h2:(k:Int)<(m:Int):=by omega
     have hid:ids[k]<G4.blocks:=by
      have h1:=K2.out.fresh ids[k] (List.getElem_mem _);have h2:=(List.getElem?_eq_some_iff.1 h1).1;rw[K2.out.len,HLB.out] at h2;exact h2
     have HC0:=oh (show ids.getD k 0=ids[k] by simp[List.getD,hkl]);have HLK:Hid (vQ<=ids[k]):=oh (HG4.out.fresh (.inr (K2.out.fresh ids[k] (List.getElem_mem _))));obtain⟨id,hide⟩:∃id,id=ids[k]:=⟨_,rfl⟩;rw[<- hide] at c0 hid HC0 HLK;have HP:=oh hp;have HQ:=oh hq;have u1:IntKind.i64.wrap (p:Int)=(p:Int):=IntWalk.i64_in _ (by omega);have u2:IntKind.i64.wrap ((k:Int)+1)=(k:Int)+1:=IntWalk.i64_in _ (by omega);have u3:IntKind.i64.wrap (((k:Int)+1) * (nn:Int))=(q:Int):=by
      have w2:((k:Int)+1) * (nn:Int)=(q:Int):=by rw[hq];simp
      rw[w2];exact IntWalk.i64_in _ (by omega)
     clear hp hq hW1 hW2 hW3 hW4 hide;by_cases hlast:k+1<m
     .have hqv:q<v.size:=by
       have h1:(k+1) * nn<=(m-1) * nn:=Nat.mul_le_mul_right _ (by omega);have h2:=HLO.out;rw[<- HNN.out] at h2;have:=HQ.out;omega
      have hqvI:(q:Int)<(v.size:Int):=by omega
      have hkl1:k+1<ids.length:=by rw[K3.out];exact hlast
      have c1:=hcs (k+1) ids[k+1] (List.getElem?_eq_getElem hkl1) 0 _ rfl;simp only[Nat.mul_one,Nat.add_zero] at c1;have hnx:ids[k+1]<4294967296:=by
       have h1:=K2.out.fresh ids[k+1] (List.getElem_mem _);have h2:=(List.getElem?_eq_some_iff.1 h1).1;rw[K2.out.len] at h2;omega
      have HC1:=oh (show ids.getD (k+1) 0=ids[k+1] by simp[List.getD,hkl1]);obtain⟨nx,hnxe⟩:∃nx,nx=ids[k+1]:=⟨_,rfl⟩;rw[<- hnxe] at c1 hnx HC1;have HPC:Hid ((v.extract p q).data.toList=zB6 v.data.toList nn k):=oh (by
       rw[HP.out,HQ.out,zI6];unfold zB6;rw[show (k+1) * nn-k * nn=nn by rw[Nat.add_mul,Nat.one_mul];omega])
      have v1:(0:Int)<=(p:Int):=by omega
      have v2:(p:Int)<=(q:Int):=by omega
      have v3:(q:Int)<=(v.size:Int):=by omega
      have v4:min (q:Int) (v.size:Int)=(q:Int):=by omega
      have HPQ:=oh hpq;clear hnxe hcs hpq;go_wp2_with fail;go_region_held3 (λw'=>w'.cell? ⟨w.heap.size,0,none⟩=some (.pointer (some ⟨c,0,none⟩))/\w'.cell? ⟨w.heap.size,1,none⟩=some (.pointer (some ⟨s,0,none⟩))/\w'.cell? ⟨w.heap.size,2,none⟩=some (.int .u64 (gen:Int)))
       (first|(with_reducible exact⟨z0,z1,z2⟩)|go_keep)
       ((go_at_call 273;refine (zKu (HW.out.2.1.env.mods (zA.refl _ _).drew) HW.out.2.1.sub (HW.out.1.at (zA.refl _ _).drew) gen HGN.out id (by rw[(qY gen v.data.toList nn ids k G4).1];exact hid) HLK.out nx hnx (v.extract p q) (by rw[(qY gen v.data.toList nn ids k G4).2.1,ByteArray.size_extract];have:=HNN.out;have:=HPQ.out;omega) (by rw[(qY gen v.data.toList nn ids k G4).2.2];omega)).mono ?_;rintro e w6 ⟨P6,F6,hG6,hN6,rfl⟩;have z0:=hN6.cellK r0 HW.out.2.2.1.2;have z1:=hN6.cellK r1 HW.out.2.2.1.2;have z2:=hN6.cellK r2 HW.out.2.2.1.2))
      have HNX:Hid (jU F6 w6 P6 c s (jZ gen v.data.toList nn ids (k+1) G4) l4/\zY P P6 F F6 ad w w6/\(zH w6 w.heap.size #[.pointer (some ⟨c,0,none⟩),.pointer (some ⟨s,0,none⟩),.int .u64 (gen:Int)] 120 /\ ¬ P6 w.heap.size)/\Sl P6 w6 1 zIh (.slice (some ⟨b,off,none⟩) m icap) ids):=oh (by
       have e:zAy gen v.data.toList nn ids k=⟨4,(id:Int),gen,yD 4 nx++(v.extract p q).data.toList⟩:=by unfold zAy;rw[HC0.out,HC1.out,HPC.out]
       refine⟨by rw[jZ,e];exact hG6,(HW.out.2.1.trans (zY.ext HW.out.2.1.env HW.out.2.1.sub (zA.refl _ wr).drew)).trans hN6,⟨hN6.blk (w:=wr.drew) HW.out.2.2.1.1 HW.out.2.2.1.2,hN6.not (w:=wr.drew) HW.out.2.2.1.1.lt HW.out.2.2.1.2⟩,hN6.slP (HW.out.2.2.2.ext (zA.refl _ wr).drew)⟩)
      clear hG6 hN6 z0 z1 z2;go_wp2_with fail;go_roundg (gk-1)
      case measure=>omega
      case rel=>exact⟨k+1,P6,F6,by omega,by go_num,HNX⟩
     .have hqv:(v.size:Int)<=(q:Int):=by
       have h1:=HHI.out;rw[<- HNN.out] at h1;have h2:=HQ.out;rw[show k+1=m by omega] at h2;omega
      have HC1:=oh (show ids.getD (k+1) 0=0 by simp[List.getD,List.getElem?_eq_none (show ids.length<=k+1 by rw[K3.out];omega)]);have HPC:Hid ((v.extract p v.size).data.toList=zB6 v.data.toList nn k):=oh (by
       rw[zI6,HP.out];unfold zB6;have hl:v.data.toList.length=v.size:=zAD v;rw[List.take_of_length_le (by rw[List.length_drop,hl];exact Nat.le_refl _),List.take_of_length_le (by rw[List.length_drop,hl];have:=HP.out;omega)])
      have v1:(0:Int)<=(p:Int):=by omega
      have v2:(p:Int)<=(v.size:Int):=by omega
      have v4:min (q:Int) (v.size:Int)=(v.size:Int):=by omega
      have hlast2:decide (k+1<m)=false:=by simpa using hlast
      have hlast3:(m:Int)<=(k:Int)+1:=by omega
      have HPQ:=oh hpq;clear hcs hpq hlast;go_wp2_with fail;go_region_held3 (λw'=>w'.cell? ⟨w.heap.size,0,none⟩=some (.pointer (some ⟨c,0,none⟩))/\w'.cell? ⟨w.heap.size,1,none⟩=some (.pointer (some ⟨s,0,none⟩))/\w'.cell? ⟨w.heap.size,2,none⟩=some (.int .u64 (gen:Int)))
       (first|(with_reducible exact⟨z0,z1,z2⟩)|go_keep)
       ((go_at_call 273;refine (zKu (HW.out.2.1.env.mods (zA.refl _ _).drew) HW.out.2.1.sub (HW.out.1.at (zA.refl _ _).drew) gen HGN.out id (by rw[(qY gen v.data.toList nn ids k G4).1];exact hid) HLK.out 0 (by omega) (v.extract p v.size) (by rw[(qY gen v.data.toList nn ids k G4).2.1,ByteArray.size_extract];have:=HNN.out;have:=HPQ.out;omega) (by rw[(qY gen v.data.toList nn ids k G4).2.2];omega)).mono ?_;rintro e w6 ⟨P6,F6,hG6,hN6,rfl⟩;have z0:=hN6.cellK r0 HW.out.2.2.1.2;have z1:=hN6.cellK r1 HW.out.2.2.1.2;have z2:=hN6.cellK r2 HW.out.2.2.1.2))
      have HNX:Hid (jU F6 w6 P6 c s (jZ gen v.data.toList nn ids (k+1) G4) l4/\zY P P6 F F6 ad w w6/\(zH w6 w.heap.size #[.pointer (some ⟨c,0,none⟩),.pointer (some ⟨s,0,none⟩),.int .u64 (gen:Int)] 120 /\ ¬ P6 w.heap.size)/\Sl P6 w6 1 zIh (.slice (some ⟨b,off,none⟩) m icap) ids):=oh (by
       have e:zAy gen v.data.toList nn ids k=⟨4,(id:Int),gen,yD 4 0++(v.extract p v.size).data.toList⟩:=by unfold zAy;rw[HC0.out,HC1.out,HPC.out]
       refine⟨by rw[jZ,e];exact hG6,(HW.out.2.1.trans (zY.ext HW.out.2.1.env HW.out.2.1.sub (zA.refl _ wr).drew)).trans hN6,⟨hN6.blk (w:=wr.drew) HW.out.2.2.1.1 HW.out.2.2.1.2,hN6.not (w:=wr.drew) HW.out.2.2.1.1.lt HW.out.2.2.1.2⟩,hN6.slP (HW.out.2.2.2.ext (zA.refl _ wr).drew)⟩)
      clear hG6 hN6 z0 z1 z2;go_wp2_with fail;go_roundg (gk-1)
      case measure=>omega
      case rel=>exact⟨k+1,P6,F6,by omega,by go_num,HNX⟩
   .obtain rfl:k=m:=by omega
    obtain⟨hW1,hW2,⟨hW3,hW4⟩,hW5⟩:=HW.out;obtain⟨ia',icap',eia,_,_,_,hcs⟩:=hW5;simp only[Value.slice.injEq] at eia;obtain⟨eia1,eia3,eia2⟩:=eia;clear eia3;subst eia1 eia2;rcases hcs with hcs|⟨b,off,rfl,hbl,hbP,hcs⟩
    .have:=K3.out;rw[hcs] at this;simp at this;omega
    .have hkl:0<ids.length:=by rw[K3.out];omega
     have c0:=hcs 0 ids[0] (List.getElem?_eq_getElem hkl) 0 _ rfl;simp only[Nat.mul_one,Nat.add_zero] at c0;have HC0:=oh (show ids.getD 0 0=ids[0] by simp[List.getD,hkl]);obtain⟨id,hide⟩:∃id,id=ids[0]:=⟨_,rfl⟩;rw[<- hide] at c0 HC0;have h2:(0:Int)<(k:Int):=by omega
     have h3:0<k:=by omega
     clear hcs hide hW1 hW2 hW3 hW4 hkl;go_wp2_with fail;go_ret2
     refine⟨P5,F5,_,l4,HW.out.1,HW.out.2.1,.inl ⟨ids,?_,K2.out,?_,?_,?_⟩⟩
     .rw[HM.out];exact K1.out
     .rw[HM.out];exact K3.out
     .rw[K3.out,HNN.out]
     .rw[HC0.out];rfl
 .simp only[Ending.returned.injEq,Value.tuple.injEq,Array.mk.injEq,List.cons.injEq,and_true] at k5;obtain⟨e1,e2⟩:=k5;subst e1 e2 k2 k3;have K1:=oh k1;have K4:=oh k4;have K6:=oh k6;clear k1 k4 k6;go_wp2_with fail;refine (wrap_any HX4.out.env _ _ _ 3 K6.out).mono ?_;rintro e w5 ⟨f5,rfl,hE5,hm5⟩;have HE5:=oh hE5;have HM5:=oh hm5;clear hE5 hm5;go_wp2_with fail;go_ret2
  refine⟨P4,F4,_,_,HG4.out.at HM5.out,HX4.out.trans (zY.ext HX4.out.env HX4.out.sub HM5.out),.inr ⟨a,f5,?_,rfl,rfl,K4.out,rfl,HE5.out⟩⟩;rw[HM.out];exact K1.out
end
end
section
open Go.RowKit
def yP(size:Nat)(x:zX)(n:Int):Bool :=
 (vI x.body 0 4).2.isSome || decide (x.kind≠4) || decide ((x.body.length:Int)≠4+min n ((size:Int)-28)) || (decide ((vI x.body 0 4).1=0) != decide (n=min n ((size:Int)-28)))
def vO(G:GA):Nat->Int->Int->List (Int × List UInt8) × Option Err
 | 0,_,_=>([],none)
 | f+1,id,n=>if n<=0 then ([],none) else
  match G.get id with
  | .inr e=>([],some e)
  | .inl x=>if yP G.size x n=true then ([],some ([zB2 id],5)) else
   ((id,x.body.drop 4) :: (vO G f ((vI x.body 0 4).1:Nat) (n-min n ((G.size:Int)-28))).1,(vO G f ((vI x.body 0 4).1:Nat) (n-min n ((G.size:Int)-28))).2)
def zB7(G:GA):Nat->Int->Int->Prop
 | 0,_,_=>True
 | f+1,id,n=>0<n->G.knows id/\∀x,G.get id=.inl x->yP G.size x n=false->zB7 G f ((vI x.body 0 4).1:Nat) (n-min n ((G.size:Int)-28))
def U(A B:Nat->Prop):Nat->Prop:=λk=>A k\/B k
structure WS[zW](J:(Nat->Prop)->(Nat->Prop)->World->List (Int × List UInt8)->Prop)(P V F:Nat->Prop)(ad:Nat->Addr)(w:World)(B0 c s gen:Nat)(G:GA)(l:List Nat)(P1 V1 F1:Nat->Prop)(wr:World)(acc:List (Int × List UInt8)):Prop where
 pg:jU F1 wr P1 c s G l
 nx:zY (U P V) (U P1 V1) F F1 ad w wr
 box:zH wr B0 #[.pointer (some ⟨c,0,none⟩),.pointer (some ⟨s,0,none⟩),.int .u64 (gen:Int)] 120
 bP:¬ P1 B0
 bV:¬ V1 B0
 j:J V1 F1 wr acc
 apart:∀k,P1 k->¬ V1 k
def zHj[zW](J:(Nat->Prop)->(Nat->Prop)->World->List (Int × List UInt8)->Prop)(F P V:Nat->Prop)(ad:Nat->Addr)(w:World)(c s:Nat)(G:GA)(l:List Nat)(r:List (Int × List UInt8) × Option Err)(e:Ending)(w':World):Prop :=
 ∃(P' V' F':Nat->Prop) (ev:Value),e=.returned ev/\jU F' w' P' c s G l/\zY (U P V) (U P' V') F F' ad w w'/\J V' F' w' r.1/\(∀k,P' k->¬ V' k)/\zBw F' ad w' ev r.2
def zNP(J:(Nat->Prop)->(Nat->Prop)->World->List (Int × List UInt8)->Prop)(ad:Nat->Addr):Prop :=
 ∀(P1 P2 V1 F1 F2:Nat->Prop) (w1 w2:World) (acc:List (Int × List UInt8)),J V1 F1 w1 acc->zY P1 P2 F1 F2 ad w1 w2->(∀k,P1 k->¬ V1 k)->J V1 F2 w2 acc
section
variable {J:(Nat->Prop)->(Nat->Prop)->World->List (Int × List UInt8)->Prop}{P V F P1 P2 V1 V2 F1 F2:Nat->Prop}{ad:Nat->Addr}{w wr w2:World}{B0 c s gen:Nat}{G:GA}{l:List Nat}{acc acc':List (Int × List UInt8)}
theorem WS.envr[zW](h:WS J P V F ad w B0 c s gen G l P1 V1 F1 wr acc):yG F1 ad wr:=h.nx.env
theorem WS.subP[zW](h:WS J P V F ad w B0 c s gen G l P1 V1 F1 wr acc):∀k,P1 k->F1 k:=λk hk=>h.nx.sub k (.inl hk)
theorem WS.subV[zW](h:WS J P V F ad w B0 c s gen G l P1 V1 F1 wr acc):∀k,V1 k->F1 k:=λk hk=>h.nx.sub k (.inr hk)
theorem WS.nxt[zW](h:WS J P V F ad w B0 c s gen G l P1 V1 F1 wr acc)(K:zNP J ad)(n:zY P1 P2 F1 F2 ad wr w2)(hG:jU F2 w2 P2 c s G l):WS J P V F ad w B0 c s gen G l P2 V1 F2 w2 acc :=
 ⟨hG,h.nx.trans (n.part (Q:=V1) h.subV h.envr),n.blk h.box h.bP,n.not h.box.lt h.bP,h.bV,K _ _ _ _ _ _ _ _ h.j n h.apart,λk hk hv=>by
  have hb:=h.nx.stp.bd k (.inr hv);exact h.apart k (n.stp.old k hb hk) hv⟩
theorem WS.ext[zW](h:WS J P V F ad w B0 c s gen G l P1 V1 F1 wr acc)(K:zNP J ad)(m:zF wr w2):WS J P V F ad w B0 c s gen G l P1 V1 F1 w2 acc :=
 h.nxt K (zY.ext h.envr h.subP m) (h.pg.at m)
theorem WS.clo[zW](h:WS J P V F ad w B0 c s gen G l P1 V1 F1 wr acc)(n:zY V1 V2 F1 F2 ad wr w2)(hj:J V2 F2 w2 acc'):WS J P V F ad w B0 c s gen G l P1 V2 F2 w2 acc':=by
 have hq:=n.part (Q:=P1) h.subP h.envr;have hq2:zY (U P1 V1) (U P1 V2) F1 F2 ad wr w2:=hq.iff (λk=>Or.comm) (λk=>Or.comm);refine⟨h.pg.plus n.stp.mods (λk hk hv=>h.apart k hk hv) h.subV (λk hk hn hf=>hn (n.oldF k hk hf)),h.nx.trans hq2,n.blk h.box h.bV,h.bP,n.not h.box.lt h.bV,hj,λk hk hv=>?_⟩;have hb:=h.nx.stp.bd k (.inl hk);exact h.apart k hk (n.stp.old k hb hv)
end
section
variable {P P' F F':Nat->Prop}{ad:Nat->Addr}{w w':World}{c s:Nat}{G G':GA}{l l':List Nat}
theorem zKx(b:List UInt8):(vI b 0 4).1<4294967296:=by
 unfold vI;split
 .simp
 .split
  .simp
  .have:=zEj ((b.drop (0:Int).toNat).take 4);have h2:((b.drop (0:Int).toNat).take 4).length<=4:=List.length_take_le _ _;have h3:(256:Nat) ^ ((b.drop (0:Int).toNat).take 4).length<=256 ^ 4:=Nat.pow_le_pow_right (by omega) h2;simp only;omega
theorem zPi[zW](J:(Nat->Prop)->(Nat->Prop)->World->List (Int × List UInt8)->Prop)(V:Nat->Prop)(hL:yG F ad w)(hP:∀k,P k->F k)(hV:∀k,V k->F k)(hPV:∀k,P k->¬ V k)(h:jU F w P c s G l)(gen:Nat)(id n:Int)(hn:n<=4096)(fuel:Nat)(hf:n<=fuel)(hok:zB7 G fuel id n)(fn:FuncId)(cv:Value)
  (hid : -9223372036854775808<=id/\id<=9223372036854775807) (hn0:0<=n)
  (hcf:∀(args:Array Value) (w:World),(callFunc fn args).run Tryz.prog w=.ok (.enter fn args) w)
  (hJ0:J V F w []) (hJn:zNP J ad)
  (hJs:∀(V1 F1:Nat->Prop) (w1:World) (acc:List (Int × List UInt8)) (id:Int) (sv:Value) (b:List UInt8),J V1 F1 w1 acc->yG F1 ad w1->(∀k,V1 k->F1 k)->Sl F1 w1 1 zZ sv b->b.length<=1000->acc.length<=4096 ->
   Calls Tryz.prog fn #[.int .i64 id,sv,cv] w1 λe w2=>∃V2 F2,e=.returned (.tuple #[])/\J V2 F2 w2 (acc++[(id,b)])/\zY V1 V2 F1 F2 ad w1 w2) :
  Calls Tryz.prog 261 #[pgV c s gen,.int .i64 id,.int .i64 n,.func (.func fn) #[] #[cv]] w (zHj J F P V ad w c s G l (vO G fuel id n)):=by
 unfold pgV;have hlim:=h.lim;have m0:zF w (w.alloc (.cells #[.pointer (some ⟨c,0,none⟩),.pointer (some ⟨s,0,none⟩),.int .u64 (gen:Int)] 120)):=(zA.refl _ w).alloc _;have hs0:WS J P V F ad w w.heap.size c s gen G l P V F (w.alloc (.cells #[.pointer (some ⟨c,0,none⟩),.pointer (some ⟨s,0,none⟩),.int .u64 (gen:Int)] 120)) []:=by
  have hn:=zY.ext hL (P:=U P V) (λk hk=>hk.elim (hP k) (hV k)) m0;exact⟨h.at m0,hn,zH.new w _ _,λf=>by have:=h.bd _ f;omega,λf=>by have:=hL.lt _ (hV _ f);omega,hJn _ _ _ _ _ _ _ _ hJ0 (zY.ext hL hP m0) hPV,hPV⟩
 have HS0:=oh hs0;have HJN:=oh hJn;have HJS:=oh hJs;have HOK:=oh hok;obtain⟨b8,b256,s256,s1024,_,_⟩:=hlim;obtain⟨nn,hnn⟩:∃nn,nn=G.size-28:=⟨_,rfl⟩;have hnI:(G.size:Int)-28=(nn:Int):=by omega
 have HNI:=oh hnI;have hnn2:228<=nn/\nn<=996:=by omega
 obtain⟨hnn3,hnn4⟩:=hnn2;clear hL hP h m0 hJ0 hJn hJs hok hnn hnI hV hPV hs0
 go_enter Tryz.func261, Tryz.ntmps261
 go_wp2_with fail;go_loopg [1,2] fuel (λm iv nv wr=>∃(id1 n1:Int) (P1 V1 F1:Nat->Prop) (acc:List (Int × List UInt8)),iv=.int .i64 id1/\nv=.int .i64 n1/\n1<=m/\0<=n1/\n1<=4096/\(-9223372036854775808<=id1/\id1<=9223372036854775807) /\
  Hid (WS J P V F ad w w.heap.size c s gen G l P1 V1 F1 wr acc/\zB7 G m id1 n1/\(acc.length:Int)+n1<=4096/\acc++(vO G m id1 n1).1=(vO G fuel id n).1/\(vO G m id1 n1).2=(vO G fuel id n).2))
 case atStart=>exact⟨id,n,P,V,F,[],rfl,rfl,hf,hn0,hn,hid,oh ⟨HS0.out,HOK.out,by simpa using hn,by simp,rfl⟩⟩
 case round =>
  obtain⟨id1,n1,P1,V1,F1,acc,rfl,rfl,hf1,h01,hn1,⟨hi1,hi2⟩,HW⟩:=hrel;by_cases hpos:0<n1
  .obtain⟨m,rfl⟩:∃m,gk=m+1:=⟨gk-1,by omega⟩;have hW3:=HW.out.1.box;have hkn:=(HW.out.2.1 hpos).1;have HKN:=oh hkn;have r0:=hW3.cell (o:=0) (v:=.pointer (some ⟨c,0,none⟩)) rfl;clear hW3 hkn;go_wp2_with fail;refine (zRG HW.out.1.envr HW.out.1.subP HW.out.1.pg id1 HKN.out).mono ?_;rintro e w2 ⟨P2,F2,hG2,hN2,hres⟩;have HS2:=oh (HW.out.1.nxt HJN.out hN2 hG2);have HB2:=oh HS2.out.box;clear hG2 hN2 r0;rcases hres with ⟨x,xv,hx,rfl,hxv⟩|⟨er,f,hx,rfl,hE⟩
   .obtain⟨xa,xc,rfl,x1,x2,x3,x4⟩:=_root_.id hxv;obtain⟨xk,xi,xg,xb⟩:=x;simp only at x1 x3 x4 hxv;unfold maxLen at x2;have HXV:=oh hxv;have HX:=oh hx;have X4:=oh x4;obtain⟨wt,hwt⟩:∃wt:Nat,min n1 (nn:Int)=(wt:Int):=⟨(min n1 (nn:Int)).toNat,by omega⟩;have hwt1:1<=wt:=by omega
    have hwt2:(wt:Int)<=n1:=by omega
    have hwt3:wt<=996:=by omega
    have HWT:Hid (min n1 ((G.size:Int)-28)=(wt:Int)):=oh (by rw[HNI.out];exact hwt);have hB3:=HB2.out.alloc (.cells #[.int .i64 xk,.int .i64 xi,.int .u64 (xg:Int),.slice xa xb.length xc] 192);have r0:=hB3.cell (o:=0) (v:=.pointer (some ⟨c,0,none⟩)) rfl;have r1:=hB3.cell (o:=1) (v:=.pointer (some ⟨s,0,none⟩)) rfl;have r2:=hB3.cell (o:=2) (v:=.int .u64 (gen:Int)) rfl;have HG3:=oh (HS2.out.pg.at ((zA.refl _ w2).alloc (.cells #[.int .i64 xk,.int .i64 xi,.int .u64 (xg:Int),.slice xa xb.length xc] 192)));have HB9:=oh (zH.new w2 #[.int .i64 xk,.int .i64 xi,.int .u64 (xg:Int),.slice xa xb.length xc] 192);clear hx hxv x4 hB3;simp only[qA];go_wp2_with fail;refine (zFK HG3.out gen).mono ?_;rintro e w4 ⟨rfl,hm4⟩;have HM4:Hid (zF w2 w4):=oh (((zA.refl _ w2).alloc _).trans hm4);have hB9:=HB9.out.ext hm4;have q0:=hB9.cell (o:=0) (v:=.int .i64 xk) rfl;have q3:=hB9.cell (o:=3) (v:=.slice xa xb.length xc) rfl;have HB94:=oh hB9;clear hm4 hB9 r0 r1 r2;go_wp2_with fail;refine (zF7 (G.size:Int) _ (by omega) (by omega)).mono ?_;rintro e w4' ⟨rfl,rfl⟩;rw[HNI.out];have HL4:=oh (HS2.out.envr.mods HM4.out.ext);go_wp2_with fail;refine (zFb HL4.out (.slice xa xb.length xc) xb (HXV.out.ext HM4.out) 0 4 (by omega)).mono ?_;rintro e w5 ⟨ev,rfl,hE5,hm5⟩;have HM5:Hid (zF w2 w5):=oh (HM4.out.trans hm5);have HL5:=oh (HS2.out.envr.mods HM5.out.ext);have c5:=HL5.out.c5;have hB9:=HB94.out.ext hm5;have p0:=hB9.cell (o:=0) (v:=.int .i64 xk) rfl;have p3:=hB9.cell (o:=3) (v:=.slice xa xb.length xc) rfl;have htl:=zKx xb;obtain⟨tk,htk⟩:∃t,t=vI xb 0 4:=⟨_,rfl⟩;rw[<- htk] at hE5 htl ⊢;obtain⟨nx,o⟩:=tk;simp only at hE5 htl ⊢;have HTK:=oh htk;have BAD:yP G.size ⟨xk,xi,xg,xb⟩ n1=true->∀(w6:World) (f6:Nat),zF w5 w6->vB F2 ad w6 (zL f6) [zB2 id1] 5->zHj J F P V ad w c s G l (vO G fuel id n) (.returned (zL f6)) w6:=by
     intro hpb w6 f6 hm6 hE6;have h8:=HW.out.2.2.2.1;have h9:=HW.out.2.2.2.2;rw[vO,if_neg (by omega),HX.out] at h8 h9;simp only[hpb,if_true] at h8 h9;have hS:=HS2.out.ext HJN.out (HM5.out.trans hm6);refine⟨P2,V1,F2,_,rfl,hS.pg,hS.nx,?_,hS.apart,?_⟩
     .rw[<- h8,List.append_nil];exact hS.j
     .rw[<- h9];exact⟨f6,rfl,hE6⟩
    have BADT:Hid (∀(w6:World) (f6:Nat),yP G.size ⟨xk,xi,xg,xb⟩ n1=true->zF w5 w6->vB F2 ad w6 (zL f6) [zB2 id1] 5->zHj J F P V ad w c s G l (vO G fuel id n) (.returned (zL f6)) w6):=oh (λw6 f6 hpb h1 h2=>BAD hpb w6 f6 h1 h2);clear BAD htk hm5 hB9 q0 q3;cases o with
    | some er =>
     obtain⟨el,ek⟩:=er;obtain⟨f5,rfl,_⟩:=hE5;have HPB:Hid (yP G.size ⟨xk,xi,xg,xb⟩ n1=true):=oh (by unfold yP;rw[<- HTK.out];simp)
     -- bad
     go_wp2_with fail;refine (zAG HL5.out _ id1 _ _ 5 (.sent 5 (by decide) (by decide))).mono ?_;rintro e w6 ⟨f6,rfl,hE6,hm6⟩;have HE6:=oh hE6;have HM6:=oh hm6;clear hE6 hm6;go_wp2_with fail;go_ret;exact BADT.out w6 f6 HPB.out HM6.out HE6.out
    | none =>
     cases hE5
     by_cases hk4:xk=4
     .subst hk4;by_cases hlen:(xb.length:Int)=4+(wt:Int)
      .have b1:((xb.length:Int) != 4+(wt:Int))=false:=by simp[hlen]
       by_cases hz:(nx=0) ↔ (n1=(wt:Int))
       .have HPB:Hid (yP G.size ⟨4,xi,xg,xb⟩ n1=false):=oh (by
         unfold yP;rw[<- HTK.out,HWT.out];by_cases h1:nx=0 <;> by_cases h2:n1=(wt:Int) <;> simp[h1,h2,hlen] at hz ⊢)
        have hxl:5<=xb.length:=by omega
        have HLN:=oh hlen;obtain⟨b0,off,hxa⟩:∃b0 off,xa=some ⟨b0,off,none⟩:=by
         rcases X4.out with h|⟨b,off,h,_⟩
         .rw[h] at hxl;simp at hxl
         .exact⟨b,off,h⟩
        subst hxa;have HSL:Hid (Sl F2 w5 1 zZ (.slice (some ⟨b0,off+4,none⟩) (xb.length-4) (xc-4)) (xb.drop 4)):=oh (by
         have:=(HXV.out.ext HM5.out).sub 4 xb.length (by omega) (Nat.le_refl _);rw[List.take_of_length_le (by simp)] at this;exact this)
        have HS5:=oh (HS2.out.ext HJN.out HM5.out);have hxc5:5<=xc:=by omega
        have hxc4:¬ xc=4:=by omega
        have HAL:Hid (acc.length<=4096):=oh (by have:=HW.out.2.2.1;omega);have HNXT:Hid (zB7 G m (nx:Int) (n1-(wt:Int))/\acc++[(id1,xb.drop 4)]++(vO G m (nx:Int) (n1-(wt:Int))).1=(vO G fuel id n).1/\(vO G m (nx:Int) (n1-(wt:Int))).2=(vO G fuel id n).2):=oh (by
         have h6:=(HW.out.2.1 hpos).2 ⟨4,xi,xg,xb⟩ HX.out HPB.out;have h8:=HW.out.2.2.2.1;have h9:=HW.out.2.2.2.2;rw[vO,if_neg (by omega),HX.out] at h8 h9;simp only[HPB.out] at h8 h9;rw[<- HTK.out,HWT.out] at h6 h8 h9;refine⟨h6,?_,by simpa using h9⟩;simpa using h8)
        by_cases h1:nx=0
        .subst h1;have h2:n1=(wt:Int):=hz.1 rfl;subst h2;clear hz hlen;go_wp2_with fail;refine (HJS.out V1 F2 w5 acc id1 _ (xb.drop 4) HS5.out.j HS5.out.envr HS5.out.subV HSL.out (by have:=HLN.out;simp;omega) HAL.out).mono ?_;rintro e w6 ⟨V6,F6,rfl,hJ6,hX6⟩;have HNX:=oh (HS5.out.clo hX6 hJ6);clear hJ6 hX6;go_wp2_with fail;go_roundg m
         case measure=>omega
         case rel=>exact⟨((0:Nat):Int),(wt:Int)-(wt:Int),P2,V6,F6,acc++[(id1,xb.drop 4)],by first|rfl|exact zCj (by omega),by first|rfl|exact zCj (by omega),by omega,by omega,by omega,⟨by omega,by omega⟩,oh ⟨HNX.out,HNXT.out.1,by have:=HW.out.2.2.1;simp;omega,HNXT.out.2.1,HNXT.out.2.2⟩⟩
        .have h2:n1≠(wt:Int):=λe=>h1 (hz.2 e)
         have b2:(n1 == (wt:Int))=false:=beq_eq_false_iff_ne.2 h2;have b3:((nx:Int) == 0)=false:=beq_eq_false_iff_ne.2 (by omega);clear hz hlen h1 h2;go_wp2_with fail;refine (HJS.out V1 F2 w5 acc id1 _ (xb.drop 4) HS5.out.j HS5.out.envr HS5.out.subV HSL.out (by have:=HLN.out;simp;omega) HAL.out).mono ?_;rintro e w6 ⟨V6,F6,rfl,hJ6,hX6⟩;have HNX:=oh (HS5.out.clo hX6 hJ6);clear hJ6 hX6;go_wp2_with fail;go_roundg m
         case measure=>omega
         case rel=>exact⟨(nx:Int),n1-(wt:Int),P2,V6,F6,acc++[(id1,xb.drop 4)],by first|rfl|exact zCj (by omega),by first|rfl|exact zCj (by omega),by omega,by omega,by omega,⟨by omega,by omega⟩,oh ⟨HNX.out,HNXT.out.1,by have:=HW.out.2.2.1;simp;omega,HNXT.out.2.1,HNXT.out.2.2⟩⟩
       .have HPB:Hid (yP G.size ⟨4,xi,xg,xb⟩ n1=true):=oh (by
         unfold yP;rw[<- HTK.out,HWT.out];by_cases h1:nx=0 <;> by_cases h2:n1=(wt:Int) <;> simp[h1,h2] at hz ⊢)
        by_cases h1:nx=0
        .subst h1;have h2:n1≠(wt:Int):=λe=>hz ⟨λ_=>e,λ_=>rfl⟩
         have b2:(n1 == (wt:Int))=false:=beq_eq_false_iff_ne.2 h2;clear hz hlen h2;go_wp2_with fail;refine (zAG HL5.out _ id1 _ _ 5 (.sent 5 (by decide) (by decide))).mono ?_;rintro e w6 ⟨f6,rfl,hE6,hm6⟩;have HE6:=oh hE6;have HM6:=oh hm6;clear hE6 hm6;go_wp2_with fail;go_ret;exact BADT.out w6 f6 HPB.out HM6.out HE6.out
        .have h2:n1=(wt:Int):=Classical.byContradiction (λe=>hz ⟨λh=>absurd h h1,λh=>absurd h e⟩);have b2:(n1 == (wt:Int))=true:=beq_iff_eq.2 h2;have b3:((nx:Int) == 0)=false:=beq_eq_false_iff_ne.2 (by omega);clear hz hlen h2;go_wp2_with fail;refine (zAG HL5.out _ id1 _ _ 5 (.sent 5 (by decide) (by decide))).mono ?_;rintro e w6 ⟨f6,rfl,hE6,hm6⟩;have HE6:=oh hE6;have HM6:=oh hm6;clear hE6 hm6;go_wp2_with fail;go_ret;exact BADT.out w6 f6 HPB.out HM6.out HE6.out
      .have b1:((xb.length:Int) != 4+(wt:Int))=true:=bne_iff_ne.2 hlen;have b1':((xb.length:Int) == 4+(wt:Int))=false:=beq_eq_false_iff_ne.2 hlen;have HPB:Hid (yP G.size ⟨4,xi,xg,xb⟩ n1=true):=oh (by
        unfold yP;rw[<- HTK.out,HWT.out];simp[hlen])
       clear hlen;go_wp2_with fail;refine (zAG HL5.out _ id1 _ _ 5 (.sent 5 (by decide) (by decide))).mono ?_;rintro e w6 ⟨f6,rfl,hE6,hm6⟩;have HE6:=oh hE6;have HM6:=oh hm6;clear hE6 hm6;go_wp2_with fail;go_ret;exact BADT.out w6 f6 HPB.out HM6.out HE6.out
     .have b1:(xk != 4)=true:=bne_iff_ne.2 hk4;have b1':(xk == 4)=false:=beq_eq_false_iff_ne.2 hk4;have HPB:Hid (yP G.size ⟨xk,xi,xg,xb⟩ n1=true):=oh (by
       unfold yP;rw[<- HTK.out];simp[hk4])
      clear hk4;go_wp2_with fail;refine (zAG HL5.out _ id1 _ _ 5 (.sent 5 (by decide) (by decide))).mono ?_;rintro e w6 ⟨f6,rfl,hE6,hm6⟩;have HE6:=oh hE6;have HM6:=oh hm6;clear hE6 hm6;go_wp2_with fail;go_ret;exact BADT.out w6 f6 HPB.out HM6.out HE6.out
   .have HX:=oh hx;have HE:=oh hE;clear hx hE;simp only[qA,zHb];go_wp2_with fail;go_ret;have hS:=HS2.out.ext HJN.out ((zA.refl _ w2).alloc (.cells #[.int .i64 0,.int .i64 0,.int .u64 0,.slice none 0 0] 192));refine⟨P2,V1,F2,_,rfl,hS.pg,hS.nx,?_,hS.apart,?_⟩
    .have h8:=HW.out.2.2.2.1;rw[vO,if_neg (by omega),HX.out,List.append_nil] at h8;rw[<- h8];exact hS.j
    .have h9:=HW.out.2.2.2.2;rw[vO,if_neg (by omega),HX.out] at h9;rw[<- h9];exact⟨f,rfl,HE.out.mods ((zA.refl _ _).alloc _)⟩
  .go_wp2_with fail;go_ret;have hz:vO G gk id1 n1=([],none):=by
    cases gk with
    | zero=>rfl
    | succ k=>rw[vO,if_pos (by omega)]
   have h8:=HW.out.2.2.2.1;have h9:=HW.out.2.2.2.2;rw[hz] at h8 h9;refine⟨P1,V1,F1,_,rfl,HW.out.1.pg,HW.out.1.nx,?_,HW.out.1.apart,?_⟩
   .rw[<- h8,List.append_nil];exact HW.out.1.j
   .rw[<- h9];rfl
end
theorem zKy{P:Program}{F:Nat->Prop}{w:World}{src dst e:TypeId}(hs:P.underlying src=some (.slice e))(he:P.underlying e=some (.int .u8))(hd:P.underlying dst=some .string){v:Value}{l:List UInt8}(h:Sl F w 1 zZ v l) :
  (convert src dst v).run P w=.ok (.string ⟨l.toArray⟩) w:=by
 obtain⟨a,cap,rfl,h1,h2,h3,h4⟩:=h;rcases h4 with h4|⟨b,off,rfl,hb,hF,hc⟩
 .subst h4;rw[run_convert_bytes_string w src dst e _ _ cap hs he hd];cases a <;> simp[Conv.bytesToString,loadCells,loadCellsFrom] <;> rfl
 .have:=run_convert_bytes_arg (P:=P) w src e hs he b off l.length cap (l.map λx=>(x.toNat:Int)) (by simp) (λi hi=>by
   have h5:=hc i l[i] (List.getElem?_eq_getElem hi) 0 _ rfl;simp only[Nat.mul_one,Nat.add_zero] at h5;rw[h5];simp[List.getD,hi]) dst hd
  rw[this];congr 3
  unfold strOfNums;simp only[List.map_map];congr 2
  have:((λn:Int=>UInt8.ofNat n.toNat) ∘ λx:UInt8=>(x.toNat:Int))=id:=by funext x;simp
  rw[this,List.map_id]
section
variable {P P' F F':Nat->Prop}{ad:Nat->Addr}{w w':World}{c s:Nat}{G G':GA}{l l':List Nat}
theorem zY.comp{V V' F1 F2:Nat->Prop}{w1 w2:World}(n1:zY P P F F1 ad w w1)(n2:zY (U P V) (U P' V') F1 F2 ad w1 w2)(hV:∀k,V k->w.heap.size<=k):zY P P' F F2 ad w w2 :=
 ⟨⟨n1.stp.mods.trans' n2.stp.mods (λi hi h=>h.elim id (λhv=>by have:=hV i hv;omega)),λk hk h=>(n2.stp.old k (Nat.lt_of_lt_of_le hk n1.stp.mods.size) (.inl h)).elim id (λhv=>by have:=hV k hv;omega),λk h=>n2.stp.bd k (.inl h)⟩,
  λk h=>n2.sub k (.inl h),λk h=>n2.grow k (n1.grow k h),λk hk h=>n1.oldF k hk (n2.oldF k (Nat.lt_of_lt_of_le hk n1.stp.mods.size) h),n2.env⟩
def zI7(b:Nat)(V _F:Nat->Prop)(w:World)(acc:List (Int × List UInt8)):Prop :=
 ∃iv,zH w b #[iv] 59 /\ yC (λ_=>False) w b 3 1 yK iv (acc.map (·.1))/\iv.ownBlock≠some b/\∀k,V k ↔ (k=b\/iv.ownBlock=some k)
theorem zI7.keep(b:Nat):zNP (zI7 b) ad:=λ_ _ _ _ _ _ _ _ ⟨iv,h1,h2,h3,h4⟩ n hap =>
 ⟨iv,n.blk h1 (λhp=>hap b hp ((h4 b).2 (.inl rfl))),h2.mods n.stp.mods (λg hg hp=>hap g hp ((h4 g).2 (.inr hg))),h3,h4⟩
theorem zOD(b:Nat)(V1 F1:Nat->Prop)(w1:World)(acc:List (Int × List UInt8))(id:Int)(sv:Value)(h:zI7 b V1 F1 w1 acc)(hL:yG F1 ad w1)(hV:∀k,V1 k->F1 k)(hacc:acc.length<=4096)(x:List UInt8) :
  Calls Tryz.prog 270 #[.int .i64 id,sv,.pointer (some ⟨b,0,none⟩)] w1 λe w2=>∃V2 F2,e=.returned (.tuple #[])/\zI7 b V2 F2 w2 (acc++[(id,x)])/\zY V1 V2 F1 F2 ad w1 w2:=by
 obtain⟨iv,k1,k2,k3,k4⟩:=h;obtain⟨ia,icap,rfl,_⟩:=k2.form;have c0:=k1.cell (o:=0) (v:=.slice ia (acc.map (·.1)).length icap) rfl;have f0:=k1.frozen 0;have hbl:=k1.lt;obtain⟨A,hA⟩:∃A,A=acc.map (·.1):=⟨_,rfl⟩;have hAl:A.length<=4096:=by rw[hA];simpa using hacc
 rw[<- hA] at c0 k1 k2 k3 k4;have HA:=oh hA;have K1:=oh k1;have K2:=oh k2;have K3:=oh k3;have K4:=oh k4;have HL:=oh hL;have HV:=oh hV;clear hA k1 k2 k3 k4 hL hV hacc
 go_enter Tryz.func270, Tryz.ntmps270
 go_wp2_with (at_builtin;refine yU Tryz.elI vW rfl _ _ rfl b (.slice ia A.length icap) (.slice (some ⟨w1.heap.size,0,none⟩) 1 1) A [id] rfl rfl (K2.out.ext ((zA.refl _ _).alloc _)) (Sl.one (F:=λ_=>False) (x:=id) (t := 3) (fz:=(0,0)) (zR rfl) (λf=>f)) (by simp;omega) (Nat.le_trans (Nat.le_of_lt hbl) (by simp)) (λf=>f) ?_;intro a' c' w4 hown hmod hat;have y0:=(zI0 hmod (zI1 ⟨c0,f0⟩ (.cells #[.int .i64 id] 3)) K3.out).1;have y1:=(zI0 hmod (zI1 ⟨c0,f0⟩ (.cells #[.int .i64 id] 3)) K3.out).2);go_end0
 have hB4:=(K1.out.alloc (.cells #[.int .i64 id] 3)).mods hmod K3.out;have hsz:=hmod.size;simp only[World.alloc] at hsz;have hne:(Value.slice a' (A.length + [id].length) c').ownBlock≠some b:=λe=>by
  rcases hat with e2|e2
  .exact K3.out (e2 ▸ e)
  .rw[e2] at e;injection e with e;simp at e;omega
 have m1:zA V1 w1 w4:=((zA.refl _ w1).alloc (.cells #[.int .i64 id] 3)).trans (hmod.mono (λk hk=>(K4.out k).2 (.inr hk)));have m2:=m1.setCell (p:=⟨b,0,none⟩) (.inr ((K4.out b).2 (.inl rfl))) (.slice a' (A.length + [id].length) c');have st:Stp V1 (λk=>k=b\/(Value.slice a' (A.length + [id].length) c').ownBlock=some k) w1 (w4.setCell ⟨b,0,none⟩ (.slice a' (A.length + [id].length) c')):=by
  refine⟨m2,λk hk hf=>?_,λk hf=>?_⟩
  .rcases hf with rfl|hf
   .exact (K4.out k).2 (.inl rfl)
   .rcases hat with e2|e2
    .exact (K4.out k).2 (.inr (e2 ▸ hf))
    .rw[e2] at hf;injection hf with hf;simp at hf;omega
  .rcases hf with rfl|hf
   .exact Nat.lt_of_lt_of_le hbl m2.size
   .have:=(hown.lt k hf).2;simpa[World.setCell] using this
 refine⟨_,_,rfl,⟨.slice a' (A.length + [id].length) c',?_,?_,hne,λk=>Iff.rfl⟩,zY.of HL.out HV.out st⟩
 .have:=hB4.set 0 (.slice a' (A.length + [id].length) c');simpa using this
 .have h1:=hown.mods (zA.at (λk=>k=b) w4 b 0 (.slice a' (A.length + [id].length) c') rfl) (λg hg e=>hne (e ▸ hg));rw[List.map_append,<- HA.out];exact h1
end
end
end Go.Proofs.YteabpacpngaoaaaGreatDoor
