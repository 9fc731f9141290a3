import Derived.Test.YteabpacpngaoaaaGreatDoorC23
import Derived.Test.YteabpacpngaoaaaGreatDoorC01
namespace Go.Proofs.YteabpacpngaoaaaGreatDoor
open Lib renaming hid->oh
set_option maxHeartbeats 4000000
set_option maxRecDepth 100000
section
open Go.RowKit
section
variable {P P' F F':Nat->Prop}{ad:Nat->Addr}{w w':World}{c s:Nat}{G G':GA}{l l':List Nat}
def zB0(G:GA)(id n:Int):Option Err :=
 match zBM n with
 | some e=>some e
 | none=>zPM (vO G n.toNat id n).2
def zPj[zW](F P:Nat->Prop)(ad:Nat->Addr)(w:World)(c s:Nat)(G:GA)(l:List Nat)(id n:Int)(e:Ending)(w':World):Prop :=
  ∃(P' F':Nat->Prop),jU F' w' P' c s G l/\zY P P' F F' ad w w' /\
    ((zB0 G id n = none /\ ∃ iv, e = .returned (.tuple #[iv, .nilIface]) /\ Sl P' w' 1 yK iv ((vO G n.toNat id n).1.map (·.1))) \/
     (∃(er:Err) (f:Nat),zB0 G id n=some er/\e=.returned (.tuple #[.slice none 0 0,zL f])/\vB F' ad w' (zL f) er.1 er.2))
theorem jU.plusNew[zW](h:jU F w P c s G l)(_hP:∀k,P k->F k){Q:Nat->Prop}(m:zF w w')(hQ:∀k,Q k->w.heap.size<=k):jU (λk=>F k\/Q k) w' P c s G l :=
 h.plus (Q:=λ_=>False) m (λ_ _ f=>f) (λ_ f=>f.elim) (λk hk hn hf=>hf.elim hn (λhq=>by have:=hQ k hq;omega))
theorem zY.new(hL:yG F ad w)(hP:∀k,P k->F k){Q:Nat->Prop}(m:zF w w')(hQ:∀k,Q k->w.heap.size<=k)(hQ2:∀k,Q k->k<w'.heap.size):zY P P F (λk=>F k\/Q k) ad w w' :=
 ⟨Stp.ext (λk h=>hL.lt k (hP k h)) m,λk h=>.inl (hP k h),λ_ h=>.inl h,λk hk h=>h.elim id (λhq=>by have:=hQ k hq;omega),
  hL.step m.ext (λk hk hn hf=>hf.elim hn (λhq=>by have:=hQ k hq;omega)) (λk hf=>hf.elim (λhf=>Nat.lt_of_lt_of_le (hL.lt k hf) m.size) (hQ2 k))⟩
theorem Tryz.enterL(args:Array Value)(w:World):(callFunc 270 args).run Tryz.prog w=.ok (.enter 270 args) w:=by kernel_rfl
end
section
theorem zI8(G:GA):∀(f:Nat) (id n:Int),(vO G f id n).1.length<=f
 | 0,_,_=>by simp[vO]
 | f+1,id,n=>by
  rw[vO];split
  .simp
  .split
   .simp
   .split
    .simp
    .have:=zI8 G f;simp only[List.length_cons];exact Nat.succ_le_succ (this _ _)
variable {P P' F F':Nat->Prop}{ad:Nat->Addr}{w w':World}{c s:Nat}{G G':GA}{l l':List Nat}
def zOE[zW](F P:Nat->Prop)(ad:Nat->Addr)(w:World)(c s:Nat)(G:GA)(l:List Nat)(id n:Int)(e:Ending)(w':World):Prop :=
  ∃(P' F':Nat->Prop),jU F' w' P' c s G l/\zY P P' F F' ad w w' /\
    ((zB0 G id n = none /\ ∃ iv, e = .returned (.tuple #[iv, .nilIface]) /\ Sl P' w' 1 yK iv ((vO G n.toNat id n).1.map (·.1)) /\ ∀ g, iv.ownBlock = some g -> w.heap.size <= g) \/
     (∃(er:Err) (f:Nat),zB0 G id n=some er/\e=.returned (.tuple #[.slice none 0 0,zL f])/\vB F' ad w' (zL f) er.1 er.2))
theorem zKz[zW](hL:yG F ad w)(hP:∀k,P k->F k)(h:jU F w P c s G l)(gen:Nat)(id n:Int)(hid : -9223372036854775808<=id/\id<=9223372036854775807)(hok:25<=n->n<=4096->zB7 G n.toNat id n) :
  Calls Tryz.prog 210 #[pgV c s gen,.int .i64 id,.int .i64 n] w (zOE F P ad w c s G l id n):=by
 unfold pgV;have m0:zF w (w.alloc (.cells #[.pointer (some ⟨c,0,none⟩),.pointer (some ⟨s,0,none⟩),.int .u64 (gen:Int)] 120)):=(zA.refl _ w).alloc _;have HB0:=oh (zH.new w #[.pointer (some ⟨c,0,none⟩),.pointer (some ⟨s,0,none⟩),.int .u64 (gen:Int)] 120);have HX0:=oh (zY.ext hL hP m0);have HL:=oh hL;have HP:=oh hP;have HG:=oh h;have HOK:=oh hok;have HM0:=oh m0;clear hL hP h m0 hok
 go_enter Tryz.func210, Tryz.ntmps210
 go_wp2_with fail;refine (zGa HX0.out.env _ gen n).mono ?_;rintro e w1 ⟨ev,rfl,hE,hm1⟩;have HM1:=oh (HM0.out.trans hm1);have hB1:=HB0.out.ext hm1;have r0:=hB1.cell (o:=0) (v:=.pointer (some ⟨c,0,none⟩)) rfl;have r1:=hB1.cell (o:=1) (v:=.pointer (some ⟨s,0,none⟩)) rfl;have r2:=hB1.cell (o:=2) (v:=.int .u64 (gen:Int)) rfl;have hbl:=hB1.lt;cases hck:zBM n with
 | some er =>
  obtain⟨el,ek⟩:=er;rw[hck] at hE;obtain⟨f,rfl,hE⟩:=hE;have HE:=oh hE;have HK:Hid (zB0 G id n=some (el,ek)):=oh (by unfold zB0;rw[hck]);clear hE hck hm1 hB1;go_wp2_with fail;go_ret2
  exact⟨P,F,HG.out.at HM1.out,zY.ext HL.out HP.out HM1.out,.inr ⟨(el,ek),f,HK.out,rfl,HE.out⟩⟩
 | none =>
  rw[hck] at hE;cases hE
  have hn:25<=n/\n<=4096:=by unfold zBM at hck;split at hck;cases hck;omega
  obtain⟨hn1,hn2⟩:=hn;have HCK:=oh hck;have m1:zF w (w1.alloc (.cells #[.slice none 0 0] 59)):=HM1.out.alloc _;have HN1:=oh (zY.new (Q:=λk=>k=w1.heap.size) HL.out HP.out m1 (λk hk=>hk ▸ HM1.out.size) (λk hk=>by rw[hk];simp));have HG1:=oh (HG.out.plusNew HP.out (Q:=λk=>k=w1.heap.size) m1 (λk hk=>hk ▸ HM1.out.size));have HBV:=oh (zH.new w1 #[.slice none 0 0] 59);have HBD:=oh HG.out.bd;clear hck hm1 hB1;go_wp2_with fail;refine (zPi (zI7 w1.heap.size) (λk=>k=w1.heap.size) HN1.out.env HN1.out.sub (λk hk=>.inr hk) (λk hk hv=>by have:=HBD.out k hk;have:=HM1.out.size;omega) HG1.out gen id n (by omega) n.toNat (by omega) (HOK.out hn1 hn2) 270 (.pointer (some ⟨w1.heap.size,0,none⟩)) hid (by omega) Tryz.enterL ⟨.slice none 0 0,HBV.out,yC.nil _ _ _ _ _ _,by simp[Value.ownBlock],λk=>by simp[Value.ownBlock]⟩ (zI7.keep _) (λV1 F1 w2 acc id sv b j1 j2 j3 j4 j5 j6=>zOD _ V1 F1 w2 acc id sv j1 j2 j3 j6 b)).mono ?_;rintro e w3 ⟨P3,V3,F3,ev,rfl,hG3,hN3,hJ3,hA3,hE3⟩;have HN3:=oh (HN1.out.comp hN3 (λk hk=>by rw[hk];exact HM1.out.size));have HG3:=oh hG3;obtain⟨iv,q1,q2,q3,q4⟩:=hJ3;have hc:=q1.cell (o:=0) (v:=iv) rfl;have HSl:Hid (((vO G n.toNat id n).1.map (·.1)).length<=140737488355328->Sl P3 w3 1 yK iv ((vO G n.toNat id n).1.map (·.1))):=oh (λhl=>yC.sl (F:=P3) (q2.blocks (λg hg hp=>hA3 g hp ((q4 g).2 (.inr hg)))) vW.len hl);have HFR:Hid (∀g,iv.ownBlock=some g->w.heap.size<=g):=oh (λg hg=>Nat.le_trans HM1.out.size (q2.lt g hg).1);obtain⟨wk,hwk⟩:∃x,x=vO G n.toNat id n:=⟨_,rfl⟩;rw[<- hwk] at hE3 HSl;have HLEN:Hid ((vO G n.toNat id n).1.length<=4096):=oh (by have:=zI8 G n.toNat id n;omega);obtain⟨wr1,we⟩:=wk;have HWK:=oh hwk;simp only at hE3;clear hG3 hN3 hA3 hwk q1 q2 q3 q4;cases we with
  | none =>
   cases hE3
   have HK:Hid (zB0 G id n=none):=oh (by unfold zB0;rw[HCK.out,<- HWK.out];rfl);go_wp2_with fail;go_ret2
   exact⟨P3,F3,HG3.out,HN3.out,.inl ⟨HK.out,iv,rfl,by
    have:=HLEN.out;rw[<- HWK.out] at this ⊢;exact HSl.out (by rw[List.length_map];exact Nat.le_trans this (by omega)),HFR.out⟩⟩
  | some er =>
   obtain⟨el,ek⟩:=er;obtain⟨f,rfl,hE3⟩:=hE3;have HE3:=oh hE3;have HK:Hid (zB0 G id n=some (-1 :: el,ek)):=oh (by unfold zB0;rw[HCK.out,<- HWK.out];rfl);clear hE3;go_wp2_with fail;refine (wrap_any HN3.out.env _ _ el ek HE3.out).mono ?_;rintro e w4 ⟨f4,rfl,hE4,hm4⟩;have HE4:=oh hE4;have HM4:=oh hm4;clear hE4 hm4;go_wp2_with fail;go_ret2
   exact⟨P3,F3,HG3.out.at HM4.out,HN3.out.trans (zY.ext HN3.out.env HN3.out.sub HM4.out),.inr ⟨(-1 :: el,ek),f4,HK.out,rfl,HE4.out⟩⟩
theorem zML[zW](hL:yG F ad w)(hP:∀k,P k->F k)(h:jU F w P c s G l)(gen:Nat)(id n:Int)(hid : -9223372036854775808<=id/\id<=9223372036854775807)(hok:25<=n->n<=4096->zB7 G n.toNat id n) :
  Calls Tryz.prog 210 #[pgV c s gen,.int .i64 id,.int .i64 n] w (zPj F P ad w c s G l id n) :=
 (zKz hL hP h gen id n hid hok).mono λ_ _ ⟨P',F',g,nx,r⟩=>⟨P',F',g,nx,r.imp (λ⟨a,iv,b,d,_⟩=>⟨a,iv,b,d⟩) (λh=>h)⟩
theorem slN{v:Value}{x:List Nat}{y:List Int}(e:y=x.map (λk:Nat=>(k:Int)))(h:Sl P w 1 yK v y):Sl P w 1 zIh v x:=by
 subst e;obtain⟨a,cap,e1,h1,h2,h3,h4⟩:=h;refine⟨a,cap,by simpa using e1,by simpa using h1,h2,by simpa using h3,?_⟩;rcases h4 with h4|⟨b,off,ha,hb,hF,hc⟩
 .exact .inl (by simpa using h4)
 .exact .inr ⟨b,off,ha,hb,hF,λi z hz j u hu=>hc i (z:Int) (by simp[hz]) j u hu⟩
def zOF[zW](F P:Nat->Prop)(ad:Nat->Addr)(w:World)(c s:Nat)(G:GA)(l:List Nat)(id n:Int)(ids:List Nat)(e:Ending)(w':World):Prop :=
  ∃(P' F':Nat->Prop) (G':GA) (l':List Nat),jU F' w' P' c s G' l'/\zY P P' F F' ad w w' /\
    ((zB0 G id n = none /\ G' = jQ G ids /\ l' = jM l ids /\ e = .returned .nilIface) \/
     (∃(er:Err) (f:Nat),zB0 G id n=some er/\G'=G/\l'=l/\e=.returned (zL f)/\vB F' ad w' (zL f) (-1 :: er.1) er.2))
theorem zK0[zW](hL:yG F ad w)(hP:∀k,P k->F k)(h:jU F w P c s G l)(gen:Nat)(id n:Int)(hid : -9223372036854775808<=id/\id<=9223372036854775807)(hok:25<=n->n<=4096->zB7 G n.toNat id n)
  (ids:List Nat) (hids:zB0 G id n=none->(vO G n.toNat id n).1.map (·.1)=ids.map (λk:Nat=>(k:Int))/\zCa l ids) :
  Calls Tryz.prog 142 #[pgV c s gen,.int .i64 id,.int .i64 n] w (zOF F P ad w c s G l id n ids):=by
 unfold pgV;have m0:zF w (w.alloc (.cells #[.pointer (some ⟨c,0,none⟩),.pointer (some ⟨s,0,none⟩),.int .u64 (gen:Int)] 120)):=(zA.refl _ w).alloc _;have HB0:=oh (zH.new w #[.pointer (some ⟨c,0,none⟩),.pointer (some ⟨s,0,none⟩),.int .u64 (gen:Int)] 120);have HX0:=oh (zY.ext hL hP m0);have HL:=oh hL;have HP:=oh hP;have HG:=oh (h.at m0);have HOK:=oh hok;have HI:=oh hids;have hnb:=λk (hk:P k)=>h.bd k hk
 have HNB:=oh hnb;clear hL hP h m0 hok hids hnb
 go_enter Tryz.func142, Tryz.ntmps142
 go_wp2_with fail;refine (zML HX0.out.env HX0.out.sub HG.out gen id n hid HOK.out).mono ?_;rintro e w1 ⟨P1,F1,hG1,hN1,hr⟩;have hB1:=hN1.blk HB0.out (λhp=>by have:=HNB.out _ hp;omega);have r0:=hB1.cell (o:=0) (v:=.pointer (some ⟨c,0,none⟩)) rfl;have r1:=hB1.cell (o:=1) (v:=.pointer (some ⟨s,0,none⟩)) rfl;have r2:=hB1.cell (o:=2) (v:=.int .u64 (gen:Int)) rfl;have HG1:=oh hG1;have HN1:=oh (HX0.out.trans hN1);clear hG1 hN1 hB1;rcases hr with ⟨hk,iv,rfl,hiv⟩|⟨er,f,hk,rfl,hE⟩
 .obtain⟨i1,i2⟩:=HI.out hk;have HS:=oh (slN i1 hiv);have HK:=oh hk;have HI2:=oh i2;clear i1 i2 hiv hk;go_wp2_with fail;refine (zHf HN1.out.env HN1.out.sub HG1.out gen iv ids HS.out HI2.out).mono ?_;rintro e w2 ⟨P2,F2,hG2,hN2,rfl⟩;have HG2:=oh hG2;have HN2:=oh (HN1.out.trans hN2);clear hG2 hN2;go_wp2_with fail;refine (wrap_nil _ _).mono ?_;rintro e w3 ⟨rfl,rfl⟩;go_wp2_with fail;go_ret;exact⟨P2,F2,_,_,HG2.out,HN2.out,.inl ⟨HK.out,rfl,rfl,rfl⟩⟩
 .obtain⟨el,ek⟩:=er;have HE:=oh hE;have HK:=oh hk;clear hE hk;go_wp2_with fail;refine (wrap_any HN1.out.env _ _ el ek HE.out).mono ?_;rintro e w2 ⟨f2,rfl,hE2,hm2⟩;have HE2:=oh hE2;have HM2:=oh hm2;clear hE2 hm2;go_wp2_with fail;go_ret;exact⟨P1,F1,G,l,HG1.out.at HM2.out,HN1.out.trans (zY.ext HN1.out.env HN1.out.sub HM2.out),.inr ⟨(el,ek),f2,HK.out,rfl,rfl,rfl,HE2.out⟩⟩
end
theorem zGc(v:List UInt8)(nn:Nat):∀(c i:Nat),(List.range' i c).flatMap (zB6 v nn)=(v.drop (i * nn)).take (c * nn)
 | 0,i=>by simp
 | c+1,i=>by
  rw[List.range'_succ,List.flatMap_cons,zGc v nn c (i+1),zB6,show (c+1) * nn=nn+c * nn by rw[Nat.succ_mul,Nat.add_comm],List.take_add,List.drop_drop,show (i+1) * nn=i * nn+nn from Nat.succ_mul i nn]
theorem zMM(v:List UInt8)(nn m:Nat)(h:v.length<=m * nn):(List.range' 0 m).flatMap (zB6 v nn)=v:=by
 rw[zGc];simp[List.take_of_length_le h]
theorem zFL(next:Nat)(b:List UInt8)(hn:next<4294967296):vI (yD 4 next++b) 0 4=(next,none):=by
 unfold vI;rw[if_neg (by simp;omega),if_neg (by simp[zD];omega)];have e:((yD 4 next++b).drop (0:Int).toNat).take 4=yD 4 next:=by
  rw[Int.toNat_zero,List.drop_zero];exact List.take_left' (zD 4 next)
 rw[e,zEL,Nat.mod_eq_of_lt (by simpa using hn)]
theorem zOG(next:Nat)(b:List UInt8):(yD 4 next++b).drop 4=b:=List.drop_left' (zD 4 next)
theorem zOH(v:List UInt8)(nn i:Nat):(zB6 v nn i).length=min nn (v.length-i * nn):=by simp[zB6]
structure Fit(n nn m:Nat):Prop where
 m1:1<=m
 n228:228<=nn
 lo:(m-1) * nn<n
 hi:n<=m * nn
theorem Fit.left{n nn m i:Nat}(h:Fit n nn m)(hi:i<m):i * nn<n:=by
 have:=Nat.mul_le_mul_right nn (show i<=m-1 by omega);have:=h.lo;omega
theorem Fit.more{n nn m i:Nat}(h:Fit n nn m)(hi:i+1<m):i * nn+nn<n:=by
 have:=h.left hi;rw[Nat.succ_mul] at this;exact this
theorem Fit.last{n nn m i:Nat}(h:Fit n nn m)(hi:i+1=m):n<=i * nn+nn:=by
 have:=h.hi;rw[<- hi,Nat.succ_mul] at this;exact this
theorem zMN(G:GA)(f:Nat)(id n:Int)(h:n<=0):vO G f id n=([],none):=by
 cases f with
 | zero=>rfl
 | succ f=>rw[vO,if_pos h]
theorem zK1(G:GA)(f:Nat)(id n:Int)(h:n<=0):zB7 G f id n:=by
 cases f with
 | zero=>trivial
 | succ f=>rw[zB7];intro h1;omega
theorem zK2{G:GA}{id:Nat}(hid:id<G.blocks){p:zX}(h:G.view id=some (.inl p)):G.get (id:Int)=.inl p:=by
 unfold GA.get GA.check;rw[if_neg (by omega)];simp only[Int.toNat_natCast,h]
theorem zB8:∀(a:List Nat) (G:GA),(jQ G a).blocks=G.blocks/\(jQ G a).size=G.size/\(jQ G a).cost=G.cost/\(jQ G a).look=G.look/\(jQ G a).last=G.last
 | [],_=>⟨rfl,rfl,rfl,rfl,rfl⟩
 | x :: a,G=>zB8 a (G.drop x)
def zB(s:Nat):List UInt8:=List.replicate s 0
def zOI:List UInt8:=zB 256
def G0(n:Nat):GA:=⟨n,256,λid=>if id<n then some (zQ zOI id) else none,λid=>if id<n then some zOI else none,λid=>if id<n then some zOI else none,0⟩
def NoB:Nat->Prop:=λ_=>False
theorem zMO{w:World}{s b2:Nat}{l:List Nat}(h:SpR w s b2 l):∀k,spF s b2 k->k<w.heap.size:=λk hk=>by
 rcases hk with rfl|rfl
 .exact h.own.lt
 .exact h.row.lt
theorem zH.set3{w:World}{R:Nat}{t:TypeId}{a0 a1 a2:Value}(h:zH w R #[a0,a1,a2] t)(v0 v1 v2:Value) :
  zH (((w.setCell ⟨R,0,none⟩ v0).setCell ⟨R,1,none⟩ v1).setCell ⟨R,2,none⟩ v2) R #[v0,v1,v2] t:=by
 simpa using ((h.set 0 v0).set 1 v1).set 2 v2
theorem zA.set3{F:Nat->Prop}{w w':World}(m:zA F w w'){R:Nat}(hR:w.heap.size<=R\/F R)(v0 v1 v2:Value) :
  zA F w (((w'.setCell ⟨R,0,none⟩ v0).setCell ⟨R,1,none⟩ v1).setCell ⟨R,2,none⟩ v2) :=
 ((m.setCell (p:=⟨R,0,none⟩) hR _).setCell (p:=⟨R,1,none⟩) hR _).setCell (p:=⟨R,2,none⟩) hR _
structure zC7(D:zI):Prop where
 off:D.off=false
 lit:D.lit=false
 wait:D.waiting=[]
 lenL:D.lasting.length=D.blocks
 len:∀id,id<D.blocks->(D.look id).length=D.size
 b8:8<=D.blocks
 b256:D.blocks<=256
 s256:256<=D.size
 s1024:D.size<=1024
structure zCb(D:zI):Prop where
 off:D.off=false
 lit:D.lit=false
 wait:∀p∈D.waiting,p.1<D.blocks
 lenL:D.lasting.length=D.blocks
 len:∀id,id<D.blocks->(D.look id).length=D.size
theorem zC7.wet{D:zI}(h:zC7 D):zCb D:=⟨h.off,h.lit,λp hp=>by rw[h.wait] at hp;simp at hp,h.lenL,h.len⟩
theorem zCb.wrote{D:zI}(h:zCb D){i:Nat}{b:List UInt8}(hi:i<D.blocks)(hb:b.length=D.size):zCb (D.wrote i b):=by
 refine⟨h.off,h.lit,λp hp=>?_,h.lenL,λid hid=>?_⟩
 .rcases List.mem_append.1 hp with hp|hp
  .exact h.wait p hp
  .rw[List.mem_singleton.1 hp];exact hi
 .rw[jN];split
  .exact hb
  .exact h.len id hid
theorem zCb.flushed{D:zI}(h:zCb D):zCb D.flushed/\D.flushed.waiting=[]/\∀id,D.flushed.look id=D.look id:=by
 have hk:=λid=>zDn h.lenL h.wait id
 refine⟨⟨h.off,h.lit,λp hp=>(by cases hp),(by show (settle _ _).length=_;rw[zAv];exact h.lenL),λid hid=>?_⟩,rfl,hk⟩;rw[hk];exact h.len id hid
theorem zC7.last{D:zI}(h:zC7 D)(id:Nat):D.lasting.getD id []=D.look id:=by
 unfold zI.look;rw[h.wait];rfl
structure zGd(D:zI)(s:yM)(m:vF):Prop where
 dry:zC7 D
 blk:s.blocks=D.blocks
 siz:s.size=D.size
 ok:zBP s=true
 gen:s.gen<18446744073709551615
 sup0:D.look 0=yJ s 0
 sup1:D.look 1=yJ s 1
 mok:zAa m=true
 mgen:m.gen=s.gen
 mblk:m.blocks=s.blocks
 map0:D.look (place s.gen 0)=yF m (place s.gen 0) D.size
 map1:D.look (place s.gen 1)=yF m (place s.gen 1) D.size
theorem zGd.open0{D:zI}{s:yM}{m:vF}(h:zGd D s m):openS (D.look 0) 0=some s:=by rw[h.sup0];exact zEl h.ok (by have:=h.gen;omega) (by omega)
theorem zGd.open1{D:zI}{s:yM}{m:vF}(h:zGd D s m):openS (D.look 1) 1=some s:=by rw[h.sup1];exact zEl h.ok (by have:=h.gen;omega) (by omega)
def zAq(D:zI):yM:=⟨1,D.blocks,D.size,0,0⟩
def zCR(D:zI):vF:=⟨1,D.blocks,[0,1,2,3,4,5]⟩
def zEZ(D:zI):zI :=
 ((((((D.wrote 4 (yF (zCR D) 4 D.size)).wrote 5 (yF (zCR D) 5 D.size)).flushed).wrote 1 (yJ (zAq D) 1)).flushed).wrote 0 (yJ (zAq D) 0)).flushed
theorem zCu{D:zI}(h:zC7 D):zGd (zEZ D) (zAq D) (zCR D)/\∀id,6<=id->(zEZ D).look id=D.look id:=by
 have hb8:=h.b8;have hok:zBP (zAq D)=true:=(zAZ _).2 ⟨h.b8,h.b256,h.s256,h.s1024,by show 0<=2147483647;omega,.inl rfl,λ_=>rfl⟩;have hmk:zAa (zCR D)=true:=(jC _).2 ⟨h.b8,h.b256,by show 6<=6;omega,rfl,by show ([0,1,2,3,4,5]:List Nat).Pairwise (· < ·);decide,λn hn=>by
  have:n<6:=by
   have hn':n∈([0,1,2,3,4,5]:List Nat):=hn;simp at hn';omega
  show n<D.blocks;omega⟩
 have l4:(yF (zCR D) 4 D.size).length=D.size:=vG hmk 4 h.s256;have l5:(yF (zCR D) 5 D.size).length=D.size:=vG hmk 5 h.s256;have l1:(yJ (zAq D) 1).length=D.size:=zAV hok 1;have l0:(yJ (zAq D) 0).length=D.size:=zAV hok 0;have w1:=h.wet.wrote (i:=4) (by omega) l4;have w2:=w1.wrote (i:=5) (b:=yF (zCR D) 5 D.size) (by show 5<D.blocks;omega) l5;obtain⟨w3,q3,k3⟩:=w2.flushed;have w4:=w3.wrote (i:=1) (b:=yJ (zAq D) 1) (by show 1<D.blocks;omega) l1;obtain⟨w5,q5,k5⟩:=w4.flushed;have w6:=w5.wrote (i:=0) (b:=yJ (zAq D) 0) (by show 0<D.blocks;omega) l0;obtain⟨w7,q7,k7⟩:=w6.flushed;have hk:∀id,(zEZ D).look id=if 0=id then yJ (zAq D) 0 else if 1=id then yJ (zAq D) 1 else if 5=id then yF (zCR D) 5 D.size else if 4=id then yF (zCR D) 4 D.size else D.look id:=by
  intro id;show (zI.flushed _).look id=_;rw[k7,jN,k5,jN,k3,jN,jN]
 have hp0:place (zAq D).gen 0=4:=rfl;have hp1:place (zAq D).gen 1=5:=rfl;refine⟨⟨⟨w7.off,w7.lit,q7,w7.lenL,w7.len,h.b8,h.b256,h.s256,h.s1024⟩,rfl,rfl,hok,by show 1<18446744073709551615;omega,?_,?_,hmk,rfl,rfl,?_,?_⟩,λid hid=>?_⟩
 .rw[hk,if_pos rfl]
 .rw[hk,if_neg (by omega),if_pos rfl]
 .rw[hp0,hk,if_neg (by omega),if_neg (by omega),if_neg (by omega),if_pos rfl];rfl
 .rw[hp1,hk,if_neg (by omega),if_neg (by omega),if_pos rfl];rfl
 .rw[hk,if_neg (by omega),if_neg (by omega),if_neg (by omega),if_neg (by omega)]
def zCc(D:zI):GA:=⟨D.blocks,D.size,λid=>if id<D.blocks then some (zQ (D.look id) id) else none,λid=>if id<D.blocks then some (D.look id) else none,λid=>if id<D.blocks then some (D.look id) else none,0⟩
def zQk[zW](G:GA):GA:={ G with view:=λid=>if vQ<=id then G.view id else none,look:=λid=>if vQ<=id then G.look id else none,last:=λid=>if vQ<=id then G.last id else none }
theorem zOJ[zW]{D:zI}(hbk:∀id,id<vQ->D.look id=zCM id)(h:zC7 D)(q:Nat)(h3:3<=q)(h64:q<=64):yI ⟨D,List.replicate q qM,0⟩/\qW ⟨D,List.replicate q qM,0⟩ (zQk (zCc D)):=by
 have si:∀{α:Type} {p:Prop} [Decidable p] {x y:α},(if p then some x else none)=some y->x=y:=λ{α p _ x y} h=>by
  by_cases hp:p
  .rw[if_pos hp] at h;exact Option.some.inj h
  .rw[if_neg hp] at h;cases h
 have s2:∀{α:Type} {p:Prop} [Decidable p] {o:Option α} {y:α},(if p then o else none)=some y->o=some y:=λ{α p _ o y} h=>by
  by_cases hp:p
  .rw[if_pos hp] at h;exact h
  .rw[if_neg hp] at h;cases h
 refine⟨zNt D q h3 h64 h.s256 h.s1024 h.b8 h.b256 h.lenL h.len h.off h.lit,zNv D q (zQk (zCc D)) rfl rfl (λid r hr=>si (s2 hr)) (λid b hb=>hb.elim (λhb=>si (s2 hb)) (λhb=>(hbk id hb.1).trans hb.2.symm)) (λid b hb=>⟨?_,λp hp=>by rw[h.wait] at hp;simp at hp⟩) (by rw[h.wait];exact Nat.le_refl 0) (λid h'=>⟨if_neg (by omega),if_neg (by omega),if_neg (by omega)⟩)⟩;rw[h.last];exact si (s2 hb)
def zAz(n:Nat)(used:List Nat):List Nat:=(List.range n).map λi=>if i∈used then 1 else 0
theorem zBY(n:Nat)(u:List Nat):(zAz n u).length=n:=by simp[zAz]
theorem zAl{n:Nat}(u:List Nat){i:Nat}(h:i<n):(zAz n u)[i]? = some (if i∈u then 1 else 0):=by
 simp[zAz,h]
theorem zMP{n i:Nat}{u:List Nat}(h2:2<=i)(hn:i<n)(hi:i ∉ u):zES (zAz n u) (i:Int)=(zAz n (u++[i]),none):=by
 have hg:=zAl (n:=n) u hn;rw[if_neg hi] at hg;have hc:qB (zAz n u) (i:Int)=none:=by
  unfold qB;rw[zBY,if_neg (by omega)]
 unfold zES;rw[hc];simp only;rw[Int.toNat_natCast,if_pos hg];congr 1
 refine List.ext_getElem? (λj=>?_);rw[List.getElem?_set];by_cases e:i=j
 .subst e;rw[if_pos rfl,if_pos (by rw[zBY];exact hn),zAl _ hn,if_pos (by simp)]
 .rw[if_neg e];by_cases hj:j<n
  .rw[zAl _ hj,zAl _ hj];congr 1
   have:j∈u++[i] ↔ j∈u:=by
    rw[List.mem_append,List.mem_singleton];exact⟨λh=>h.elim id (λh=>absurd h.symm e),.inl⟩
   by_cases hm:j∈u
   .rw[if_pos hm,if_pos (this.2 hm)]
   .rw[if_neg hm,if_neg (λh=>hm (this.1 h))]
  .rw[List.getElem?_eq_none (by rw[zBY];omega),List.getElem?_eq_none (by rw[zBY];omega)]
theorem zHk{F:Nat->Prop}{ad:Nat->Addr}{w:World}(hL:yG F ad w)(m:vF)(hm:zAa m=true)(hg:m.gen<18446744073709551616)(uv:Value)(hu:Sl F w 1 yK uv (yA m))(i z:Nat)(hi:jX m.gen i=true)(h1:256<=z)(h2:z<=1024) :
  Calls Tryz.prog 86 #[zB5 m uv,.int .i64 (i:Int),.int .i64 (z:Int)] w λe w'=>∃a c,e=.returned (.tuple #[.slice a z c,.nilIface])/\yC F w' w.heap.size 5 1 zZ (.slice a z c) (yF m i z)/\zF w w':=by
 obtain⟨o1,o2,o3,o4,o5,o6⟩:=(jC m).1 hm;have hlen:m.used.length<=m.blocks:=zDd m.used 0 m.blocks o5 (λn hn=>⟨Nat.zero_le _,o6 n hn⟩) (Nat.zero_le _);have hi6:i<6:=by
  unfold jX at hi;simp only[Bool.or_eq_true,decide_eq_true_eq] at hi;unfold place at hi;omega
 have HU:Hid (∀w',zF w w'->Sl F w' 1 yK uv (yA m)):=oh (λw' k=>hu.ext k);have HL:Hid (∀w',zF w w'->yG F ad w'):=oh (λw' k=>hL.mods k.ext);have HF:Hid (∀w',zF w w'->Bd F w'):=oh (λw' k x hx=>(HL.out w' k).lt x hx);have HCK:Hid (∀w',zF w w' -> Calls Tryz.prog 133 #[zB5 m uv] w' λe w''=>e=.returned .nilIface/\zF w' w''):=oh (λw' k=>zKh m hm uv (HU.out w' k));have HBI:Hid (∀w',zF w w' -> Calls Tryz.prog 137 #[zB5 m uv] w' λe w''=>∃v,e=.returned v/\Sl F w'' 1 zZ v (zCg m.blocks m.used)/\(zCg m.blocks m.used).length=(m.blocks+7) / 8/\zF w' w''):=oh (λw' k=>zPa (HF.out w' k) m hm uv (HU.out w' k));have HON:Hid (∀w',Calls Tryz.prog 134 #[.int .u64 (m.gen:Int),.int .i64 (i:Int)] w' λe w''=>e=.returned (.bool true)/\zF w' w''):=oh (λw'=>(zNL m.gen hg i (by omega) w').mono (λe w'' h=>⟨by rw[h.1,hi],h.2⟩));have HPC:=oh (zER hm hi6 h1 h2);have HBY:Hid (yD 4 m.blocks++yD 4 m.used.length++zCg m.blocks m.used=qT m):=oh rfl;have HBK:Hid (vH (zBf m i) z=yF m i z):=oh rfl;have HPB:Hid ((zBf m i).body=qT m):=oh rfl;have HPG:Hid (∀v,Value.agg #[.int .i64 5,.int .i64 (i:Int),.int .u64 (m.gen:Int),v]=qA (zBf m i) v):=oh (λ_=>rfl);have HG2:Hid ((zBf m i).gen<18446744073709551616):=oh hg;have HML:=oh (zA9 m);have hul:(yA m).length=m.used.length:=by unfold yA;rw[List.length_map]
 obtain⟨ua,uc,rfl,i1,i2,i3, -⟩:=hu;unfold maxLen at i2;have HMV:Hid (zB5 m (.slice ua (yA m).length uc)=.agg #[.int .u64 (m.gen:Int),.int .i64 (m.blocks:Int),.slice ua (yA m).length uc]):=oh rfl;rw[HMV.out];rw[hul] at HU HCK HBI HMV i1 i3 ⊢;obtain⟨g,hgg⟩:∃g,g=m.gen:=⟨_,rfl⟩;obtain⟨b,hb⟩:∃b,b=m.blocks:=⟨_,rfl⟩;obtain⟨n,hn⟩:∃n,n=m.used.length:=⟨_,rfl⟩;rw[<- hgg,<- hb,<- hn] at HMV ⊢;rw[<- hgg] at HON HPG hg;rw[<- hb,<- hn] at hlen HBY;rw[<- hb] at o1 o2;rw[<- hb] at HBI HML;rw[<- hn] at HBI HCK HU i1 i3 o3;clear hL hm hi o4 o5 o6 hul hgg hb hn;obtain⟨W0,hW0⟩:∃W0,W0=w.alloc (.cells #[.int .u64 (g:Int),.int .i64 (b:Int),.slice ua n uc] 106):=⟨_,rfl⟩;have hM0:zF w W0:=by rw[hW0];exact (zA.refl _ w).alloc _
 have hB0:zH W0 w.heap.size #[.int .u64 (g:Int),.int .i64 (b:Int),.slice ua n uc] 106:=by rw[hW0];exact zH.new w _ _
 have HM0:=oh hM0;have HX0:=oh hB0;clear hM0 hB0
 go_enter Tryz.func86, Tryz.ntmps86
 go_wp2_with fail;rw[<- hW0,<- HMV.out];refine (HCK.out _ HM0.out).mono ?_;rintro e w1 ⟨rfl,m1⟩;have HM1:=oh (HM0.out.trans m1);have HX1:=oh (HX0.out.ext m1);clear m1 hW0;have x0:=HX1.out.cell (o:=0) rfl;go_wp2_with fail;refine (HON.out _).mono ?_;rintro e w2 ⟨rfl,m2⟩;have HM2:=oh (HM1.out.trans m2);have HX2:=oh (HX1.out.ext m2);clear m2 x0;have x1:=HX2.out.cell (o:=1) rfl;have e1:decide ((z:Int)<256)=false:=by simp;omega
 have e2:decide (1024<(z:Int))=false:=by simp;omega
 go_wp2_with fail;have PA:=zBL (HL.out _ HM2.out) (.slice none 0 0) [] (Sl.nil _ _ _ _) b 4 (by decide) (by show b<4294967296;omega) (by decide);simp only[List.length_nil,Nat.zero_add,List.nil_append] at PA;refine PA.mono ?_;rintro e w3 ⟨a3,c3,rfl,hO3,m3⟩;have HS3:=oh (hO3.sl (λ_=>rfl) (by rw[zD];decide));have HM3:=oh (HM2.out.trans m3);have HX3:=oh (HX2.out.ext m3);clear hO3 m3 x1 PA;have x2:=HX3.out.cell (o:=2) rfl;go_wp2_with fail;have PA:=zBL (HL.out _ HM3.out) _ (yD 4 b) HS3.out n 4 (by decide) (by show n<4294967296;omega) (by rw[zD];decide);rw[zD] at PA;refine PA.mono ?_;rintro e w4 ⟨a4,c4,rfl,hO4,m4⟩;have HO4:=oh hO4;have HM4:=oh (HM3.out.trans m4);have HX4:=oh (HX3.out.ext m4);have HM34:=oh m4;clear hO4 m4 x2 PA;obtain⟨X,hX⟩:∃X,X=w.heap.size:=⟨_,rfl⟩;have HSX:Hid (∀W,zF w3 W->W.cell? ⟨X,0,none⟩=some (.int .u64 (g:Int))/\W.cell? ⟨X,1,none⟩=some (.int .i64 (b:Int))/\W.cell? ⟨X,2,none⟩=some (.slice ua n uc)):=oh (λW k=>by rw[hX];exact⟨(HX3.out.ext k).cell rfl,(HX3.out.ext k).cell rfl,(HX3.out.ext k).cell rfl⟩);go_wp2_with fail;rw[<- hX];clear hX;refine wp_region_held_drew (S:=(λw'=>w'.cell? ⟨X,0,none⟩=some (.int .u64 (g:Int))/\w'.cell? ⟨X,1,none⟩=some (.int .i64 (b:Int))/\w'.cell? ⟨X,2,none⟩=some (.slice ua n uc))) (by kernel_rfl) (HSX.out _ HM34.out.drew) (λhHeld=>?_);obtain⟨Wd,hWd⟩:∃W,W=w4.drew:=⟨_,rfl⟩;rw[<- hWd] at hHeld ⊢;have xE:zF w4 Wd:=by rw[hWd];exact (zA.refl _ _).drew
 have xWd:zF w3 Wd:=HM34.out.trans xE;clear hWd;refine tkH 0 ⟨some 56,_,_,_,_,_⟩ ?_;try go_frame
 refine tkH 1 ⟨some 57,_,_,_,_,_⟩ ?_;try go_frame
 refine tkH 2 ⟨some 58,_,_,_,_,_⟩ ?_;try go_frame
 refine tkH 3 ⟨some 59,_,_,_,_,_⟩ ?_;try go_frame
 refine tkH 4 ⟨some 60,_,_,_,_,_⟩ ?_;try go_frame
 refine tkH 8 ⟨some 64,_,_,_,_,_⟩ ?_;try go_frame
 refine wpAnyH_ready (rs:=[5]) (by kernel_rfl) (by simp) ?_;refine AllReadyH.cons (o:=⟨some 61,_,_,_,_,_⟩) rfl (λK hK=>?_) AllReadyH.nil;go_simp;go_at_call 137
 rw[<- HMV.out]
 (with_reducible refine (HBI.out _ (HM3.out.trans xWd)).mono ?_)
 rintro e W5 ⟨v5,rfl,s5,l5,m5⟩;have xW5:=xWd.trans m5;refine hK.out _ _ (by first|exact HSX.out _ xW5|go_keep) (λhHeld=>?_);clear hK;try go_frame
 refine wpAnyH_ready (rs:=[6]) (by kernel_rfl) (by simp) ?_;refine AllReadyH.cons (o:=⟨some 62,_,_,_,_,_⟩) rfl (λK hK=>?_) AllReadyH.nil;have hO5:=HO4.out.ext (xE.trans m5);refine zHY (F:=F) (G:=F) Tryz.elB jE (by rfl) (.tmp 59) (.tmp 61) (by rfl) w3.heap.size (.slice a4 (4+4) c4) v5 (yD 4 b++yD 4 n) (zCg b m.used) (by rfl) (by rfl) hO5 s5 (by rw[l5,List.length_append,zD,zD];omega) xW5.size (λf=>Nat.lt_irrefl _ ((HF.out _ (HM3.out.trans xW5)) _ f)) ?_;intro a6 c6 W6 hO6 hg6 hat6;have xW6:zF w3 W6:=zA.grown xW5 hg6 (λk hk=>.inl (hO5.lt k hk).1);have s6:=hO6.sl (λ_=>rfl) (by rw[List.length_append,List.length_append,l5,zD,zD];omega);rw[HBY.out,<- HPB.out] at s6;have S6:=oh s6;have zN:(yD 4 b++yD 4 n).length+(zCg b m.used).length=8+(b+7) / 8:=by rw[l5,List.length_append,zD,zD]
 rw[zN] at S6 ⊢;refine hK.out _ _ (by first|exact HSX.out _ xW6|go_keep) (λhHeld=>?_);clear hK;try go_frame
 refine tkH 7 ⟨some 63,_,_,_,_,_⟩ ?_;try go_frame
 refine wpAnyH_ready (rs:=[9]) (by kernel_rfl) (by simp) ?_;refine AllReadyH.cons (o:=⟨some 65,_,_,_,_,_⟩) rfl (λK hK=>?_) AllReadyH.nil;go_simp;go_at_call 136
 rw[HPG.out]
 (with_reducible refine (zHB (HL.out _ (HM3.out.trans xW6)) (zBf m i) _ S6.out z HG2.out HPC.out).mono ?_)
 rintro e W9 ⟨a9,c9,rfl,hO9,m9⟩;have xW9:=xW6.trans m9;refine hK.out _ _ (by first|exact HSX.out _ xW9|go_keep) (λhHeld=>?_);clear hK;try go_frame
 refine tkH 10 ⟨some 55,_,_,_,_,_⟩ ?_;try go_frame
 refine tkH 11 ⟨some 66,_,_,_,_,_⟩ ?_;try go_frame
 refine tkH 12 ⟨some 67,_,_,_,_,_⟩ ?_;try go_frame
 refine tkH 13 ⟨some 11,_,_,_,_,_⟩ ?_;try go_frame
 refine tkH 14 ⟨some 10,_,_,_,_,_⟩ ?_;try go_frame
 refine wpAnyH_done (by kernel_rfl) ?_ _;have HO9:=oh (hO9.rebase (HM3.out.trans xW6).size);have HM9:=oh (HM3.out.trans xW9);clear hO9 m9 xW9 xW6 xW5 xWd xE m5 s5 l5 hO5 hO6 hg6 hat6 s6 zN;go_wp2_with fail;refine (wrap_nil _ _).mono ?_;rintro e w5 ⟨rfl,rfl⟩;go_wp2_with fail;go_ret2
 exact⟨a9,c9,rfl,by rw[<- HBK.out];exact HO9.out,HM9.out⟩
end
section
open Go.RowKit
attribute [local go_sem ↓] Go.wp_at_zero Go.wp_at_succ
def zFg(b:List UInt8)(i:Nat):Bool:=decide (8+i / 8<b.length) && (b.getD (8+i / 8) 0).toNat.testBit (i % 8)
def zFh(b:List UInt8)(k:Nat):List Int:=((List.range k).filter (λi=>zFg b i)).map (λ(i:Nat)=>(i:Int))
theorem zMQ(b:List UInt8)(k:Nat):zFh b (k+1)=zFh b k++if zFg b k=true then [(k:Int)] else []:=by
 unfold zFh;rw[List.range_succ,List.filter_append,List.map_append];congr 1
 by_cases h:zFg b k=true
 .rw[if_pos h,List.filter_cons_of_pos (p:=λi=>zFg b i) h];rfl
 .rw[if_neg h,List.filter_cons_of_neg (p:=λi=>zFg b i) h];rfl
theorem zI9(b:List UInt8)(k:Nat):(zFh b k).length<=k:=by
 unfold zFh;rw[List.length_map];exact Nat.le_trans (List.length_filter_le _ _) (by simp)
theorem zQl(y r:Nat):y.testBit r=decide (y / 2 ^ r % 2=1):=by
 rw[Nat.testBit_eq_decide_div_mod_eq]
theorem zSJ(y r:Nat)(hy:y<256):bits .and .u8 ((y:Int) / 2 ^ r) 1=((y / 2 ^ r % 2:Nat):Int):=by
 have h:=u8_and_nat (y / 2 ^ r) 1 (Nat.lt_of_le_of_lt (Nat.div_le_self _ _) hy) (by decide);rw[nat_mask1] at h;rw[<- h,Int.natCast_ediv,Int.natCast_pow];rfl
theorem Tryz.elI5:ElT Tryz.prog 59 3 (.int .i64 0) 1 8:=⟨Tryz.underlying59,by kernel_rfl,rfl,by decide,by decide⟩
theorem Tryz.mapSize:(Tryz.prog.info? 106).map (·.size)=some 3:=by kernel_rfl
theorem zK3{F:Nat->Prop}{ad:Nat->Addr}{w:World}(hL:yG F ad w)(p:zX)(bv:Value)(hb:Sl F w 1 zZ bv p.body)(h1:4<=p.body.length)(h2:qG p.body 0 4<=256)(h3:p.body.length<=100000)(_hg:p.gen<18446744073709551616) :
  Calls Tryz.prog 243 #[qA p bv] w λe w'=>∃uv,e=.returned (zB5 (zGV p) uv)/\yC (λ_=>False) w' w.heap.size 3 1 yK uv (yA (zGV p))/\(yA (zGV p)).length<=256/\zF w w':=by
 have HB:Hid (∀w',zF w w'->Sl F w' 1 zZ bv p.body):=oh (λw' m=>hb.ext m);have HL:Hid (∀w',zF w w'->yG F ad w'):=oh (λw' m=>hL.mods m.ext);clear hL;have HT:Hid (vI p.body ((0:Nat):Int) 4=(qG p.body 0 4,none)):=oh (zDs _ _ _ (by omega));have HSM:=oh (zIw p h1 h2);have HUI:Hid (yA (zGV p)=zFh p.body (qG p.body 0 4)):=oh (by rw[HSM.out];rfl);have HMV:Hid (∀uv,zB5 (zGV p) uv=.agg #[.int .u64 (p.gen:Int),.int .i64 (qG p.body 0 4:Int),uv]):=oh (λuv=>by rw[HSM.out];rfl);obtain⟨pa,pc,rfl,i1,i2,i3, -⟩:=hb;unfold maxLen at i2;have HP:Hid (∀bv,qA p bv=.agg #[.int .i64 p.kind,.int .i64 p.id,.int .u64 (p.gen:Int),bv]):=oh (λbv=>rfl);rw[HP.out];obtain⟨bl,hbl⟩:∃n,n=p.body.length:=⟨_,rfl⟩;obtain⟨K,hK⟩:∃I,I=p.kind:=⟨_,rfl⟩;obtain⟨I,hI⟩:∃I,I=p.id:=⟨_,rfl⟩;obtain⟨g,hgg⟩:∃g,g=p.gen:=⟨_,rfl⟩;obtain⟨n,hn⟩:∃n,n=qG p.body 0 4:=⟨_,rfl⟩;have HBL:=oh hbl;rw[<- hbl,<- hK,<- hI,<- hgg];rw[<- hbl] at HB h1 h3 i1 i3;rw[<- hgg] at HMV;rw[<- hn] at HT HUI HMV h2;clear hbl hK hI hgg hn HP HSM;obtain⟨W0,hW0⟩:∃W0,W0=(w.alloc (.cells #[.int .i64 K,.int .i64 I,.int .u64 (g:Int),.slice pa bl pc] 192)).alloc (.cells #[.int .u64 0,.int .i64 0,.slice none 0 0] 106):=⟨_,rfl⟩;have hM0:zF w W0:=by rw[hW0];exact ((zA.refl _ w).alloc _).alloc _
 have hBX:zH W0 w.heap.size #[.int .i64 K,.int .i64 I,.int .u64 (g:Int),.slice pa bl pc] 192:=by rw[hW0];exact (zH.new w _ _).alloc _
 have hBR:zH W0 (w.heap.size+1) #[.int .u64 0,.int .i64 0,.slice none 0 0] 106:=by rw[hW0];exact zR (by simp)
 have hsz:W0.heap.size=w.heap.size+2:=by rw[hW0];simp
 have TA:=zDt (HL.out _ hM0) _ p.body (HB.out _ hM0) 0 4 n (by decide) HT.out;rw[show ((0:Nat):Int)=0 from rfl,show ((4:Nat):Int)=4 from rfl] at TA;have TA:=oh TA;have HM0:=oh hM0;have HX0:=oh hBX;have HR0:=oh hBR;clear hM0 hBX hBR
 go_enter Tryz.func243, Tryz.ntmps243
 go_wp2_with fail;rw[<- hW0];refine TA.out.mono ?_;rintro e w1 ⟨rfl,m1⟩;have hX1:=HX0.out.ext m1;have hR1:=HR0.out.ext m1;have hM1:=HM0.out.trans m1;have hs1:w.heap.size+2<=w1.heap.size:=by have:=m1.size;omega
 have x2:=hX1.cell (o:=2) rfl;have HX1:=oh hX1;have HR1:=oh hR1;have HM1:=oh hM1;have hgt:¬ (256:Int)<(n:Int):=by omega
 clear hX1 hR1 hM1 m1 hW0 TA;go_wp2_with fail;obtain⟨W2,hW2⟩:∃W,W=w1.alloc (.cells #[.int .u64 (g:Int),.int .i64 (n:Int),.slice none 0 0] 106):=⟨_,rfl⟩;have m2:zF w1 W2:=by rw[hW2];exact (zA.refl _ w1).alloc _
 have hY2:zH W2 w1.heap.size #[.int .u64 (g:Int),.int .i64 (n:Int),.slice none 0 0] 106:=by rw[hW2];exact zH.new w1 _ _
 have hs2:W2.heap.size=w1.heap.size+1:=by rw[hW2];simp
 rw[<- hW2];obtain⟨Y,hY⟩:∃Y,Y=w1.heap.size:=⟨_,rfl⟩;rw[<- hY] at hY2 hs1 hs2 ⊢;have HX2:=oh (HX1.out.ext m2);have HR2:=oh (HR1.out.ext m2);have HM2:=oh (HM1.out.trans m2);have HY2:=oh hY2;have hXY:w.heap.size<Y:=by omega
 have hRY:w.heap.size+1<Y:=by omega
 have HXY:=oh hXY;have HS2:=oh hs2;have HS1:=oh hs1;clear hW2 m2 hY2 hY x2 HX1 HR1 HM1 HX0 HR0 HM0 hsz hs2;go_loopg [28] n (λr v28 wr=>∃(k:Nat) (uv:Value),k+r=n/\v28=.int .i64 k/\Hid (zF w wr/\zH wr w.heap.size #[.int .i64 K,.int .i64 I,.int .u64 (g:Int),.slice pa bl pc] 192 /\ zH wr (w.heap.size+1) #[.int .u64 0,.int .i64 0,.slice none 0 0] 106 /\ zH wr Y #[.int .u64 (g:Int),.int .i64 (n:Int),uv] 106 /\ yC (λ_=>False) wr (Y+1) 3 1 yK uv (zFh p.body k)))
 case atStart=>exact⟨0,_,by omega,rfl,oh ⟨HM2.out,HX2.out,HR2.out,HY2.out,yC.nil _ _ _ _ _ _⟩⟩
 case round =>
  clear HX2 HR2 HM2 HY2;obtain⟨k,uv,hk,rfl,HW⟩:=hrel;obtain⟨hM,hX,hR,hY,hO⟩:=HW.out;have y2:=hY.cell (o:=2) rfl;have x3:=hX.cell (o:=3) rfl;have yf:=hY.frozen;have hz:=hY.lt;obtain⟨ua,uc,huv, -, -⟩:=_root_.id hO.form;obtain⟨ul,hul⟩:∃ul,ul=(zFh p.body k).length:=⟨_,rfl⟩;have HUL:=oh hul;have hulk:ul<=k:=by rw[hul];exact zI9 _ _
  rw[<- hul] at huv;have HU:=oh (zMQ p.body k);by_cases hlt:k<n
  .obtain⟨q,hq⟩:∃q,q=k / 8:=⟨_,rfl⟩;obtain⟨r,hr⟩:∃r,r=k % 8:=⟨_,rfl⟩;have t1:(k:Int) / 8=(q:Int):=by omega
   have t2:(k:Int).tdiv 8=(q:Int):=by rw[Int.tdiv_eq_ediv_of_nonneg (by omega)];exact t1
   have t3:(k:Int) % 8=(r:Int):=by omega
   have t4:(k:Int).tmod 8=(r:Int):=by rw[Int.tmod_eq_emod_of_nonneg (by omega)];exact t3
   have hr8:r<8:=by omega
   have HBI:Hid (zFg p.body k=(decide (8+q<bl) && (p.body.getD (8+q) 0).toNat.testBit r)):=oh (by unfold zFg;rw[<- hq,<- hr,<- HBL.out]);by_cases hin:8+q<bl
   .have hinI:8+(q:Int)<(bl:Int):=by omega
    have i8:(0:Int)<=8+(q:Int):=by omega
    obtain⟨y,hy⟩:∃y,p.body[8+q]? = some y:=⟨_,List.getElem?_eq_getElem (by rw[<- HBL.out];exact hin)⟩;have hyD:p.body.getD (8+q) 0=y:=by simp[List.getD,hy]
    obtain⟨qb,qoff,hqa,hc⟩:=(HB.out _ hM).elemF (k:=8+q) (by rw[<- HBL.out];exact hin);have d0:=hc.2 0 (.int .u8 (y.toNat:Int)) (by
     obtain⟨e1,e2⟩:=List.getElem?_eq_some_iff.1 hy;rw[e2];rfl)
    simp only[Nat.add_zero,Nat.mul_one] at d0;have hy8:=y.toNat_lt;have ha1:=zSJ y.toNat r hy8;obtain⟨bz,hbz⟩:∃z,z=y.toNat / 2 ^ r % 2:=⟨_,rfl⟩;have hbz2:bz=0\/bz=1:=by omega
    rw[<- hbz] at ha1;have HBT:Hid (zFg p.body k=decide (bz=1)):=oh (by rw[HBI.out,hyD,zQl,<- hbz];simp[hin]);subst hqa;clear hc hyD hy hq hr hbz HBI;rcases hbz2 with rfl|rfl
    .go_wp2_with fail;go_roundg (gk-1)
     case measure=>omega
     case rel=>exact⟨k+1,uv,by omega,by go_num,oh (by rw[HU.out,if_neg (by rw[HBT.out];simp),List.append_nil];exact HW.out)⟩
    .subst huv;have HOW:=oh (hO.ext ((zA.refl _ wr).alloc (.cells #[.int .i64 (k:Int)] 3)));have HOL:=oh hO.lt;have hsz:Y+1<=wr.heap.size:=by omega
     have HSZ:=oh hsz;clear hO hul;go_wp2_with (first
      | (at_builtin;refine yU Tryz.elI5 vW rfl _ _ rfl (Y+1) (.slice ua ul uc) (.slice (some ⟨wr.heap.size,0,none⟩) 1 1) (zFh p.body k) [(k:Int)] rfl rfl HOW.out (Sl.one (F:=λ_=>False) (x:=(k:Int)) (t := 3) (fz:=(0,0)) (zR rfl) (λf=>f)) (by rw[<- HUL.out];simp only[List.length_cons,List.length_nil];omega) (Nat.le_trans HSZ.out (by simp)) (λf=>f) ?_;intro a' c' w4 hown4 hmod4 hat4;rw[<- HUL.out] at hown4 ⊢;simp only[List.length_cons,List.length_nil,Nat.zero_add] at hown4 ⊢;have HO4:=oh hown4;have HM4:=oh (zA.mono hmod4 (λj hj=>(HOL.out j hj).1));clear hown4 hmod4 hat4;have hY4:=(((HW.out.2.2.2.1).alloc (.cells #[.int .i64 (k:Int)] 3)).mods HM4.out (by omega));have y4:=hY4.cell (o:=2) (v:=.slice ua ul uc) rfl;have yf4:=hY4.frozen;have HY4:=oh hY4;clear hY4)
      | fail)
     go_roundg (gk-1)
     case measure=>omega
     case rel =>
      have HMS:zA (λj=>j=Y) w4 (w4.setCell ⟨Y,2,none⟩ (.slice a' (ul+1) c')):=zA.setCell (F:=λj=>j=Y) (zA.refl _ w4) (p:=⟨Y,2,none⟩) (.inr rfl) _;refine⟨k+1,.slice a' (ul+1) c',by omega,by go_num,oh ⟨?_,?_,?_,?_,?_⟩⟩
      .exact ((HW.out.1.alloc _).trans' HM4.out (λi hi h=>by have h':Y+1<=i:=h;have:=HXY.out;omega)).setCell (.inl (show w.heap.size<=Y by omega)) _
      .exact ((HW.out.2.1.alloc _).mods HM4.out (by omega)).set_other (by simp;omega) _
      .exact ((HW.out.2.2.1.alloc _).mods HM4.out (by omega)).set_other (by simp;omega) _
      .simpa using HY4.out.set 2 (.slice a' (ul+1) c')
      .rw[HU.out,if_pos (by rw[HBT.out];simp)];exact HO4.out.mods HMS (λj hj h=>by have:=(HO4.out.lt j hj).1;omega)
   .have hinI:¬ 8+(q:Int)<(bl:Int):=by omega
    have HBT:Hid (zFg p.body k=false):=oh (by rw[HBI.out];simp[hin]);clear hq hr HBI;go_wp2_with fail;go_roundg (gk-1)
    case measure=>omega
    case rel=>exact⟨k+1,uv,by omega,by go_num,oh (by rw[HU.out,if_neg (by rw[HBT.out];simp),List.append_nil];exact HW.out)⟩
  .obtain rfl:k=n:=by omega
   subst huv;have y0:=hY.cell (o:=0) rfl;have y1:=hY.cell (o:=1) rfl;have r0:=hR.cell (o:=0) rfl;have r1:=hR.cell (o:=1) rfl;have r2:=hR.cell (o:=2) rfl;have rf:=hR.frozen;clear hO hM hX x3 hul;go_wp2_with fail;have HRB:Hid (zH (((wr.setCell ⟨w.heap.size+1,0,none⟩ (.int .u64 (g:Int))).setCell ⟨w.heap.size+1,1,none⟩ (.int .i64 (k:Int))).setCell ⟨w.heap.size+1,2,none⟩ (.slice ua ul uc)) (w.heap.size+1) #[.int .u64 (g:Int),.int .i64 (k:Int),.slice ua ul uc] 106):=oh (by simpa using ((hR.set 0 (.int .u64 (g:Int))).set 1 (.int .i64 (k:Int))).set 2 (.slice ua ul uc));have hMR:zA (λj=>j=w.heap.size+1) wr (((wr.setCell ⟨w.heap.size+1,0,none⟩ (.int .u64 (g:Int))).setCell ⟨w.heap.size+1,1,none⟩ (.int .i64 (k:Int))).setCell ⟨w.heap.size+1,2,none⟩ (.slice ua ul uc)):=zA.setCell (F:=λj=>j=w.heap.size+1) (zA.setCell (F:=λj=>j=w.heap.size+1) (zA.setCell (F:=λj=>j=w.heap.size+1) (zA.refl _ wr) (p:=⟨w.heap.size+1,0,none⟩) (.inr rfl) _) (p:=⟨w.heap.size+1,1,none⟩) (.inr rfl) _) (p:=⟨w.heap.size+1,2,none⟩) (.inr rfl) _;have HMR:=oh hMR;refine bodyPost_ret (results_cell_row rfl _ _ (w.heap.size+1) 106 #[.int .u64 (g:Int),.int .i64 (k:Int),.slice ua ul uc] (0,0) _ rfl HRB.out Tryz.underlying106 rfl Tryz.mapSize) rfl ?_;have hO:=HW.out.2.2.2.2;refine⟨.slice ua ul uc,by rw[HMV.out],?_,by rw[HUI.out];have:=zI9 p.body k;omega,HW.out.1.trans' HMR.out (λi hi h=>by omega)⟩;rw[HUI.out];exact (hO.mods HMR.out (λj hj h=>by have:=(hO.lt j hj).1;omega)).rebase (by omega)
end
section
open Go.RowKit
theorem zK4{P:Program}{w:World}{t u e:TypeId}(T:ElT P t e (.int .u8 0) 1 1)(hu:P.underlying u=some .string)
  {ops:Array Oper} {rest:List Oper} {o:Oper} {a:Act} {Q:Exit->Act->World->Prop} (hgd:o.guard=none) (sx x:Operand)
  (ho:o.op=.call { callee:=.builtin .append,args:=#[sx,x],argTypes:=#[t,u] })
  (base:Nat) (v:Value) (l:List UInt8) (s:ByteArray) (hv:a.eval sx=v) (hx:a.eval x=.string s) (hown:yC (λ_=>False) w base e 1 zZ v l) (hb:l.length+s.size<=140737488355328) (hbase:base<=w.heap.size)
  (h:∀a' c' w',yC (λ_=>False) w' base e 1 zZ (.slice a' (l.length+s.size) c') (l++s.data.toList)->w.grownBy w' v.ownBlock->wpList P ops Q rest (a.put o.dst (.slice a' (l.length+s.size) c')) w') :
  wpList P ops Q (o :: rest) a w:=by
 refine wpList_plain hgd λK hK=>?_
 obtain⟨i,hi,hz,hs1,hb1⟩:=zEz T.info;obtain⟨v',w',hr,h2,h3,_⟩:=Go.Lib.run_append_own_string (P:=P) (w:=w) base t u o.type e i T.under hu hi hz hs1 hb1 v l.length _ hown.1 s (by simp only[maxLen];omega) hb hbase;have hO:yC (λ_=>False) w' base e 1 zZ v' (l++s.data.toList):=⟨by
  rw[List.length_append,zAD,List.flatMap_append,<- zFf];exact h2,λ_ _ f=>f⟩
 obtain⟨a',c',hvv,_⟩:=hO.form;rw[List.length_append,zAD] at hvv;subst hvv;unfold Oper.wp execOp;simp only[ho,resolve,invoke,builtin,Sem.run_bind,Sem.run_pure,Result.andThen_ok,List.map_toArray,List.map_cons,List.map_nil,hv,hx,hr];exact hK _ _ (h a' c' w' hO h3)
structure WrR(base:Nat)(w:World)(B:Nat)(l:List UInt8):Prop where
 box:∃a c,zH w B #[.slice a l.length c,.nilIface] 337 /\ yC (λ_=>False) w base 5 1 zZ (.slice a l.length c) l
 ge:base<=B
def WFr(B:Nat)(w w':World):Prop:=∀(b:Nat) (c:Array Value) (t:TypeId),b≠B->t ≠ 5 -> zH w b c t->zH w' b c t
section
variable {F:Nat->Prop}{ad:Nat->Addr}{w w':World}{base B:Nat}{l:List UInt8}
theorem yC.notB{e t:TypeId}{α:Type}{F:Nat->Prop}{enc:α->List Value}{sz:Nat}{v:Value}{x:List α}{B:Nat}{c:Array Value}(h:yC F w base e sz enc v x)(hB:zH w B c t)(ht:t≠e):∀g,v.ownBlock=some g->g≠B:=by
 intro g hg he;subst he;rcases h.1.2 with ⟨rfl,_⟩|⟨g',cap,cur,rfl,hbg,hg',_⟩
 .simp[Value.ownBlock] at hg
 .simp[Value.ownBlock] at hg;subst hg;unfold zH at hB;rw[hg'] at hB;injection hB with hB;injection hB with h1 h2;exact ht h2.symm
theorem zK5(hL:yG F ad w)(hF:∀k,F k->k<base)(h:WrR base w B l)(n W:Nat)(hW:W=1\/W=2\/W=4)(hn:n<256 ^ W)(hlen:l.length<=100000) :
  Calls Tryz.prog 217 #[.pointer (some ⟨B,0,none⟩),.int .i64 (n:Int),.int .i64 (W:Int)] w λe w'=>e=.returned (.tuple #[])/\WrR base w' B (l++yD W n)/\zA (λk=>base<=k) w w'/\WFr B w w':=by
 obtain⟨⟨a,c,hB,hO⟩,hge⟩:=h;have hn2:n<4294967296:=by
  rcases hW with rfl|rfl|rfl <;> simp at hn <;> omega
 have b0:=hB.cell (o:=0) (v:=.slice a l.length c) rfl;have b1:=hB.cell (o:=1) (v:=.nilIface) rfl;have HSL:Hid (Sl F w 1 zZ (.slice a l.length c) l):=oh (yC.sl (F:=F) ⟨hO.1,λg hg f=>by have:=hO.lt g hg;have:=hF g f;omega⟩ jE.len (by omega));have HB:=oh hB;have HL:=oh hL;have HN:=oh hn;have HW:=oh hW;have HBL:=oh hB.lt;clear hB hO hL hF hn hW
 go_enter Tryz.func217, Tryz.ntmps217
 go_wp2_with fail;refine (zBL HL.out _ l HSL.out n W (by have:=HW.out;omega) HN.out (Nat.le_trans hlen (by omega))).mono ?_;rintro e w1 ⟨a1,c1,rfl,hO1,hm1⟩;have hB1:=HB.out.ext hm1;have f0:=hB1.frozen 0;have f1:=hB1.frozen 1;have z0:=hB1.cell (o:=0) rfl;have z1:=hB1.cell (o:=1) rfl;have HB1:=oh hB1;have hsz:=hm1.size;have HM:Hid (zA (λk=>base<=k) w ((w1.setCell ⟨B,0,none⟩ (.slice a1 (l.length+W) c1)).setCell ⟨B,1,none⟩ .nilIface)):=oh ((hm1.ext.setCell (p:=⟨B,0,none⟩) (.inr hge) _).setCell (p:=⟨B,1,none⟩) (.inr hge) _);have HO1:Hid (yC (λ_=>False) ((w1.setCell ⟨B,0,none⟩ (.slice a1 (l.length+W) c1)).setCell ⟨B,1,none⟩ .nilIface) base 5 1 zZ (.slice a1 (l.length+W) c1) (l++yD W n)):=oh (by
  have h1:yC (λ_=>False) w1 base 5 1 zZ (.slice a1 (l.length+W) c1) (l++yD W n):=yC.rebase ⟨hO1.1,λ_ _ f=>f⟩ (by have:=HBL.out;omega);exact h1.mods (((zA.refl (λk=>k=B) w1).setCell (F:=λk=>k=B) (p:=⟨B,0,none⟩) (.inr rfl) _).setCell (F:=λk=>k=B) (p:=⟨B,1,none⟩) (.inr rfl) _) (λg hg=>yC.notB h1 hB1 (by decide) g hg))
 have HFR:Hid (WFr B w ((w1.setCell ⟨B,0,none⟩ (.slice a1 (l.length+W) c1)).setCell ⟨B,1,none⟩ .nilIface)):=oh (λb c t h1 _ h3=>((h3.ext hm1).set_other (p:=⟨B,0,none⟩) h1 _).set_other (p:=⟨B,1,none⟩) h1 _);clear hm1 hB1 hO1;go_wp2_with fail;go_end0
 exact⟨rfl,⟨⟨a1,c1,by rw[List.length_append,zD];exact (HB1.out.set 0 _).set 1 _,by rw[List.length_append,zD];exact HO1.out⟩,hge⟩,HM.out,HFR.out⟩
theorem zOK(hL:yG F ad w)(hF:∀k,F k->k<base)(h:WrR base w B l)(s:ByteArray)(hs:s.size<256)(hlen:l.length<=100000) :
  Calls Tryz.prog 218 #[.pointer (some ⟨B,0,none⟩),.string s] w λe w'=>e=.returned (.tuple #[])/\WrR base w' B (l++vK s)/\zA (λk=>base<=k) w w'/\WFr B w w':=by
 have HL:=oh hL;have HF:=oh hF;have HH:=oh h;have HW0:=oh h.box;clear hL hF h
 go_enter Tryz.func218, Tryz.ntmps218
 go_wp2_with fail;refine (zK5 HL.out HF.out HH.out s.size 1 (.inl rfl) (by simpa using hs) hlen).mono ?_;rintro e w1 ⟨rfl,hR,hm,hfr⟩;have HFR:=oh hfr;clear hfr;obtain⟨⟨a,c,hB,hO⟩,hge⟩:=hR;have hbb:=hB.lt;have hll:(l++yD 1 s.size).length=l.length+1:=by rw[List.length_append,zD]
 have HB:=oh hB;have HO:=oh hO;have HM:=oh hm;have HLL:=oh hll;generalize hq:l++yD 1 s.size=q at *
 have HQ:=oh hq;clear hB hO hm hll hq;have b0:=HB.out.cell (o:=0) (v:=.slice a q.length c) rfl;have f0:=HB.out.frozen 0;go_wp2_with (at_builtin;refine zK4 Tryz.elB Tryz.underlying9 rfl _ _ rfl base _ q s rfl rfl HO.out (by rw[HLL.out];omega) (by omega) ?_;intro a2 c2 w2 hO2 hg2;have hgm:=zA.of_grown hg2;have hB2:zH w2 B #[.slice a q.length c,.nilIface] 337:=HB.out.mods hgm (λe=>yC.notB HO.out HB.out (by decide) B e rfl);have z0:=hB2.cell (o:=0) (v:=.slice a q.length c) rfl;have zf:=hB2.frozen 0);have HB2:=oh hB2;have HM2:Hid (zA (λk=>base<=k) w (w2.setCell ⟨B,0,none⟩ (.slice a2 (q.length+s.size) c2))):=oh (((HM.out.trans (hgm.mono (λk hk=>(HO.out.lt k hk).1)))).setCell (p:=⟨B,0,none⟩) (.inr hge) _);have HO2:Hid (yC (λ_=>False) (w2.setCell ⟨B,0,none⟩ (.slice a2 (q.length+s.size) c2)) base 5 1 zZ (.slice a2 (q.length+s.size) c2) (q++s.data.toList)):=oh
  (hO2.mods ((zA.refl _ w2).setCell (F:=λk=>k=B) (p:=⟨B,0,none⟩) (.inr rfl) _) (λg hg=>yC.notB hO2 hB2 (by decide) g hg))
 have HFR2:Hid (WFr B w (w2.setCell ⟨B,0,none⟩ (.slice a2 (q.length+s.size) c2))):=oh (λb c t h1 h2 h3=>((HFR.out b c t h1 h2 h3).mods hgm (λe=>yC.notB HO.out (HFR.out b c t h1 h2 h3) h2 b e rfl)).set_other (p:=⟨B,0,none⟩) h1 _);clear hB2 hO2 hg2 hgm;go_end0
 have e1:l++vK s=q++s.data.toList:=by rw[<- HQ.out];unfold vK;rw[List.append_assoc]
 have e2:(q++s.data.toList).length=q.length+s.size:=by rw[List.length_append,zAD]
 exact⟨rfl,⟨⟨a2,c2,by rw[e1,e2];exact HB2.out.set 0 _,by rw[e1,e2];exact HO2.out⟩,hge⟩,HM2.out,HFR2.out⟩
end
end
end Go.Proofs.YteabpacpngaoaaaGreatDoor
