import Derived.Test.YtgphfebjjedeaaaGreatDoorS18
import Derived.Test.YtgphfebjjedeaaaGreatDoorS01
import Derived.Test.YtgphfebjjedeaaaGreatDoorS08
namespace Go.Proofs.YtgphfebjjedeaaaGreatDoor
open Lib renaming hid->oh
set_option maxHeartbeats 4000000
set_option maxRecDepth 100000
section
open Go.RowKit
theorem zDm{P:Program}{F:NP}{w:World}{src dst e:TypeId}(hs:P.underlying src=some (.slice e))(he:P.underlying e=some (.int .u8))(hd:P.underlying dst=some .string){v:Value}{l:List UInt8}(h:Sl F w 1 zM v l) :
  (convert src dst v).run P w=.ok (.string ⟨l.toArray⟩) w:=by
 obtain⟨a,cap,rfl,h1,h2,h3,h4⟩:=h;rcases h4 with h4|⟨b,off,rfl,hb,hF,hc⟩
 .subst h4;rw[run_convert_bytes_string w src dst e _ _ cap hs he hd];cases a <;> simp[Conv.bytesToString,loadCells,loadCellsFrom] <;> rfl
 .have:=run_convert_bytes_arg (P:=P) w src e hs he b off l.length cap (l.map λx=>(x.toNat:Int)) (by simp) (λi hi=>by
   have h5:=hc i l[i] (uA hi) 0 _ rfl;simp only[uY,uS] at h5;rw[h5];simp[List.getD,hi]) dst hd
  rw[this];congr 3
  unfold strOfNums;simp only[List.map_map];congr 2
  have:((λn:Int=>UInt8.ofNat n.toNat) ∘ λx:UInt8=>(x.toNat:Int))=id:=by funext x;simp
  rw[this,List.map_id]
section
variable {P P' F F':NP}{ad:Nat->Addr}{w w':World}{c s:Nat}{G G':GA}{l l':List Nat}
theorem zR.comp{V V' F1 F2:NP}{w1 w2:World}(n1:zR P P F F1 ad w w1)(n2:zR (U P V) (U P' V') F1 F2 ad w1 w2)(hV:∀k,V k->w.heap.size<=k):zR P P' F F2 ad w w2 :=
 ⟨⟨n1.stp.mods.trans' n2.stp.mods (λi hi h=>h.elim id (λhv=>by have:=hV i hv;omega)),λk hk h=>(n2.stp.old k (uD hk n1.stp.mods.size) (.inl h)).elim id (λhv=>by have:=hV k hv;omega),λk h=>n2.stp.bd k (.inl h)⟩,
  λk h=>n2.sub k (.inl h),λk h=>n2.grow k (n1.grow k h),λk hk h=>n1.oldF k hk (n2.oldF k (uD hk n1.stp.mods.size) h),n2.env⟩
theorem zH9(a b:List UInt8):(⟨a.toArray⟩:ByteArray) ++ ⟨b.toArray⟩=⟨(a++b).toArray⟩:=by
 apply rO;simp
def zFI(b:Nat)(V _F:NP)(w:World)(acc:List (Int × List UInt8)):Prop:=(∀k,V k ↔ k=b)/\zJ w b #[.string ⟨(acc.flatMap (·.2)).toArray⟩] 9 /\ (acc.flatMap (·.2)).length<=1000 * acc.length
theorem zFI.keep(b:Nat):zH8 (zFI b) ad:=λ_ _ _ _ _ _ _ _ h n hap=>⟨h.1,n.blk h.2.1 (λhp=>hap b hp ((h.1 b).2 rfl)),h.2.2⟩
theorem zIj(b:Nat)(V1 F1:NP)(w1:World)(acc:List (Int × List UInt8))(id:Int)(sv:Value)(x:List UInt8)(h:zFI b V1 F1 w1 acc)(hL:zZ F1 ad w1)(hV:∀k,V1 k->F1 k)(hs:Sl F1 w1 1 zM sv x)(hx:x.length<=1000)(hacc:acc.length<=4096) :
  Calls Tryz.prog 332 #[.int .i64 id,sv,.pointer (some ⟨b,0,none⟩)] w1 λe w2=>∃V2 F2,e=.returned (.tuple #[])/\zFI b V2 F2 w2 (acc++[(id,x)])/\zR V1 V2 F1 F2 ad w1 w2:=by
 have c0:=h.2.1.d 0 (.string ⟨(acc.flatMap (·.2)).toArray⟩) rfl;have f0:=h.2.1.frozen 0;have hcv:=zDm (P:=Tryz.prog) Tryz.underlying27 Tryz.underlying5 Tryz.underlying9 hs;obtain⟨S,hS⟩:∃S,S=(acc.flatMap (·.2)):=⟨_,rfl⟩;have hSl:=h.2.2;rw[<- hS] at c0 hSl;have hSl2:S.length<=4096000:=by omega
 have HS:=oh hS;have HH:=oh h;have HL:=oh hL;have HV:=oh hV;clear h hL hV hs hS
 go_enter Tryz.func332, Tryz.ntmps332
 go_wp2_with fail;go_end0
 have e1:(acc++[(id,x)]).flatMap (·.2)=S++x:=by rw[tE,HS.out];simp
 refine⟨V1,F1,rfl,⟨HH.out.1,?_,?_⟩,zR.same HL.out HV.out (zA.at _ _ b 0 _ ((HH.out.1 b).2 rfl))⟩
 .have:=HH.out.2.1.set 0 (.string ⟨(S++x).toArray⟩);rw[e1,<- zH9];rw[<- zH9] at this;simpa using this
 .rw[e1];simp;omega
end
section
variable {P P' F F':NP}{ad:Nat->Addr}{w w':World}{c s:Nat}{G G':GA}{l l':List Nat}
def zCD(G:GA)(id n:Int):Option Err :=
 match zAb n with
 | some e=>some e
 | none=>zJc (vQ G n.toNat id n).2
def zJx(F P:NP)(ad:Nat->Addr)(w:World)(c s:Nat)(G:GA)(l:List Nat)(id n:Int)(e:Ending)(w':World):Prop :=
  ∃(P' F':NP),jC F' w' P' c s G l/\zR P P' F F' ad w w' /\
    ((zCD G id n = none /\ e = .returned (.tuple #[.string ⟨((vQ G n.toNat id n).1.flatMap (·.2)).toArray⟩, .nilIface])) \/
     (∃(er:Err) (f:Nat),zCD G id n=some er/\e=.returned (.tuple #[.string ⟨#[]⟩,zD f])/\yG F' ad w' (zD f) er.1 er.2))
theorem jC.plusNew(h:jC F w P c s G l)(_hP:∀k,P k->F k){Q:NP}(m:zF w w')(hQ:∀k,Q k->w.heap.size<=k):jC (λk=>F k\/Q k) w' P c s G l :=
 h.plus (Q:=λ_=>False) m (λ_ _ f=>f) (λ_ f=>f.elim) (λk hk hn hf=>hf.elim hn (λhq=>by have:=hQ k hq;omega))
theorem zR.new(hL:zZ F ad w)(hP:∀k,P k->F k){Q:NP}(m:zF w w')(hQ:∀k,Q k->w.heap.size<=k)(hQ2:∀k,Q k->k<w'.heap.size):zR P P F (λk=>F k\/Q k) ad w w' :=
 ⟨Stp.ext (λk h=>hL.lt k (hP k h)) m,λk h=>.inl (hP k h),λ_ h=>.inl h,λk hk h=>h.elim id (λhq=>by have:=hQ k hq;omega),
  hL.step m.ext (λk hk hn hf=>hf.elim hn (λhq=>by have:=hQ k hq;omega)) (λk hf=>hf.elim (λhf=>uD (hL.lt k hf) m.size) (hQ2 k))⟩
theorem Tryz.enterR(args:Array Value)(w:World):(callFunc 332 args).run Tryz.prog w=.ok (.enter 332 args) w:=by kernel_rfl
theorem zHM(hL:zZ F ad w)(hP:∀k,P k->F k)(h:jC F w P c s G l)(gen:Nat)(id n:Int)(hid : -9223372036854775808<=id/\id<=9223372036854775807)(hok:25<=n->n<=4096->zBU G n.toNat id n) :
  Calls Tryz.prog 264 #[pgV c s gen,.int .i64 id,.int .i64 n] w (zJx F P ad w c s G l id n):=by
 unfold pgV;have m0:zF w (w.alloc (gP c s gen)):=(zss w).alloc _;have HB0:=oh (zJ.new w (gP c s gen) 140);have HX0:=oh (zR.ext hL hP m0);have HL:=oh hL;have HP:=oh hP;have HG:=oh h;have HOK:=oh hok;have HM0:=oh m0;clear hL hP h m0 hok
 go_enter Tryz.func264, Tryz.ntmps264
 go_wp2_with fail;refine (zGa HX0.out.env _ gen n).mono ?_;rintro e w1 ⟨ev,rfl,hE,hm1⟩;have HM1:=oh (HM0.out.trans hm1);have hB1:=HB0.out.ext hm1;have r0:=hB1.d 0 (.pointer (some ⟨c,0,none⟩)) rfl;have r1:=hB1.d 1 (.pointer (some ⟨s,0,none⟩)) rfl;have r2:=hB1.d 2 (.int .u64 (gen:Int)) rfl;have hbl:=hB1.lt;cases hck:zAb n with
 | some er =>
  obtain⟨el,ek⟩:=er;rw[hck] at hE;obtain⟨f,rfl,hE⟩:=hE;have HE:=oh hE;have HK:Hid (zCD G id n=some (el,ek)):=oh (by unfold zCD;rw[hck]);clear hE hck hm1 hB1;go_wp2_with fail;go_ret2
  exact⟨P,F,HG.out.at HM1.out,zR.ext HL.out HP.out HM1.out,.inr ⟨(el,ek),f,HK.out,rfl,HE.out⟩⟩
 | none =>
  rw[hck] at hE;cases hE
  have hn:25<=n/\n<=4096:=by unfold zAb at hck;split at hck;cases hck;omega
  obtain⟨hn1,hn2⟩:=hn;have HCK:=oh hck;have m1:zF w (w1.alloc (.cells #[.string ⟨#[]⟩] 9)):=HM1.out.alloc _;have HN1:=oh (zR.new (Q:=λk=>k=w1.heap.size) HL.out HP.out m1 (λk hk=>hk ▸ HM1.out.size) (λk hk=>by rw[hk];simp));have HG1:=oh (HG.out.plusNew HP.out (Q:=λk=>k=w1.heap.size) m1 (λk hk=>hk ▸ HM1.out.size));have HBV:=oh (zJ.new w1 #[.string ⟨#[]⟩] 9);have HBD:=oh HG.out.bd;clear hck hm1 hB1;go_wp2_with fail;refine (zJw (zFI w1.heap.size) (λk=>k=w1.heap.size) HN1.out.env HN1.out.sub (λk hk=>.inr hk) (λk hk hv=>by have:=HBD.out k hk;have:=HM1.out.size;omega) HG1.out gen id n (by omega) n.toNat (by omega) (HOK.out hn1 hn2) 332 (.pointer (some ⟨w1.heap.size,0,none⟩)) hid (by omega) Tryz.enterR ⟨λk=>rP,HBV.out,by simp⟩ (zFI.keep _) (λV1 F1 w2 acc id sv b j1 j2 j3 j4 j5 j6=>zIj _ V1 F1 w2 acc id sv b j1 j2 j3 j4 j5 j6)).mono ?_;rintro e w3 ⟨P3,V3,F3,ev,rfl,hG3,hN3,hJ3,hA3,hE3⟩;have HN3:=oh (HN1.out.comp hN3 (λk hk=>by rw[hk];exact HM1.out.size));have HG3:=oh hG3;have hc:=hJ3.2.1.d 0 (.string ⟨((vQ G n.toNat id n).1.flatMap (·.2)).toArray⟩) rfl;obtain⟨wk,hwk⟩:∃x,x=vQ G n.toNat id n:=⟨_,rfl⟩;rw[<- hwk] at hc hE3;obtain⟨wr1,we⟩:=wk;have HWK:=oh hwk;simp only at hc hE3;clear hG3 hN3 hJ3 hA3 hwk;cases we with
  | none =>
   cases hE3
   have HK:Hid (zCD G id n=none):=oh (by unfold zCD;rw[HCK.out,<- HWK.out];rfl);go_wp2_with fail;go_ret2
   exact⟨P3,F3,HG3.out,HN3.out,.inl ⟨HK.out,by rw[<- HWK.out];rfl⟩⟩
  | some er =>
   obtain⟨el,ek⟩:=er;obtain⟨f,rfl,hE3⟩:=hE3;have HE3:=oh hE3;have HK:Hid (zCD G id n=some (-1 :: el,ek)):=oh (by unfold zCD;rw[HCK.out,<- HWK.out];rfl);clear hE3;go_wp2_with fail;refine (wrap_any HN3.out.env _ _ el ek HE3.out).mono ?_;rintro e w4 ⟨f4,rfl,hE4,hm4⟩;have HE4:=oh hE4;have HM4:=oh hm4;clear hE4 hm4;go_wp2_with fail;go_ret2
   exact⟨P3,F3,HG3.out.at HM4.out,HN3.out.trans (zR.ext HN3.out.env HN3.out.sub HM4.out),.inr ⟨(-1 :: el,ek),f4,HK.out,rfl,HE4.out⟩⟩
end
section
variable {F:NP}{ad:Nat->Addr}{w:World}
def zFJ:Option Err->Nat
 | none=>0
 | some e=>e.2
end
theorem zJy{G:GA}{id:Nat}(hid:id<G.blocks){p:zX}(h:G.view id=some (.inl p)):G.get (id:Int)=.inl p:=by
 unfold GA.get GA.check;rw[if_neg (by omega)];simp only[uL,h]
def zB(s:Nat):List UInt8:=List.replicate s 0
def zLR:List UInt8:=zB 256
def G0(n:Nat):GA:=⟨n,256,λid=>if id<n then some (zW zLR id) else none,λid=>if id<n then some zLR else none,λid=>if id<n then some zLR else none,0⟩
def NoB:NP:=λ_=>False
theorem zHN{w:World}{s b2:Nat}{l:List Nat}(h:SpR w s b2 l):∀k,spF s b2 k->k<w.heap.size:=λk hk=>by
 rcases hk with rfl|rfl
 .exact h.own.lt
 .exact h.row.lt
theorem zJ.set3{w:World}{R:Nat}{t:TypeId}{a0 a1 a2:Value}(h:zJ w R #[a0,a1,a2] t)(v0 v1 v2:Value) :
  zJ (((w.setCell ⟨R,0,none⟩ v0).setCell ⟨R,1,none⟩ v1).setCell ⟨R,2,none⟩ v2) R #[v0,v1,v2] t:=by
 simpa using ((h.set 0 v0).set 1 v1).set 2 v2
theorem zA.set3{F:NP}{w w':World}(m:zA F w w'){R:Nat}(hR:w.heap.size<=R\/F R)(v0 v1 v2:Value) :
  zA F w (((w'.setCell ⟨R,0,none⟩ v0).setCell ⟨R,1,none⟩ v1).setCell ⟨R,2,none⟩ v2) :=
 ((m.setCell (p:=⟨R,0,none⟩) hR _).setCell (p:=⟨R,1,none⟩) hR _).setCell (p:=⟨R,2,none⟩) hR _
structure zBw(D:zH):Prop where
 off:D.off=false
 lit:D.lit=false
 wait:D.waiting=[]
 lenL:D.lasting.length=D.blocks
 len:∀id,id<D.blocks->(D.look id).length=D.size
 b8:8<=D.blocks
 b256:D.blocks<=256
 s256:256<=D.size
 s1024:D.size<=1024
structure zCn(D:zH):Prop where
 off:D.off=false
 lit:D.lit=false
 wait:∀p∈D.waiting,p.1<D.blocks
 lenL:D.lasting.length=D.blocks
 len:∀id,id<D.blocks->(D.look id).length=D.size
theorem zBw.wet{D:zH}(h:zBw D):zCn D:=⟨h.off,h.lit,λp hp=>by rw[h.wait] at hp;simp at hp,h.lenL,h.len⟩
theorem zCn.wrote{D:zH}(h:zCn D){i:Nat}{b:List UInt8}(hi:i<D.blocks)(hb:b.length=D.size):zCn (D.wrote i b):=by
 refine⟨h.off,h.lit,λp hp=>?_,h.lenL,λid hid=>?_⟩
 .rcases wM.1 hp with hp|hp
  .exact h.wait p hp
  .rw[tF.1 hp];exact hi
 .rw[zAO];split
  .exact hb
  .exact h.len id hid
theorem zCn.flushed{D:zH}(h:zCn D):zCn D.flushed/\D.flushed.waiting=[]/\∀id,D.flushed.look id=D.look id:=by
 have hk:=λid=>zFe h.lenL h.wait id
 refine⟨⟨h.off,h.lit,λp hp=>(by cases hp),(by show (settle _ _).length=_;rw[zAX];exact h.lenL),λid hid=>?_⟩,rfl,hk⟩;rw[hk];exact h.len id hid
theorem zBw.last{D:zH}(h:zBw D)(id:Nat):D.lasting.getD id []=D.look id:=by
 unfold zH.look;rw[h.wait];rfl
structure zFK(D:zH)(s:qD)(m:vU):Prop where
 dry:zBw D
 blk:s.blocks=D.blocks
 siz:s.size=D.size
 ok:zBD s=true
 gen:s.gen<18446744073709551615
 sup0:D.look 0=vH s 0
 sup1:D.look 1=vH s 1
 mok:jF m=true
 mgen:m.gen=s.gen
 mblk:m.blocks=s.blocks
 map0:D.look (place s.gen 0)=yF m (place s.gen 0) D.size
 map1:D.look (place s.gen 1)=yF m (place s.gen 1) D.size
theorem zFK.open0{D:zH}{s:qD}{m:vU}(h:zFK D s m):qA (D.look 0) 0=some s:=by rw[h.sup0];exact zE8 h.ok (by have:=h.gen;omega) (by omega)
theorem zFK.open1{D:zH}{s:qD}{m:vU}(h:zFK D s m):qA (D.look 1) 1=some s:=by rw[h.sup1];exact zE8 h.ok (by have:=h.gen;omega) (by omega)
def vZ(D:zH):qD:=⟨1,D.blocks,D.size,0,0⟩
def zAq(D:zH):vU:=⟨1,D.blocks,[0,1,2,3,4,5]⟩
def zCW(D:zH):zH :=
 ((((((D.wrote 4 (yF (zAq D) 4 D.size)).wrote 5 (yF (zAq D) 5 D.size)).flushed).wrote 1 (vH (vZ D) 1)).flushed).wrote 0 (vH (vZ D) 0)).flushed
theorem zBb{D:zH}(h:zBw D):zFK (zCW D) (vZ D) (zAq D)/\∀id,6<=id->(zCW D).look id=D.look id:=by
 have hb8:=h.b8;have hok:zBD (vZ D)=true:=(zAP _).2 ⟨h.b8,h.b256,h.s256,h.s1024,by show 0<=2147483647;omega,.inl rfl,λ_=>rfl⟩;have hmk:jF (zAq D)=true:=(qS _).2 ⟨h.b8,h.b256,by show 6<=6;omega,rfl,by show ([0,1,2,3,4,5]:List Nat).Pairwise (· < ·);decide,λn hn=>by
  have:n<6:=by
   have hn':n∈([0,1,2,3,4,5]:List Nat):=hn;simp at hn';omega
  show n<D.blocks;omega⟩
 have l4:(yF (zAq D) 4 D.size).length=D.size:=qP hmk 4 h.s256;have l5:(yF (zAq D) 5 D.size).length=D.size:=qP hmk 5 h.s256;have l1:(vH (vZ D) 1).length=D.size:=jS hok 1;have l0:(vH (vZ D) 0).length=D.size:=jS hok 0;have w1:=h.wet.wrote (i:=4) (by omega) l4;have w2:=w1.wrote (i:=5) (b:=yF (zAq D) 5 D.size) (by show 5<D.blocks;omega) l5;obtain⟨w3,q3,k3⟩:=w2.flushed;have w4:=w3.wrote (i:=1) (b:=vH (vZ D) 1) (by show 1<D.blocks;omega) l1;obtain⟨w5,q5,k5⟩:=w4.flushed;have w6:=w5.wrote (i:=0) (b:=vH (vZ D) 0) (by show 0<D.blocks;omega) l0;obtain⟨w7,q7,k7⟩:=w6.flushed;have hk:∀id,(zCW D).look id=if 0=id then vH (vZ D) 0 else if 1=id then vH (vZ D) 1 else if 5=id then yF (zAq D) 5 D.size else if 4=id then yF (zAq D) 4 D.size else D.look id:=by
  intro id;show (zH.flushed _).look id=_;rw[k7,zAO,k5,zAO,k3,zAO,zAO]
 have hp0:place (vZ D).gen 0=4:=rfl;have hp1:place (vZ D).gen 1=5:=rfl;refine⟨⟨⟨w7.off,w7.lit,q7,w7.lenL,w7.len,h.b8,h.b256,h.s256,h.s1024⟩,rfl,rfl,hok,by show 1<18446744073709551615;omega,?_,?_,hmk,rfl,rfl,?_,?_⟩,λid hid=>?_⟩
 .rw[hk,if_pos rfl]
 .rw[hk,if_neg (by omega),if_pos rfl]
 .rw[hp0,hk,if_neg (by omega),if_neg (by omega),if_neg (by omega),if_pos rfl];rfl
 .rw[hp1,hk,if_neg (by omega),if_neg (by omega),if_pos rfl];rfl
 .rw[hk,if_neg (by omega),if_neg (by omega),if_neg (by omega),if_neg (by omega)]
def zCo(D:zH):GA:=⟨D.blocks,D.size,λid=>if id<D.blocks then some (zW (D.look id) id) else none,λid=>if id<D.blocks then some (D.look id) else none,λid=>if id<D.blocks then some (D.look id) else none,0⟩
theorem zIk{D:zH}(h:zBw D)(q:Nat)(h3:3<=q)(h64:q<=64):yS ⟨D,List.replicate q yI,0⟩/\zAC ⟨D,List.replicate q yI,0⟩ (zCo D):=by
 have si:∀{α:Type} {p:Prop} [Decidable p] {x y:α},(if p then some x else none)=some y->x=y:=λ{α p _ x y} h=>by
  by_cases hp:p
  .rw[if_pos hp] at h;exact Option.some.inj h
  .rw[if_neg hp] at h;cases h
 refine⟨zIQ D q h3 h64 h.s256 h.s1024 h.b8 h.b256 h.lenL h.len h.off h.lit,zIS D q (zCo D) rfl rfl (λid r hr=>si hr) (λid b hb=>si hb) (λid b hb=>⟨?_,λp hp=>by rw[h.wait] at hp;simp at hp⟩) (by rw[h.wait];exact uI 0)⟩;rw[h.last];exact si hb
def vA(n:Nat)(used:List Nat):List Nat:=(List.range n).map λi=>if i∈used then 1 else 0
theorem zAS(n:Nat)(u:List Nat):(vA n u).length=n:=by simp[vA]
theorem vX{n:Nat}(u:List Nat){i:Nat}(h:i<n):(vA n u)[i]? = some (if i∈u then 1 else 0):=by
 simp[vA,h]
theorem zHO{n i:Nat}{u:List Nat}(h2:2<=i)(hn:i<n)(hi:i ∉ u):zB3 (vA n u) (i:Int)=(vA n (u++[i]),none):=by
 have hg:=vX (n:=n) u hn;rw[if_neg hi] at hg;have hc:vK (vA n u) (i:Int)=none:=by
  unfold vK;rw[zAS,if_neg (by omega)]
 unfold zB3;rw[hc];simp only;rw[uL,if_pos hg];congr 1
 refine List.ext_getElem? (λj=>?_);rw[rD];by_cases e:i=j
 .subst e;rw[if_pos rfl,if_pos (by rw[zAS];exact hn),vX _ hn,if_pos (by simp)]
 .rw[if_neg e];by_cases hj:j<n
  .rw[vX _ hj,vX _ hj];congr 1
   have:j∈u++[i] ↔ j∈u:=by
    rw[wM,tF];exact⟨λh=>h.elim id (λh=>absurd h.symm e),.inl⟩
   by_cases hm:j∈u
   .rw[if_pos hm,if_pos (this.2 hm)]
   .rw[if_neg hm,if_neg (λh=>hm (this.1 h))]
  .rw[wT (by rw[zAS];omega),wT (by rw[zAS];omega)]
theorem zCp{F:NP}{ad:Nat->Addr}{w:World}(hL:zZ F ad w)(m:vU)(hm:jF m=true)(hg:m.gen<18446744073709551616)(uv:Value)(hu:Sl F w 1 yX uv (zV m))(i z:Nat)(hi:vV m.gen i=true)(h1:256<=z)(h2:z<=1024) :
  Calls Tryz.prog 156 #[zAM m uv,.int .i64 (i:Int),.int .i64 (z:Int)] w λe w'=>∃a c,e=.returned (.tuple #[.slice a z c,.nilIface])/\yA F w' w.heap.size 5 1 zM (.slice a z c) (yF m i z)/\zF w w':=by
 obtain⟨o1,o2,o3,o4,o5,o6⟩:=(qS m).1 hm;have hlen:m.used.length<=m.blocks:=zBa m.used 0 m.blocks o5 (λn hn=>⟨wK _,o6 n hn⟩) (wK _);have hi6:i<6:=by
  unfold vV at hi;simp only[tS,uM] at hi;unfold place at hi;omega
 have HU:Hid (∀w',zF w w'->Sl F w' 1 yX uv (zV m)):=oh (λw' k=>hu.ext k);have HL:Hid (∀w',zF w w'->zZ F ad w'):=oh (λw' k=>hL.mods k.ext);have HF:Hid (∀w',zF w w'->Bd F w'):=oh (λw' k x hx=>(HL.out w' k).lt x hx);have HCK:Hid (∀w',zF w w' -> Calls Tryz.prog 233 #[zAM m uv] w' λe w''=>e=.returned .nilIface/\zF w' w''):=oh (λw' k=>zGQ m hm uv (HU.out w' k));have HBI:Hid (∀w',zF w w' -> Calls Tryz.prog 236 #[zAM m uv] w' λe w''=>∃v,e=.returned v/\Sl F w'' 1 zM v (zAp m.blocks m.used)/\(zAp m.blocks m.used).length=(m.blocks+7) / 8/\zF w' w''):=oh (λw' k=>zJp (HF.out w' k) m hm uv (HU.out w' k));have HON:Hid (∀w',Calls Tryz.prog 234 #[.int .u64 (m.gen:Int),.int .i64 (i:Int)] w' λe w''=>e=.returned (.bool true)/\zF w' w''):=oh (λw'=>(zH3 m.gen hg i (by omega) w').mono (λe w'' h=>⟨by rw[h.1,hi],h.2⟩));have HPC:=oh (zDf hm hi6 h1 h2);have HBY:Hid (zP 4 m.blocks++zP 4 m.used.length++zAp m.blocks m.used=yP m):=oh rfl;have HBK:Hid (jB (zAN m i) z=yF m i z):=oh rfl;have HPB:Hid ((zAN m i).body=yP m):=oh rfl;have HPG:Hid (∀v,Value.agg #[.int .i64 5,.int .i64 (i:Int),.int .u64 (m.gen:Int),v]=yH (zAN m i) v):=oh (λ_=>rfl);have HG2:Hid ((zAN m i).gen<18446744073709551616):=oh hg;have HML:=oh (jG m);have hul:(zV m).length=m.used.length:=by unfold zV;rw[wD]
 obtain⟨ua,uc,rfl,i1,i2,i3, -⟩:=hu;unfold maxLen at i2;have HMV:Hid (zAM m (.slice ua (zV m).length uc)=.agg #[.int .u64 (m.gen:Int),.int .i64 (m.blocks:Int),.slice ua (zV m).length uc]):=oh rfl;rw[HMV.out];rw[hul] at HU HCK HBI HMV i1 i3 ⊢;obtain⟨g,hgg⟩:∃g,g=m.gen:=⟨_,rfl⟩;obtain⟨b,hb⟩:∃b,b=m.blocks:=⟨_,rfl⟩;obtain⟨n,hn⟩:∃n,n=m.used.length:=⟨_,rfl⟩;rw[<- hgg,<- hb,<- hn] at HMV ⊢;rw[<- hgg] at HON HPG hg;rw[<- hb,<- hn] at hlen HBY;rw[<- hb] at o1 o2;rw[<- hb] at HBI HML;rw[<- hn] at HBI HCK HU i1 i3 o3;clear hL hm hi o4 o5 o6 hul hgg hb hn;obtain⟨W0,hW0⟩:∃W0,W0=w.alloc (.cells #[.int .u64 (g:Int),.int .i64 (b:Int),.slice ua n uc] 173):=⟨_,rfl⟩;have hM0:zF w W0:=by rw[hW0];exact (zss w).alloc _
 have hB0:zJ W0 w.heap.size #[.int .u64 (g:Int),.int .i64 (b:Int),.slice ua n uc] 173:=by rw[hW0];exact zJ.new w _ _
 have HM0:=oh hM0;have HX0:=oh hB0;clear hM0 hB0
 go_enter Tryz.func156, Tryz.ntmps156
 go_wp2_with fail;rw[<- hW0,<- HMV.out];refine (HCK.out _ HM0.out).mono ?_;rintro e w1 ⟨rfl,m1⟩;have HM1:=oh (HM0.out.trans m1);have HX1:=oh (HX0.out.ext m1);clear m1 hW0;have x0:=HX1.out.k 0 rfl;go_wp2_with fail;refine (HON.out _).mono ?_;rintro e w2 ⟨rfl,m2⟩;have HM2:=oh (HM1.out.trans m2);have HX2:=oh (HX1.out.ext m2);clear m2 x0;have x1:=HX2.out.k 1 rfl;have e1:decide ((z:Int)<256)=false:=by simp;omega
 have e2:decide (1024<(z:Int))=false:=by simp;omega
 go_wp2_with fail;have PA:=jU (HL.out _ HM2.out) (.slice none 0 0) [] (Sl.nil _ _ _ _) b 4 (by decide) (by show b<4294967296;omega) (by decide);simp only[uK,uZ,wF] at PA;refine PA.mono ?_;rintro e w3 ⟨a3,c3,rfl,hO3,m3⟩;have HS3:=oh (hO3.sl (λ_=>rfl) (by rw[zC];decide));have HM3:=oh (HM2.out.trans m3);have HX3:=oh (HX2.out.ext m3);clear hO3 m3 x1 PA;have x2:=HX3.out.k 2 rfl;go_wp2_with fail;have PA:=jU (HL.out _ HM3.out) _ (zP 4 b) HS3.out n 4 (by decide) (by show n<4294967296;omega) (by rw[zC];decide);rw[zC] at PA;refine PA.mono ?_;rintro e w4 ⟨a4,c4,rfl,hO4,m4⟩;have HO4:=oh hO4;have HM4:=oh (HM3.out.trans m4);have HX4:=oh (HX3.out.ext m4);have HM34:=oh m4;clear hO4 m4 x2 PA;obtain⟨X,hX⟩:∃X,X=w.heap.size:=⟨_,rfl⟩;have HSX:Hid (∀W,zF w3 W->W.cell? ⟨X,0,none⟩=some (.int .u64 (g:Int))/\W.cell? ⟨X,1,none⟩=some (.int .i64 (b:Int))/\W.cell? ⟨X,2,none⟩=some (.slice ua n uc)):=oh (λW k=>by rw[hX];exact⟨(HX3.out.ext k).cell rfl,(HX3.out.ext k).cell rfl,(HX3.out.ext k).cell rfl⟩);go_wp2_with fail;rw[<- hX];clear hX;refine wp_region_held_drew (S:=(λw'=>w'.cell? ⟨X,0,none⟩=some (.int .u64 (g:Int))/\w'.cell? ⟨X,1,none⟩=some (.int .i64 (b:Int))/\w'.cell? ⟨X,2,none⟩=some (.slice ua n uc))) (by kernel_rfl) (HSX.out _ HM34.out.drew) (λhHeld=>?_);obtain⟨Wd,hWd⟩:∃W,W=w4.drew:=⟨_,rfl⟩;rw[<- hWd] at hHeld ⊢;have xE:zF w4 Wd:=by rw[hWd];exact zr.drew
 have xWd:zF w3 Wd:=HM34.out.trans xE;clear hWd;refine tkH 0 ⟨some 56,_,_,_,_,_⟩ ?_;try go_frame
 refine tkH 1 ⟨some 57,_,_,_,_,_⟩ ?_;try go_frame
 refine tkH 2 ⟨some 58,_,_,_,_,_⟩ ?_;try go_frame
 refine tkH 3 ⟨some 59,_,_,_,_,_⟩ ?_;try go_frame
 refine tkH 4 ⟨some 60,_,_,_,_,_⟩ ?_;try go_frame
 refine tkH 8 ⟨some 64,_,_,_,_,_⟩ ?_;try go_frame
 refine wpAnyH_ready (rs:=[5]) (by kernel_rfl) (by simp) ?_;refine AllReadyH.cons (o:=⟨some 61,_,_,_,_,_⟩) rfl (λK hK=>?_) AllReadyH.nil;go_simp;go_at_call 236
 rw[<- HMV.out]
 (with_reducible refine (HBI.out _ (HM3.out.trans xWd)).mono ?_)
 rintro e W5 ⟨v5,rfl,s5,l5,m5⟩;have xW5:=xWd.trans m5;refine hK.out _ _ (by first|exact HSX.out _ xW5|go_keep) (λhHeld=>?_);clear hK;try go_frame
 refine wpAnyH_ready (rs:=[6]) (by kernel_rfl) (by simp) ?_;refine AllReadyH.cons (o:=⟨some 62,_,_,_,_,_⟩) rfl (λK hK=>?_) AllReadyH.nil;have hO5:=HO4.out.ext (xE.trans m5);refine zDB (F:=F) (G:=F) Tryz.elB qJ (by rfl) (.tmp 59) (.tmp 61) (by rfl) w3.heap.size (.slice a4 (4+4) c4) v5 (zP 4 b++zP 4 n) (zAp b m.used) (by rfl) (by rfl) hO5 s5 (by rw[l5,uC,zC,zC];omega) xW5.size (λf=>tZ _ ((HF.out _ (HM3.out.trans xW5)) _ f)) ?_;intro a6 c6 W6 hO6 hg6 hat6;have xW6:zF w3 W6:=zA.grown xW5 hg6 (λk hk=>.inl (hO5.lt k hk).1);have s6:=hO6.sl (λ_=>rfl) (by rw[uC,uC,l5,zC,zC];omega);rw[HBY.out,<- HPB.out] at s6;have S6:=oh s6;have zN:(zP 4 b++zP 4 n).length+(zAp b m.used).length=8+(b+7) / 8:=by rw[l5,uC,zC,zC]
 rw[zN] at S6 ⊢;refine hK.out _ _ (by first|exact HSX.out _ xW6|go_keep) (λhHeld=>?_);clear hK;try go_frame
 refine tkH 7 ⟨some 63,_,_,_,_,_⟩ ?_;try go_frame
 refine wpAnyH_ready (rs:=[9]) (by kernel_rfl) (by simp) ?_;refine AllReadyH.cons (o:=⟨some 65,_,_,_,_,_⟩) rfl (λK hK=>?_) AllReadyH.nil;go_simp;go_at_call 235
 rw[HPG.out]
 (with_reducible refine (zD1 (HL.out _ (HM3.out.trans xW6)) (zAN m i) _ S6.out z HG2.out HPC.out).mono ?_)
 rintro e W9 ⟨a9,c9,rfl,hO9,m9⟩;have xW9:=xW6.trans m9;refine hK.out _ _ (by first|exact HSX.out _ xW9|go_keep) (λhHeld=>?_);clear hK;try go_frame
 refine tkH 10 ⟨some 55,_,_,_,_,_⟩ ?_;try go_frame
 refine tkH 11 ⟨some 66,_,_,_,_,_⟩ ?_;try go_frame
 refine tkH 12 ⟨some 67,_,_,_,_,_⟩ ?_;try go_frame
 refine tkH 13 ⟨some 11,_,_,_,_,_⟩ ?_;try go_frame
 refine tkH 14 ⟨some 10,_,_,_,_,_⟩ ?_;try go_frame
 refine wpAnyH_done (by kernel_rfl) ?_ _;have HO9:=oh (hO9.rebase (HM3.out.trans xW6).size);have HM9:=oh (HM3.out.trans xW9);clear hO9 m9 xW9 xW6 xW5 xWd xE m5 s5 l5 hO5 hO6 hg6 hat6 s6 zN;go_wp2_with fail;refine (wrap_nil _ _).mono ?_;rintro e w5 ⟨rfl,rfl⟩;go_wp2_with fail;go_ret2
 exact⟨a9,c9,rfl,by rw[<- HBK.out];exact HO9.out,HM9.out⟩
end
section
open Go.RowKit
attribute [local go_sem ↓] Go.wp_at_zero Go.wp_at_succ
def zDD(b:List UInt8)(i:Nat):Bool:=decide (8+i / 8<b.length) && (b.getD (8+i / 8) 0).toNat.testBit (i % 8)
def zDE(b:List UInt8)(k:Nat):List Int:=((List.range k).filter (λi=>zDD b i)).map (λ(i:Nat)=>(i:Int))
theorem zHP(b:List UInt8)(k:Nat):zDE b (k+1)=zDE b k++if zDD b k=true then [(k:Int)] else []:=by
 unfold zDE;rw[List.range_succ,List.filter_append,List.map_append];congr 1
 by_cases h:zDD b k=true
 .rw[if_pos h,List.filter_cons_of_pos (p:=λi=>zDD b i) h];rfl
 .rw[if_neg h,List.filter_cons_of_neg (p:=λi=>zDD b i) h];rfl
theorem zFL(b:List UInt8)(k:Nat):(zDE b k).length<=k:=by
 unfold zDE;rw[wD];exact uQ (List.length_filter_le _ _) (by simp)
theorem zKo(y r:Nat):y.testBit r=decide (y / 2 ^ r % 2=1):=by
 rw[Nat.testBit_eq_decide_div_mod_eq]
theorem zMD(y r:Nat)(hy:y<256):bits .and .u8 ((y:Int) / 2 ^ r) 1=((y / 2 ^ r % 2:Nat):Int):=by
 have h:=u8_and_nat (y / 2 ^ r) 1 (Nat.lt_of_le_of_lt (Nat.div_le_self _ _) hy) (by decide);rw[nat_mask1] at h;rw[<- h,Int.natCast_ediv,Int.natCast_pow];rfl
theorem Tryz.elI5:ElT Tryz.prog 78 3 (.int .i64 0) 1 8:=⟨Tryz.underlying78,by kernel_rfl,rfl,by decide,by decide⟩
theorem Tryz.mapSize:(Tryz.prog.info? 173).map (·.size)=some 3:=by kernel_rfl
theorem zGb{F:NP}{ad:Nat->Addr}{w:World}(hL:zZ F ad w)(p:zX)(bv:Value)(hb:Sl F w 1 zM bv p.body)(h1:4<=p.body.length)(h2:yE p.body 0 4<=256)(h3:p.body.length<=100000)(_hg:p.gen<18446744073709551616) :
  Calls Tryz.prog 296 #[yH p bv] w λe w'=>∃uv,e=.returned (zAM (zDg p) uv)/\yA (λ_=>False) w' w.heap.size 3 1 yX uv (zV (zDg p))/\(zV (zDg p)).length<=256/\zF w w':=by
 have HB:Hid (∀w',zF w w'->Sl F w' 1 zM bv p.body):=oh (λw' m=>hb.ext m);have HL:Hid (∀w',zF w w'->zZ F ad w'):=oh (λw' m=>hL.mods m.ext);clear hL;have HT:Hid (qQ p.body ((0:Nat):Int) 4=(yE p.body 0 4,none)):=oh (zBj _ _ _ (by omega));have HSM:=oh (zE9 p h1 h2);have HUI:Hid (zV (zDg p)=zDE p.body (yE p.body 0 4)):=oh (by rw[HSM.out];rfl);have HMV:Hid (∀uv,zAM (zDg p) uv=.agg #[.int .u64 (p.gen:Int),.int .i64 (yE p.body 0 4:Int),uv]):=oh (λuv=>by rw[HSM.out];rfl);obtain⟨pa,pc,rfl,i1,i2,i3, -⟩:=hb;unfold maxLen at i2;have HP:Hid (∀bv,yH p bv=.agg #[.int .i64 p.kind,.int .i64 p.id,.int .u64 (p.gen:Int),bv]):=oh (λbv=>rfl);rw[HP.out];obtain⟨bl,hbl⟩:∃n,n=p.body.length:=⟨_,rfl⟩;obtain⟨K,hK⟩:∃I,I=p.kind:=⟨_,rfl⟩;obtain⟨I,hI⟩:∃I,I=p.id:=⟨_,rfl⟩;obtain⟨g,hgg⟩:∃g,g=p.gen:=⟨_,rfl⟩;obtain⟨n,hn⟩:∃n,n=yE p.body 0 4:=⟨_,rfl⟩;have HBL:=oh hbl;rw[<- hbl,<- hK,<- hI,<- hgg];rw[<- hbl] at HB h1 h3 i1 i3;rw[<- hgg] at HMV;rw[<- hn] at HT HUI HMV h2;clear hbl hK hI hgg hn HP HSM;obtain⟨W0,hW0⟩:∃W0,W0=(w.alloc (.cells #[.int .i64 K,.int .i64 I,.int .u64 (g:Int),.slice pa bl pc] 272)).alloc (.cells #[.int .u64 0,.int .i64 0,.slice none 0 0] 173):=⟨_,rfl⟩;have hM0:zF w W0:=by rw[hW0];exact ((zss w).alloc _).alloc _
 have hBX:zJ W0 w.heap.size #[.int .i64 K,.int .i64 I,.int .u64 (g:Int),.slice pa bl pc] 272:=by rw[hW0];exact (zJ.new w _ _).alloc _
 have hBR:zJ W0 (w.heap.size+1) #[.int .u64 0,.int .i64 0,.slice none 0 0] 173:=by rw[hW0];exact zU (by simp)
 have hsz:W0.heap.size=w.heap.size+2:=by rw[hW0];simp
 have TA:=zBk (HL.out _ hM0) _ p.body (HB.out _ hM0) 0 4 n (by decide) HT.out;rw[show ((0:Nat):Int)=0 from rfl,show ((4:Nat):Int)=4 from rfl] at TA;have TA:=oh TA;have HM0:=oh hM0;have HX0:=oh hBX;have HR0:=oh hBR;clear hM0 hBX hBR
 go_enter Tryz.func296, Tryz.ntmps296
 go_wp2_with fail;rw[<- hW0];refine TA.out.mono ?_;rintro e w1 ⟨rfl,m1⟩;have hX1:=HX0.out.ext m1;have hR1:=HR0.out.ext m1;have hM1:=HM0.out.trans m1;have hs1:w.heap.size+2<=w1.heap.size:=by have:=m1.size;omega
 have x2:=hX1.k 2 rfl;have HX1:=oh hX1;have HR1:=oh hR1;have HM1:=oh hM1;have hgt:¬ (256:Int)<(n:Int):=by omega
 clear hX1 hR1 hM1 m1 hW0 TA;go_wp2_with fail;obtain⟨W2,hW2⟩:∃W,W=w1.alloc (.cells #[.int .u64 (g:Int),.int .i64 (n:Int),.slice none 0 0] 173):=⟨_,rfl⟩;have m2:zF w1 W2:=by rw[hW2];exact (zss w1).alloc _
 have hY2:zJ W2 w1.heap.size #[.int .u64 (g:Int),.int .i64 (n:Int),.slice none 0 0] 173:=by rw[hW2];exact zJ.new w1 _ _
 have hs2:W2.heap.size=w1.heap.size+1:=by rw[hW2];simp
 rw[<- hW2];obtain⟨Y,hY⟩:∃Y,Y=w1.heap.size:=⟨_,rfl⟩;rw[<- hY] at hY2 hs1 hs2 ⊢;have HX2:=oh (HX1.out.ext m2);have HR2:=oh (HR1.out.ext m2);have HM2:=oh (HM1.out.trans m2);have HY2:=oh hY2;have hXY:w.heap.size<Y:=by omega
 have hRY:w.heap.size+1<Y:=by omega
 have HXY:=oh hXY;have HS2:=oh hs2;have HS1:=oh hs1;clear hW2 m2 hY2 hY x2 HX1 HR1 HM1 HX0 HR0 HM0 hsz hs2;go_loopg [28] n (λr v28 wr=>∃(k:Nat) (uv:Value),k+r=n/\v28=.int .i64 k/\Hid (zF w wr/\zJ wr w.heap.size #[.int .i64 K,.int .i64 I,.int .u64 (g:Int),.slice pa bl pc] 272 /\ zJ wr (w.heap.size+1) #[.int .u64 0,.int .i64 0,.slice none 0 0] 173 /\ zJ wr Y #[.int .u64 (g:Int),.int .i64 (n:Int),uv] 173 /\ yA (λ_=>False) wr (Y+1) 3 1 yX uv (zDE p.body k)))
 case atStart=>exact⟨0,_,by omega,rfl,oh ⟨HM2.out,HX2.out,HR2.out,HY2.out,yA.nil _ _ _ _ _ _⟩⟩
 case round =>
  clear HX2 HR2 HM2 HY2;obtain⟨k,uv,hk,rfl,HW⟩:=hrel;obtain⟨hM,hX,hR,hY,hO⟩:=HW.out;have y2:=hY.k 2 rfl;have x3:=hX.k 3 rfl;have yf:=hY.frozen;have hz:=hY.lt;obtain⟨ua,uc,huv, -, -⟩:=_root_.id hO.form;obtain⟨ul,hul⟩:∃ul,ul=(zDE p.body k).length:=⟨_,rfl⟩;have HUL:=oh hul;have hulk:ul<=k:=by rw[hul];exact zFL _ _
  rw[<- hul] at huv;have HU:=oh (zHP p.body k);by_cases hlt:k<n
  .obtain⟨q,hq⟩:∃q,q=k / 8:=⟨_,rfl⟩;obtain⟨r,hr⟩:∃r,r=k % 8:=⟨_,rfl⟩;have t1:(k:Int) / 8=(q:Int):=by omega
   have t2:(k:Int).tdiv 8=(q:Int):=by rw[Int.tdiv_eq_ediv_of_nonneg (by omega)];exact t1
   have t3:(k:Int) % 8=(r:Int):=by omega
   have t4:(k:Int).tmod 8=(r:Int):=by rw[tM (by omega)];exact t3
   have hr8:r<8:=by omega
   have HBI:Hid (zDD p.body k=(decide (8+q<bl) && (p.body.getD (8+q) 0).toNat.testBit r)):=oh (by unfold zDD;rw[<- hq,<- hr,<- HBL.out]);by_cases hin:8+q<bl
   .have hinI:8+(q:Int)<(bl:Int):=by omega
    have i8:(0:Int)<=8+(q:Int):=by omega
    obtain⟨y,hy⟩:∃y,p.body[8+q]? = some y:=⟨_,uA (by rw[<- HBL.out];exact hin)⟩;have hyD:p.body.getD (8+q) 0=y:=by simp[List.getD,hy]
    obtain⟨qb,qoff,hqa,hc⟩:=(HB.out _ hM).elemF (k:=8+q) (by rw[<- HBL.out];exact hin);have d0:=hc.2 0 (.int .u8 (y.toNat:Int)) (by
     obtain⟨e1,e2⟩:=uB.1 hy;rw[e2];rfl)
    simp only[uS,uY] at d0;have hy8:=y.toNat_lt;have ha1:=zMD y.toNat r hy8;obtain⟨bz,hbz⟩:∃z,z=y.toNat / 2 ^ r % 2:=⟨_,rfl⟩;have hbz2:bz=0\/bz=1:=by omega
    rw[<- hbz] at ha1;have HBT:Hid (zDD p.body k=decide (bz=1)):=oh (by rw[HBI.out,hyD,zKo,<- hbz];simp[hin]);subst hqa;clear hc hyD hy hq hr hbz HBI;rcases hbz2 with rfl|rfl
    .go_wp2_with fail;go_roundg (gk-1)
     case measure=>omega
     case rel=>exact⟨k+1,uv,by omega,by go_num,oh (by rw[HU.out,if_neg (by rw[HBT.out];simp),wB];exact HW.out)⟩
    .subst huv;have HOW:=oh (hO.ext ((zss wr).alloc (.cells #[.int .i64 (k:Int)] 3)));have HOL:=oh hO.lt;have hsz:Y+1<=wr.heap.size:=by omega
     have HSZ:=oh hsz;clear hO hul;go_wp2_with (first
      | (at_builtin;refine vY Tryz.elI5 zAY rfl _ _ rfl (Y+1) (.slice ua ul uc) (.slice (some ⟨wr.heap.size,0,none⟩) 1 1) (zDE p.body k) [(k:Int)] rfl rfl HOW.out (Sl.one (F:=λ_=>False) (x:=(k:Int)) (t := 3) (fz:=(0,0)) (zU rfl) (λf=>f)) (by rw[<- HUL.out];simp only[uG,uK];omega) (uQ HSZ.out (by simp)) (λf=>f) ?_;intro a' c' w4 hown4 hmod4 hat4;rw[<- HUL.out] at hown4 ⊢;simp only[uG,uK,uZ] at hown4 ⊢;have HO4:=oh hown4;have HM4:=oh (zA.mono hmod4 (λj hj=>(HOL.out j hj).1));clear hown4 hmod4 hat4;have hY4:=(((HW.out.2.2.2.1).alloc (.cells #[.int .i64 (k:Int)] 3)).mods HM4.out (by omega));have y4:=hY4.d 2 (.slice ua ul uc) rfl;have yf4:=hY4.frozen;have HY4:=oh hY4;clear hY4)
      | fail)
     go_roundg (gk-1)
     case measure=>omega
     case rel =>
      have HMS:zA (λj=>j=Y) w4 (w4.setCell ⟨Y,2,none⟩ (.slice a' (ul+1) c')):=zA.setCell (F:=λj=>j=Y) (zss w4) (p:=⟨Y,2,none⟩) (.inr rfl) _;refine⟨k+1,.slice a' (ul+1) c',by omega,by go_num,oh ⟨?_,?_,?_,?_,?_⟩⟩
      .exact ((HW.out.1.alloc _).trans' HM4.out (λi hi h=>by have h':Y+1<=i:=h;have:=HXY.out;omega)).setCell (.inl (show w.heap.size<=Y by omega)) _
      .exact ((HW.out.2.1.alloc _).mods HM4.out (by omega)).set_other (by simp;omega) _
      .exact ((HW.out.2.2.1.alloc _).mods HM4.out (by omega)).set_other (by simp;omega) _
      .simpa using HY4.out.set 2 (.slice a' (ul+1) c')
      .rw[HU.out,if_pos (by rw[HBT.out];simp)];exact HO4.out.mods HMS (λj hj h=>by have:=(HO4.out.lt j hj).1;omega)
   .have hinI:¬ 8+(q:Int)<(bl:Int):=by omega
    have HBT:Hid (zDD p.body k=false):=oh (by rw[HBI.out];simp[hin]);clear hq hr HBI;go_wp2_with fail;go_roundg (gk-1)
    case measure=>omega
    case rel=>exact⟨k+1,uv,by omega,by go_num,oh (by rw[HU.out,if_neg (by rw[HBT.out];simp),wB];exact HW.out)⟩
  .obtain rfl:k=n:=by omega
   subst huv;have y0:=hY.k 0 rfl;have y1:=hY.k 1 rfl;have r0:=hR.k 0 rfl;have r1:=hR.k 1 rfl;have r2:=hR.k 2 rfl;have rf:=hR.frozen;clear hO hM hX x3 hul;go_wp2_with fail;have HRB:Hid (zJ (((wr.setCell ⟨w.heap.size+1,0,none⟩ (.int .u64 (g:Int))).setCell ⟨w.heap.size+1,1,none⟩ (.int .i64 (k:Int))).setCell ⟨w.heap.size+1,2,none⟩ (.slice ua ul uc)) (w.heap.size+1) #[.int .u64 (g:Int),.int .i64 (k:Int),.slice ua ul uc] 173):=oh (by simpa using ((hR.set 0 (.int .u64 (g:Int))).set 1 (.int .i64 (k:Int))).set 2 (.slice ua ul uc));have hMR:zA (λj=>j=w.heap.size+1) wr (((wr.setCell ⟨w.heap.size+1,0,none⟩ (.int .u64 (g:Int))).setCell ⟨w.heap.size+1,1,none⟩ (.int .i64 (k:Int))).setCell ⟨w.heap.size+1,2,none⟩ (.slice ua ul uc)):=zA.setCell (F:=λj=>j=w.heap.size+1) (zA.setCell (F:=λj=>j=w.heap.size+1) (zA.setCell (F:=λj=>j=w.heap.size+1) (zss wr) (p:=⟨w.heap.size+1,0,none⟩) (.inr rfl) _) (p:=⟨w.heap.size+1,1,none⟩) (.inr rfl) _) (p:=⟨w.heap.size+1,2,none⟩) (.inr rfl) _;have HMR:=oh hMR;refine bodyPost_ret (results_cell_row rfl _ _ (w.heap.size+1) 173 #[.int .u64 (g:Int),.int .i64 (k:Int),.slice ua ul uc] (0,0) _ rfl HRB.out Tryz.underlying173 rfl Tryz.mapSize) rfl ?_;have hO:=HW.out.2.2.2.2;refine⟨.slice ua ul uc,by rw[HMV.out],?_,by rw[HUI.out];have:=zFL p.body k;omega,HW.out.1.trans' HMR.out (λi hi h=>by omega)⟩;rw[HUI.out];exact (hO.mods HMR.out (λj hj h=>by have:=(hO.lt j hj).1;omega)).rebase (by omega)
end
section
open Go.RowKit
theorem zGc{P:Program}{w:World}{t u e:TypeId}(T:ElT P t e (.int .u8 0) 1 1)(hu:P.underlying u=some .string)
  {ops:Array Oper} {rest:List Oper} {o:Oper} {a:Act} {Q:Exit->Act->World->Prop} (hgd:o.guard=none) (sx x:Operand)
  (ho:o.op=.call { callee:=.builtin .append,args:=#[sx,x],argTypes:=#[t,u] })
  (base:Nat) (v:Value) (l:List UInt8) (s:ByteArray) (hv:a.eval sx=v) (hx:a.eval x=.string s) (hown:yA (λ_=>False) w base e 1 zM v l) (hb:l.length+s.size<=140737488355328) (hbase:base<=w.heap.size)
  (h:∀a' c' w',yA (λ_=>False) w' base e 1 zM (.slice a' (l.length+s.size) c') (l++s.data.toList)->w.grownBy w' v.ownBlock->wpList P ops Q rest (a.put o.dst (.slice a' (l.length+s.size) c')) w') :
  wpList P ops Q (o :: rest) a w:=by
 refine wpList_plain hgd λK hK=>?_
 obtain⟨i,hi,hz,hs1,hb1⟩:=zC7 T.info;obtain⟨v',w',hr,h2,h3,_⟩:=Go.Lib.run_append_own_string (P:=P) (w:=w) base t u o.type e i T.under hu hi hz hs1 hb1 v l.length _ hown.1 s (by simp only[maxLen];omega) hb hbase;have hO:yA (λ_=>False) w' base e 1 zM v' (l++s.data.toList):=⟨by
  rw[uC,zCC,tE,<- zFq];exact h2,λ_ _ f=>f⟩
 obtain⟨a',c',hvv,_⟩:=hO.form;rw[uC,zCC] at hvv;subst hvv;unfold Oper.wp execOp;simp only[ho,resolve,invoke,builtin,Sem.run_bind,Sem.run_pure,Result.andThen_ok,rN,tP,List.map_nil,hv,hx,hr];exact hK _ _ (h a' c' w' hO h3)
structure WrR(base:Nat)(w:World)(B:Nat)(l:List UInt8):Prop where
 box:∃a c,zJ w B #[.slice a l.length c,.nilIface] 474 /\ yA (λ_=>False) w base 5 1 zM (.slice a l.length c) l
 ge:base<=B
def WFr(B:Nat)(w w':World):Prop:=∀(b:Nat) (c:Array Value) (t:TypeId),b≠B->t ≠ 5 -> zJ w b c t->zJ w' b c t
section
variable {F:NP}{ad:Nat->Addr}{w w':World}{base B:Nat}{l:List UInt8}
theorem yA.notB{e t:TypeId}{α:Type}{F:NP}{enc:α->List Value}{sz:Nat}{v:Value}{x:List α}{B:Nat}{c:Array Value}(h:yA F w base e sz enc v x)(hB:zJ w B c t)(ht:t≠e):∀g,v.ownBlock=some g->g≠B:=by
 intro g hg he;subst he;rcases h.1.2 with ⟨rfl,_⟩|⟨g',cap,cur,rfl,hbg,hg',_⟩
 .simp[Value.ownBlock] at hg
 .simp[Value.ownBlock] at hg;subst hg;unfold zJ at hB;rw[hg'] at hB;injection hB with hB;injection hB with h1 h2;exact ht h2.symm
theorem zGd(hL:zZ F ad w)(hF:∀k,F k->k<base)(h:WrR base w B l)(n W:Nat)(hW:W=1\/W=2\/W=4)(hn:n<256 ^ W)(hlen:l.length<=100000) :
  Calls Tryz.prog 338 #[.pointer (some ⟨B,0,none⟩),.int .i64 (n:Int),.int .i64 (W:Int)] w λe w'=>e=.returned (.tuple #[])/\WrR base w' B (l++zP W n)/\zA (λk=>base<=k) w w'/\WFr B w w':=by
 obtain⟨⟨a,c,hB,hO⟩,hge⟩:=h;have hn2:n<4294967296:=by
  rcases hW with rfl|rfl|rfl <;> simp at hn <;> omega
 have b0:=hB.d 0 (.slice a l.length c) rfl;have b1:=hB.d 1 .nilIface rfl;have HSL:Hid (Sl F w 1 zM (.slice a l.length c) l):=oh (yA.sl (F:=F) ⟨hO.1,λg hg f=>by have:=hO.lt g hg;have:=hF g f;omega⟩ qJ.len (by omega));have HB:=oh hB;have HL:=oh hL;have HN:=oh hn;have HW:=oh hW;have HBL:=oh hB.lt;clear hB hO hL hF hn hW
 go_enter Tryz.func338, Tryz.ntmps338
 go_wp2_with fail;refine (jU HL.out _ l HSL.out n W (by have:=HW.out;omega) HN.out (uQ hlen (by omega))).mono ?_;rintro e w1 ⟨a1,c1,rfl,hO1,hm1⟩;have hB1:=HB.out.ext hm1;have f0:=hB1.frozen 0;have f1:=hB1.frozen 1;have z0:=hB1.k 0 rfl;have z1:=hB1.k 1 rfl;have HB1:=oh hB1;have hsz:=hm1.size;have HM:Hid (zA (λk=>base<=k) w ((w1.setCell ⟨B,0,none⟩ (.slice a1 (l.length+W) c1)).setCell ⟨B,1,none⟩ .nilIface)):=oh ((hm1.ext.setCell (p:=⟨B,0,none⟩) (.inr hge) _).setCell (p:=⟨B,1,none⟩) (.inr hge) _);have HO1:Hid (yA (λ_=>False) ((w1.setCell ⟨B,0,none⟩ (.slice a1 (l.length+W) c1)).setCell ⟨B,1,none⟩ .nilIface) base 5 1 zM (.slice a1 (l.length+W) c1) (l++zP W n)):=oh (by
  have h1:yA (λ_=>False) w1 base 5 1 zM (.slice a1 (l.length+W) c1) (l++zP W n):=yA.rebase ⟨hO1.1,λ_ _ f=>f⟩ (by have:=HBL.out;omega);exact h1.mods (((zA.refl (λk=>k=B) w1).setCell (F:=λk=>k=B) (p:=⟨B,0,none⟩) (.inr rfl) _).setCell (F:=λk=>k=B) (p:=⟨B,1,none⟩) (.inr rfl) _) (λg hg=>yA.notB h1 hB1 (by decide) g hg))
 have HFR:Hid (WFr B w ((w1.setCell ⟨B,0,none⟩ (.slice a1 (l.length+W) c1)).setCell ⟨B,1,none⟩ .nilIface)):=oh (λb c t h1 _ h3=>((h3.ext hm1).set_other (p:=⟨B,0,none⟩) h1 _).set_other (p:=⟨B,1,none⟩) h1 _);clear hm1 hB1 hO1;go_wp2_with fail;go_end0
 exact⟨rfl,⟨⟨a1,c1,by rw[uC,zC];exact (HB1.out.set 0 _).set 1 _,by rw[uC,zC];exact HO1.out⟩,hge⟩,HM.out,HFR.out⟩
theorem zIl(hL:zZ F ad w)(hF:∀k,F k->k<base)(h:WrR base w B l)(s:ByteArray)(hs:s.size<256)(hlen:l.length<=100000) :
  Calls Tryz.prog 339 #[.pointer (some ⟨B,0,none⟩),.string s] w λe w'=>e=.returned (.tuple #[])/\WrR base w' B (l++yT s)/\zA (λk=>base<=k) w w'/\WFr B w w':=by
 have HL:=oh hL;have HF:=oh hF;have HH:=oh h;have HW0:=oh h.box;clear hL hF h
 go_enter Tryz.func339, Tryz.ntmps339
 go_wp2_with fail;refine (zGd HL.out HF.out HH.out s.size 1 (.inl rfl) (by simpa using hs) hlen).mono ?_;rintro e w1 ⟨rfl,hR,hm,hfr⟩;have HFR:=oh hfr;clear hfr;obtain⟨⟨a,c,hB,hO⟩,hge⟩:=hR;have hbb:=hB.lt;have hll:(l++zP 1 s.size).length=l.length+1:=by rw[uC,zC]
 have HB:=oh hB;have HO:=oh hO;have HM:=oh hm;have HLL:=oh hll;generalize hq:l++zP 1 s.size=q at *
 have HQ:=oh hq;clear hB hO hm hll hq;have b0:=HB.out.d 0 (.slice a q.length c) rfl;have f0:=HB.out.frozen 0;go_wp2_with (at_builtin;refine zGc Tryz.elB Tryz.underlying9 rfl _ _ rfl base _ q s rfl rfl HO.out (by rw[HLL.out];omega) (by omega) ?_;intro a2 c2 w2 hO2 hg2;have hgm:=zA.of_grown hg2;have hB2:zJ w2 B #[.slice a q.length c,.nilIface] 474:=HB.out.mods hgm (λe=>yA.notB HO.out HB.out (by decide) B e rfl);have z0:=hB2.d 0 (.slice a q.length c) rfl;have zf:=hB2.frozen 0);have HB2:=oh hB2;have HM2:Hid (zA (λk=>base<=k) w (w2.setCell ⟨B,0,none⟩ (.slice a2 (q.length+s.size) c2))):=oh (((HM.out.trans (hgm.mono (λk hk=>(HO.out.lt k hk).1)))).setCell (p:=⟨B,0,none⟩) (.inr hge) _);have HO2:Hid (yA (λ_=>False) (w2.setCell ⟨B,0,none⟩ (.slice a2 (q.length+s.size) c2)) base 5 1 zM (.slice a2 (q.length+s.size) c2) (q++s.data.toList)):=oh
  (hO2.mods ((zss w2).setCell (F:=λk=>k=B) (p:=⟨B,0,none⟩) (.inr rfl) _) (λg hg=>yA.notB hO2 hB2 (by decide) g hg))
 have HFR2:Hid (WFr B w (w2.setCell ⟨B,0,none⟩ (.slice a2 (q.length+s.size) c2))):=oh (λb c t h1 h2 h3=>((HFR.out b c t h1 h2 h3).mods hgm (λe=>yA.notB HO.out (HFR.out b c t h1 h2 h3) h2 b e rfl)).set_other (p:=⟨B,0,none⟩) h1 _);clear hB2 hO2 hg2 hgm;go_end0
 have e1:l++yT s=q++s.data.toList:=by rw[<- HQ.out];unfold yT;rw[uN]
 have e2:(q++s.data.toList).length=q.length+s.size:=by rw[uC,zCC]
 exact⟨rfl,⟨⟨a2,c2,by rw[e1,e2];exact HB2.out.set 0 _,by rw[e1,e2];exact HO2.out⟩,hge⟩,HM2.out,HFR2.out⟩
end
theorem zAT(s:ByteArray):(yT s).length=1+s.size:=by
 unfold yT;rw[uC,zC,tD];rfl
theorem zHQ{e:zS}(h:vI e=true):(qY e).length<=59:=by
 unfold vI at h;simp only[uF] at h;have hk:=(zAz e.key).1 h.1;have h2:=h.2;unfold qY;rw[uC,zAT];by_cases hc:e.chain=0
 .rw[if_pos hc] at h2 ⊢;simp only[uF,uM] at h2;rw[uC,zC,zAT];omega
 .rw[if_neg hc];simp only[uC,zC];omega
theorem zEV{α:Type}(g:α->List UInt8)(M:Nat):∀(l:List α),(∀x∈l,(g x).length<=M)->(l.flatMap g).length<=M * l.length
 | [],_=>by simp
 | x :: l,h=>by
  have h1:=zEV g M l (λy hy=>h y (uJ _ hy));have h2:=h x uH;rw[wG,uC,uG,Nat.mul_succ];omega
theorem zHR{p:ByteArray × Int}(h:zAK p.1=true):(vW p).length<=37:=by
 have hk:=(zAz p.1).1 h;unfold vW;rw[uC,zAT,zC];omega
end
end Go.Proofs.YtgphfebjjedeaaaGreatDoor
