import Derived.Test.YteabpacpngaoaaaGreatDoorC21
namespace Go.Proofs.YteabpacpngaoaaaGreatDoor
open Lib renaming hid->oh
set_option maxHeartbeats 1000000
set_option maxRecDepth 100000
section
open Go.RowKit
attribute [local go_sem ↓] Go.wp_at_zero Go.wp_at_succ
theorem zPe(b s:Nat)(h1:8<=b)(h2:b<=256)(h3:256<=s)(h4:s<=1024)(w:World) :
  Calls Tryz.prog 42 #[.agg #[.int .i64 (b:Int),.int .i64 (s:Int)]] w λe w'=>e=.returned (.bool true)/\zF w w':=by
 have a1:decide ((8:Int)<=(b:Int))=true:=by simp;omega
 have a2:decide ((b:Int)<=256)=true:=by simp;omega
 have a3:decide ((256:Int)<=(s:Int))=true:=by simp;omega
 have a4:decide ((s:Int)<=1024)=true:=by simp;omega
 clear h1 h2 h3 h4
 go_enter Tryz.func42, Tryz.ntmps42
 go_wp2
 go_ret;exact⟨rfl,(zA.refl _ _).alloc _⟩
def zKp(size:Nat)(g:Nat):List Value:=[zAL size g]
theorem zQi(size:Nat):zCh (zKp size) 1:=⟨λ_=>rfl,by intro x u hu;simp[zKp,zAL] at hu;subst hu;rfl⟩
theorem Tryz.elR:ElT Tryz.prog 64 87 (.slice none 0 0) 1 24:=⟨Tryz.underlying64,by kernel_rfl,rfl,by decide,by decide⟩
section
variable {F:Nat->Prop}{ad:Nat->Addr}{w w':World}
def zOB(w:World)(B0 B1 b s:Nat)(wr:World)(gs:List Nat)(v:Value):Prop :=
 zF w wr/\B1<wr.heap.size/\zH wr B0 #[.int .i64 (b:Int),.int .i64 (s:Int)] 24 /\ zH wr B1 #[.int .i64 (b:Int),.int .i64 (s:Int),v,.slice none 0 0,.bool false,.int .i64 0,.int .i64 0,.int .i64 0,.slice none 0 0,.bool false,.int .i64 0] 102 /\
   yC (λx=>x∈B0 :: B1 :: gs) wr B0 87 1 (zKp s) v gs/\(B0 :: B1 :: gs).Nodup/\∀g,g∈gs->B1<g/\zH wr g (yW (List.replicate s 0)) 5
theorem zKq(s:Nat):yW (List.replicate s 0)=Array.replicate s (.int .u8 0):=by
 rw[yW,List.map_replicate,List.toArray_replicate];rfl
theorem zOB.step{B0 B1 b s:Nat}{wr w4:World}{gs:List Nat}{v v':Value}(h:zOB w B0 B1 b s wr gs v)(hw:w.heap.size<=B0)(hB:B0<B1)
  (hown:yC (λx=>x∈B0 :: B1 :: gs) w4 B0 87 1 (zKp s) v' (gs++[wr.heap.size])) (hgrow:((wr.drew.alloc (.cells (Array.replicate s (.int .u8 0)) 5)).alloc (.cells #[.slice (some ⟨wr.heap.size,0,none⟩) s s] 87)).grownBy w4 v.ownBlock)
  (hat:v'.ownBlock=v.ownBlock\/v'.ownBlock=some (wr.heap.size+2)):zOB w B0 B1 b s (w4.setCell ⟨B1,2,none⟩ v') (gs++[wr.heap.size]) v':=by
 obtain⟨h1,h2,h3,h4,h6,h7,h8⟩:=h;have mg:=zA.of_grown hgrow;have m0:zF wr ((wr.drew.alloc (.cells (Array.replicate s (.int .u8 0)) 5)).alloc (.cells #[.slice (some ⟨wr.heap.size,0,none⟩) s s] 87)):=((zA.refl _ wr).drew.alloc _).alloc _;have e1:((wr.drew.alloc (.cells (Array.replicate s (.int .u8 0)) 5)).alloc (.cells #[.slice (some ⟨wr.heap.size,0,none⟩) s s] 87)).heap.size=wr.heap.size+2:=by simp
 have hsz:=mg.size;rw[e1] at hsz;have e3:wr.drew.heap.size=wr.heap.size:=rfl;have mA:zA (λx=>v.ownBlock=some x) wr w4:=m0.ext.trans mg;have hv0:∀x,v.ownBlock=some x->w.heap.size<=x/\x<wr.heap.size:=λx hx=>by have:=h6.lt x hx;omega
 have hvn:∀x,x∈B0 :: B1 :: gs->¬ v.ownBlock=some x:=λx hx e=>h6.2 x e hx
 have hlt:∀x,x∈B0 :: B1 :: gs->x<wr.heap.size:=λx hx=>by
  simp only[List.mem_cons] at hx;rcases hx with rfl|rfl|hx
  .exact h3.lt
  .exact h4.lt
  .exact (h8 x hx).2.lt
 have far:∀(x:Nat) (c:Array Value) (t:TypeId),x∈B0 :: B1 :: gs->x≠B1->zH wr x c t->zH (w4.setCell ⟨B1,2,none⟩ v') x c t:=λx c t hx hne hb=>(hb.mods mA (hvn x hx)).set_other hne _
 have hmem:∀x,x∈B0 :: B1 :: (gs++[wr.heap.size])->x∈B0 :: B1 :: gs\/x=wr.heap.size:=λx hx=>by
  simp only[List.mem_cons,List.mem_append,List.not_mem_nil,or_false] at hx ⊢;rcases hx with h|h|h|h <;> simp[h]
 have hnew:zH (w4.setCell ⟨B1,2,none⟩ v') wr.heap.size (yW (List.replicate s 0)) 5:=by
  rw[zKq];exact (((zH.new wr.drew _ _).alloc _).mods mg (λe=>by have:=hv0 _ e;omega)).set_other (by simp only;omega) _
 refine⟨(h1.trans' mA (λi hi e=>by have:=(hv0 i e).1;omega)).setCell (.inl (by simp only;omega)) _,?_,far B0 _ _ List.mem_cons_self (by omega) h3,?_,?_,?_,λg hg=>?_⟩
 .simp only[World.setCell,Array.size_modify];omega
 .have:=(h4.mods mA (hvn B1 (List.mem_cons_of_mem _ List.mem_cons_self))).set 2 v';simpa using this
 .have hno:∀x,v'.ownBlock=some x->x≠B1:=λx hx e=>hown.2 x hx (e ▸ List.mem_cons_of_mem _ List.mem_cons_self)
  have k1:=hown.mods (zA.at (λx=>x=B1) w4 B1 2 v' rfl) hno;refine⟨k1.1,λx hx hm=>?_⟩;rcases hmem x hm with hm|rfl
  .exact k1.2 x hx hm
  .rcases hat with e|e
   .have:=(hv0 _ (e ▸ hx)).2;omega
   .rw[e] at hx;injection hx with hx;omega
 .have e:B0 :: B1 :: (gs++[wr.heap.size])=(B0 :: B1 :: gs)++[wr.heap.size]:=by simp
  rw[e,List.nodup_append];exact⟨h7,by simp,λx hx y hy e=>by have:=hlt x hx;simp at hy;omega⟩
 .rw[List.mem_append] at hg;rcases hg with hg|hg
  .exact⟨(h8 g hg).1,far g _ _ (List.mem_cons_of_mem _ (List.mem_cons_of_mem _ hg)) (λe=>by have:=(h8 g hg).1;omega) (h8 g hg).2⟩
  .simp at hg;subst hg;exact⟨h2,hnew⟩
theorem zKr(s:Nat):∀gs:List Nat,gs.map (zAL s)=gs.flatMap (zKp s)
 | []=>rfl
 | x :: r=>by rw[List.map_cons,List.flatMap_cons,zKr s r];rfl
theorem zOB.disk{B0 B1 b s:Nat}{wr:World}{gs:List Nat}{cap:Nat}{a:Option Addr}(h:zOB w B0 B1 b s wr gs (.slice a b cap))(hl:gs.length=b)(hw:w.heap.size<=B0)(hB:B0<B1)(h1:8<=b)(h2:b<=256)(h3:256<=s)(h4:s<=1024) :
  ∃P,jT wr P B1 (jK b s)/\∀k,P k->w.heap.size<=k:=by
 obtain⟨k1,k2,k3,k4,k6,k7,k8⟩:=h;rcases k6.1.2 with ⟨e,_⟩|⟨bl,cap',cur,e,hb,hblk,hc,hm,hs,ht⟩
 .cases e;omega
 .simp only[Value.slice.injEq] at e;obtain⟨rfl,_,rfl⟩:=e;have hnb:=k6.2 bl rfl;simp only[List.mem_cons,not_or] at hnb;have hnd:=(List.nodup_cons.1 k7).2;unfold maxLen at hm;refine⟨dkF B1 bl gs [] (.slice none 0 0) (.slice none 0 0),⟨bl,gs,[],.slice none 0 0,.slice none 0 0,⟨⟨cap,by show b<=cap;omega,by omega,k4,cur.toList.drop gs.length,?_,?_⟩,hl,by simp[jK],rfl,yC.nil _ _ _ _ _ _,λg hg=>by simp[Value.ownBlock] at hg,by simp[jK],yC.nil _ _ _ _ _ _,
   λi g b' hg hb'=>?_,λi g p hg=>by simp at hg,?_,h1,h2,h3,h4,by simp[jK]⟩,λk=>Iff.rfl⟩,λk hk=>?_⟩
  .have e2:(gs.map (zAL (jK b s).size)++cur.toList.drop gs.length).toArray=cur:=by
    have:gs.map (zAL (jK b s).size)=cur.toList.take gs.length:=by
     have h5:cur.toList.take (gs.length * 1)=gs.flatMap (zKp s):=by simpa using ht
     rw[Nat.mul_one] at h5;rw[h5];exact zKr s gs
    rw[this,List.take_append_drop,Array.toArray_toList]
   rw[e2];exact hblk
  .simp;omega
  .rw[show (jK b s).lasting=List.replicate b (List.replicate s 0) by rfl,List.getElem?_replicate] at hb';split at hb'
   .injection hb' with hb';subst hb';exact⟨by simp[jK],(k8 g (List.mem_of_getElem? hg)).2⟩
   .cases hb'
  .rw[List.append_nil,List.nodup_cons,List.nodup_cons];refine⟨?_,hnb.2.2,(List.nodup_cons.1 hnd).2⟩;rw[List.mem_cons];rintro (e|e)
   .exact hnb.2.1 e.symm
   .exact (List.nodup_cons.1 hnd).1 e
  .have hB1:w.heap.size<=B1:=by omega
   rcases hk with hk|hk|hk
   .simp only[List.append_nil,List.mem_cons] at hk;rcases hk with rfl|rfl|hk
    .exact hB1
    .omega
    .have:=(k8 k hk).1;omega
   .simp[Value.ownBlock] at hk
   .simp[Value.ownBlock] at hk
theorem zKs(b s:Nat)(h1:8<=b)(h2:b<=256)(h3:256<=s)(h4:s<=1024) :
  Calls Tryz.prog 9 #[.agg #[.int .i64 (b:Int),.int .i64 (s:Int)]] w λe w'=>∃d P,e=.returned (.tuple #[.pointer (some ⟨d,0,none⟩),.nilIface])/\jT w' P d (jK b s)/\(∀k,P k->w.heap.size<=k)/\zF w w':=by
 have hmk:=zHS (P:=Tryz.prog) 87 5 (.int .u8 0) 1 Tryz.underlying87 Tryz.mkB rfl s (by omega) (by omega)
 go_enter Tryz.func9, Tryz.ntmps9
 go_wp2_with fail;refine (zPe b s h1 h2 h3 h4 _).mono ?_;rintro e w1 ⟨rfl,hm⟩;have k0:=(zH.new w #[.int .i64 (b:Int),.int .i64 (s:Int)] 24).ext hm;have c0:=k0.cell (o:=0) (v:=.int .i64 (b:Int)) rfl;have c1:=k0.cell (o:=1) (v:=.int .i64 (s:Int)) rfl;have HM:Hid (zF w w1):=oh (((zA.refl _ w).alloc _).trans hm);have HS:Hid (w.heap.size<w1.heap.size):=oh k0.lt;have K0:=oh k0;have hsz:=HS.out;clear k0 hm;go_wp2_with fail;go_loopg [15] b (λm i wr=>∃(cap:Nat) (gs:List Nat) (a:Option Addr),gs.length+m=b/\i=.int .i64 gs.length/\Hid (zOB w w.heap.size w1.heap.size b s wr gs (.slice a gs.length cap)))
 case atStart=>exact⟨0,[],none,by simp,rfl,oh ⟨HM.out.alloc _,by simp,K0.out.alloc _,zH.new w1 _ _,yC.nil _ _ _ _ _ _,by simp;omega,by simp⟩⟩
 case round =>
  obtain⟨cap,gs,a,hk,rfl,HW⟩:=hrel;obtain⟨hW1,hW2,hW3,hW4,hW6,hW7,hW8⟩:=HW.out;have d2:=hW4.cell (o:=2) (v:=.slice a gs.length cap) rfl;have f2:=hW4.frozen 2;have g0:=hW3.cell (o:=0) (v:=.int .i64 (b:Int)) rfl;have g1:=hW3.cell (o:=1) (v:=.int .i64 (s:Int)) rfl;have l0:=yH g0;have l1:=yH d2;have HO:Hid (yC (λx=>x∈w.heap.size :: w1.heap.size :: gs) wr.drew w.heap.size 87 1 (zKp s) (.slice a gs.length cap) gs):=oh (hW6.ext (zA.refl _ _).drew);have HLT:Hid (∀x,x∈w.heap.size :: w1.heap.size :: gs->x<wr.heap.size):=oh (λx hx=>by
   simp only[List.mem_cons] at hx;rcases hx with rfl|rfl|hx
   .exact l0
   .exact l1
   .exact (hW8 x hx).2.lt)
  have HDN:Hid (¬ (Value.slice a gs.length cap).ownBlock=some w1.heap.size):=oh (λe=>hW6.2 _ e (by simp));have HDB:Hid (w.heap.size<=wr.heap.size):=oh hW1.size;obtain⟨k,hkk⟩:∃k,k=gs.length:=⟨_,rfl⟩;have HGL:=oh hkk;have hmkd:∀x:Obj,((wr.alloc x).cell? ⟨w1.heap.size,2,none⟩=some (.slice a gs.length cap)/\(wr.alloc x).cell? ⟨w.heap.size,1,none⟩=some (.int .i64 (s:Int))):=λx=>⟨zM d2 x,zM g1 x⟩
  have hmkd2:∀x y:Obj,((wr.alloc x).alloc y).cell? ⟨w1.heap.size,2,none⟩=some (.slice a gs.length cap):=λx y=>zM (zM d2 x) y
  clear hW1 hW2 hW3 hW4 hW6 hW7 hW8 hkk;by_cases hlt:gs.length<b
  .go_wp2_with fail;go_region_law
    ((refine zHY (enc:=zKp s) (F:=λx=>x∈w.heap.size :: w1.heap.size :: gs) (G:=λ_=>False) Tryz.elR (zQi s) (by rfl) _ _ (by rfl) w.heap.size (.slice a gs.length cap) (.slice (some ⟨wr.heap.size+1,0,none⟩) 1 1) gs [wr.heap.size] (by rfl) (by rfl) (HO.out.ext (((zA.refl _ wr.drew).alloc _).alloc _)) (Sl.one (x:=wr.heap.size) (t := 87) (fz:=(0,0)) (zR (by simp)) (λf=>f)) (by simp;omega) (by have:=HDB.out;simp;omega) (λf=>by have:=HLT.out _ f;simp at this;omega) ?_;intro a' c' w4 hown hgrow hat;obtain⟨k4,k5⟩:=zI0 (zA.of_grown hgrow) (zI1 (zI1 (w:=wr.drew) ⟨d2,f2⟩ _) _) HDN.out))
   all_goals
    have HNX:=oh (HW.out.step (Nat.le_refl _) hsz hown hgrow (by simpa using hat));clear hown hgrow hat k4 k5;go_wp2_with fail;go_roundg (gk-1)
    case measure=>omega
    case rel=>exact⟨c',gs++[wr.heap.size],a',by simp;omega,by simp,by simpa using HNX⟩
  .have hkb:gs.length=b:=by omega
   have HKB:=oh hkb;clear hkb;go_wp2_with fail;go_ret2
   have hN:=HW.out;rw[HKB.out] at hN;obtain⟨P,q1,q2⟩:=hN.disk HKB.out (Nat.le_refl _) hsz h1 h2 h3 h4;exact⟨w1.heap.size,P,rfl,q1,q2,hN.1⟩
end
end
section
open Go.RowKit
def zGB[zW](d:Nat)(l:List Nat):Prop:=d=zGT/\∀i,i<vQ->l[i]? = some 1\/l[i]? = some 3
theorem zGB.set[zW]{d:Nat}{l:List Nat}(h:zGB d l){i x:Nat}(hi:l[i]? = some 0\/l[i]? = some 2\/x=1\/x=3):zGB d (l.set i x):=by
 refine⟨h.1,λj hj=>?_⟩;have hl:=h.2 j hj;by_cases e:i=j
 .subst e;rw[List.getElem?_set_self (by rcases hl with h|h <;> exact (List.getElem?_eq_some_iff.1 h).1)];rcases hi with h|h|rfl|rfl
  .rw[h] at hl;simp at hl
  .rw[h] at hl;simp at hl
  .exact .inl rfl
  .exact .inr rfl
 .rw[List.getElem?_set_ne e];exact hl
def jU[zW](F:Nat->Prop)(w:World)(P:Nat->Prop)(c s:Nat)(G:GA)(l:List Nat):Prop :=
 ∃(d sb:Nat) (bvs:List Value) (Pd:Nat->Prop) (b2:Nat) (C:qJ),CaR F w d c sb bvs Pd C/\yI C/\qW C G/\G.cost<=1000000/\SpR w s b2 l/\(∀k,P k ↔ (caF c sb Pd k\/spF s b2 k))/\(∀k,caF c sb Pd k->¬ spF s b2 k)/\zGB d l
def zDX[zW](F P:Nat->Prop)(ad:Nat->Addr)(w:World)(c s:Nat)(G':GA)(l':List Nat)(R:(Nat->Prop)->World->Ending->Prop)(e:Ending)(w':World):Prop :=
 ∃P' F',jU F' w' P' c s G' l'/\zY P P' F F' ad w w'/\R F' w' e
def GA.check(G:GA)(id:Int):Option Err:=if id<0\/(G.blocks:Int)<=id then some ([zB2 id],2) else none
def GA.get(G:GA)(id:Int):zX ⊕ Err :=
 match G.check id with
 | some e=>.inr e
 | none=>match G.view id.toNat with
  | some (.inl p)=>.inl p
  | some (.inr (l,k))=>.inr (-1 :: l,k)
  | none=>.inr ([],0)
def GA.knows(G:GA)(id:Int):Prop:=G.check id=none->∃r,G.view id.toNat=some r
section
variable {P P' F F':Nat->Prop}{ad:Nat->Addr}{w w':World}{c s:Nat}{G G':GA}{l l':List Nat}{R:(Nat->Prop)->World->Ending->Prop}
theorem zY.iff{Q Q':Nat->Prop}(n:zY P P' F F' ad w w')(h:∀k,Q k ↔ P k)(h':∀k,Q' k ↔ P' k):zY Q Q' F F' ad w w' :=
 ⟨⟨n.stp.mods.mono (λk hk=>(h k).2 hk),λk hk hq=>(h k).2 (n.stp.old k hk ((h' k).1 hq)),λk hq=>n.stp.bd k ((h' k).1 hq)⟩,λk hq=>n.sub k ((h' k).1 hq),n.grow,n.oldF,n.env⟩
theorem jU.at[zW](h:jU F w P c s G l)(m:zF w w'):jU F w' P c s G l:=by
 obtain⟨d,sb,bvs,Pd,b2,C,h1,h2,h3,h4,h5,h6,h7,h8⟩:=h;exact⟨d,sb,bvs,Pd,b2,C,h1.at m,h2,h3,h4,h5.mods m (λf=>f) (λf=>f),h6,h7,h8⟩
theorem jU.bd[zW](h:jU F w P c s G l):Bd P w:=λk hk=>by
 obtain⟨d,sb,bvs,Pd,b2,C,h1,h2,h3,h4,h5,h6,h7,h8⟩:=h;rcases (h6 k).1 hk with hk|rfl|rfl
 .exact h1.bdP k hk
 .exact h5.own.lt
 .exact h5.row.lt
theorem jU.step[zW]{d sb sb' b2:Nat}{bvs':List Value}{Pd Pd':Nat->Prop}{C':qJ}(hL:yG F ad w)(hP:∀k,P k->F k)(h5:SpR w s b2 l)(h6:∀k,P k ↔ (caF c sb Pd k\/spF s b2 k))(h7:∀k,caF c sb Pd k->¬ spF s b2 k)(h8:zGB d l)
  (hC:CaR F' w' d c sb' bvs' Pd' C') (hI:yI C') (hG:qW C' G') (hco:G'.cost<=1000000) (n:zY (caF c sb Pd) (caF c sb' Pd') F F' ad w w') :
  ∃P',jU F' w' P' c s G' l/\zY P P' F F' ad w w':=by
 have hns:¬ caF c sb Pd s:=λf=>h7 s f (.inl rfl)
 have hnb:¬ caF c sb Pd b2:=λf=>h7 b2 f (.inr rfl)
 have q:=n.part (Q:=spF s b2) (λk hk=>hP k ((h6 k).2 (.inr hk))) hL;refine⟨λk=>caF c sb' Pd' k\/spF s b2 k,⟨d,sb',bvs',Pd',b2,C',hC,hI,hG,hco,h5.mods n.stp.mods hns hnb,λk=>Iff.rfl,λk hk hs=>?_,h8⟩,q.iff h6 (λk=>Iff.rfl)⟩;rcases hs with rfl|rfl
 .exact n.not h5.own.lt hns hk
 .exact n.not h5.row.lt hnb hk
theorem jU.lim[zW](h:jU F w P c s G l):8<=G.blocks/\G.blocks<=256/\256<=G.size/\G.size<=1024/\8<=l.length/\l.length<=256:=by
 obtain⟨d,sb,bvs,Pd,b2,C,h1,h2,h3,h4,h5,h6,h7,h8⟩:=h;exact⟨h3.blocks ▸ h2.b8,h3.blocks ▸ h2.b256,h3.size ▸ h2.s256,h3.size ▸ h2.s1024,h5.len,h5.len2⟩
theorem zRY[zW]{C:qJ}(h:qW C G)(id:Int)(hk:G.knows id):C.get id=G.get id:=by
 unfold qJ.get GA.get;have e:C.check id=G.check id:=by unfold qJ.check GA.check;rw[h.blocks]
 rw[e];cases hc:G.check id with
 | some e=>rfl
 | none =>
  obtain⟨r,hr⟩:=hk hc;simp only[hr];rw[h.view _ r hr];rcases r with p|⟨a,b⟩ <;> rfl
theorem GA.knows.low[zW]{C:qJ}(h:qW C G){id:Int}(hk:G.knows id):C.check id=none->vQ<=id.toNat:=λhc=>by
 have e:C.check id=G.check id:=by unfold qJ.check GA.check;rw[h.blocks]
 obtain⟨r,hr⟩:=hk (e ▸ hc);exact Nat.le_of_not_lt λhn=>by rw[(h.low _ hn).1] at hr;cases hr
theorem zRG[zW](hL:yG F ad w)(hP:∀k,P k->F k)(h:jU F w P c s G l)(id:Int)(hk:G.knows id) :
  Calls Tryz.prog 214 #[.pointer (some ⟨c,0,none⟩),.int .i64 id] w (zDX F P ad w c s G l (λF' w' e=>zNM F' ad w' (G.get id) e)):=by
 obtain⟨d,sb,bvs,Pd,b2,C,h1,h2,h3,h4,h5,h6,h7,h8⟩:=h;refine (zN7 hL (λk hk=>hP k ((h6 k).2 (.inl hk))) h1 h2 (Nat.le_trans h3.cost h4) id (hk.low h3)).mono ?_;rintro e w' ⟨bvs',Pd',F',C',k1,k2,k3,k4⟩;obtain⟨P',q1,q2⟩:=jU.step hL hP h5 h6 h7 h8 k1 k2.inv (k2.rel h3) h4 k3;exact⟨P',F',q1,q2,by rw[<- zRY h3 id hk];exact k4⟩
theorem zRH[zW](hL:yG F ad w)(hP:∀k,P k->F k)(h:jU F w P c s G l)(p:zX)(bv:Value)(hb:Sl F w 1 zZ bv p.body)(hg:p.gen<18446744073709551616)(hid:0<=p.id/\p.id<G.blocks)(hlo:vQ<=p.id.toNat)(hpc:yY p G.size=none)(hco:G.cost<1000000) :
  Calls Tryz.prog 153 #[.pointer (some ⟨c,0,none⟩),qA p bv] w (zDX F P ad w c s (G.put p) l (λ_ _ e=>e=.returned .nilIface)):=by
 obtain⟨d,sb,bvs,Pd,b2,C,h1,h2,h3,h4,h5,h6,h7,h8⟩:=h;refine (zN8 hL (λk hk=>hP k ((h6 k).2 (.inl hk))) h1 h2 (Nat.le_trans h3.cost h4) p bv hb hg hlo).mono ?_;rintro e w' ⟨bvs',Pd',F',C',ev,rfl,k1,k3,k4,k5⟩;have hE:C.putE p=none:=by
  unfold qJ.putE qJ.check;rw[if_neg (by rw[h3.blocks];omega),h3.size];simp only[hpc];rfl
 rcases k5 with ⟨_,_,_,hI,hR⟩|⟨hne,_⟩
 .obtain⟨P',q1,q2⟩:=jU.step hL hP h5 h6 h7 h8 k1 hI (hR G h3) (by show G.cost+1<=_;omega) k3;rw[hE] at k4;cases k4
  exact⟨P',F',q1,q2,rfl⟩
 .exact absurd hE hne
theorem zPf[zW](hL:yG F ad w)(hP:∀k,P k->F k)(h:jU F w P c s G l)(id:Nat) :
  Calls Tryz.prog 223 #[.pointer (some ⟨c,0,none⟩),.int .i64 (id:Int)] w (zDX F P ad w c s (G.drop id) l (λ_ _ e=>∃b,e=.returned (.bool b))):=by
 obtain⟨d,sb,bvs,Pd,b2,C,h1,h2,h3,h4,h5,h6,h7,h8⟩:=h;refine (zMH hL (λk hk=>hP k ((h6 k).2 (.inl hk))) h1 h2 id).mono ?_;rintro e w' ⟨b,bvs',C',rfl,k1,k3,k4,_,_,k5⟩;obtain⟨P',q1,q2⟩:=jU.step hL hP h5 h6 h7 h8 k1 k4 (k5 G h3) h4 k3;exact⟨P',F,q1,q2,b,rfl⟩
theorem zRI{F:Nat->Prop}{d sb:Nat}{bvs:List Value}{Pd:Nat->Prop}{C:qJ}(h:CaR F w d c sb bvs Pd C):∀p∈C.disk.waiting,p.1<C.disk.blocks:=by
 obtain⟨bl,gs,ws,wv,kv,h1,h2⟩:=h.disk;intro p hp;obtain⟨j,hj,e⟩:=List.getElem_of_mem hp;have hw:j<ws.length:=by rw[h1.lenW];exact hj
 exact (h1.wrow j _ p (List.getElem?_eq_getElem hw) (by rw[<- e];exact List.getElem?_eq_getElem hj)).1
theorem zGB.give[zW]{d:Nat}(h:zGB d l)(id:Int):zGB d (yR l id).1:=by
 unfold yR;cases qB l id with
 | some e=>exact h
 | none =>
  simp only;split
  .rename_i h2;exact h.set (.inr (.inl h2))
  .split
   .exact h.set (.inr (.inr (.inr rfl)))
   .exact h
theorem jU.fresh[zW](h:jU F w P c s G l){i:Nat}(hi:l[i]? = some 0\/l[i]? = some 2):vQ<=i:=by
 obtain⟨d,sb,bvs,Pd,b2,C,h1,h2,h3,h4,h5,h6,h7,h8⟩:=h;refine Nat.le_of_not_lt λhn=>?_
 rcases h8.2 i hn with h|h <;> rw[h] at hi <;> simp at hi
theorem zAF{l:List Nat}{i:Nat}(h:vJ l=some i):l[i]? = some 0/\i<l.length:=by
 unfold vJ at h;rw[List.findIdx?_eq_some_iff_getElem] at h;obtain⟨h1,h2,_⟩:=h;exact⟨by rw[List.getElem?_eq_getElem h1];simpa using h2,h1⟩
theorem jU.space[zW](hL:yG F ad w)(hP:∀k,P k->F k){d sb b2:Nat}{bvs:List Value}{Pd:Nat->Prop}{C:qJ}(h1:CaR F w d c sb bvs Pd C)(h2:yI C)(h3:qW C G)(h4:G.cost<=1000000)(h6:∀k,P k ↔ (caF c sb Pd k\/spF s b2 k))(h7:∀k,caF c sb Pd k->¬ spF s b2 k)
  (h8:zGB d l') (h5:SpR w' s b2 l') (m:zA (spF s b2) w w'):jU F w' P c s G l'/\zY P P F F ad w w' :=
 ⟨⟨d,sb,bvs,Pd,b2,C,h1.far m h7 (λk hk=>hP k ((h6 k).2 (.inr hk))),h2,h3,h4,h5,h6,h7,h8⟩,zY.same hL hP (m.mono (λk hk=>(h6 k).2 (.inr hk)))⟩
def zR0(ad:Nat->Addr)(l:List Nat)(F':Nat->Prop)(w':World)(e:Ending):Prop :=
 (∃i,vJ l=some i/\i<l.length/\e=.returned (.tuple #[.int .i64 (i:Int),.nilIface]))\/(vJ l=none/\∃f,e=.returned (.tuple #[.int .i64 0,zL f])/\vB F' ad w' (zL f) [-1] 3)
def zAk(l:List Nat):List Nat:=match vJ l with|some i=>l.set i 2|none=>l
theorem zMK[zW](hL:yG F ad w)(hP:∀k,P k->F k)(h:jU F w P c s G l) :
  Calls Tryz.prog 222 #[.pointer (some ⟨s,0,none⟩)] w (zDX F P ad w c s G (zAk l) (zR0 ad l)):=by
 obtain⟨d,sb,bvs,Pd,b2,C,h1,h2,h3,h4,h5,h6,h7,h8⟩:=h;refine (zL7 hL s b2 l h5).mono ?_;rintro e w' (⟨i,k1,k2,rfl,k3,k4⟩|⟨k1,f,rfl,k3,k4⟩)
 .obtain⟨q1,q2⟩:=jU.space hL hP h1 h2 h3 h4 h6 h7 (h8.set (.inl (zAF k1).1)) k3 k4;exact⟨P,F,by unfold zAk;rw[k1];exact q1,q2,.inl ⟨i,k1,k2,rfl⟩⟩
 .have q:=zY.ext hL hP k4;exact⟨P,F,by unfold zAk;rw[k1];exact⟨d,sb,bvs,Pd,b2,C,h1.at k4,h2,h3,h4,h5.mods k4 (λf=>f) (λf=>f),h6,h7,h8⟩,q,.inr ⟨k1,f,rfl,k3⟩⟩
theorem zPg[zW](hL:yG F ad w)(hP:∀k,P k->F k)(h:jU F w P c s G l)(id:Int) :
  Calls Tryz.prog 224 #[.pointer (some ⟨s,0,none⟩),.int .i64 id] w (zDX F P ad w c s G (yR l id).1 (λF' w' e=>∃ev,e=.returned ev/\zBw F' ad w' ev (yR l id).2)):=by
 obtain⟨d,sb,bvs,Pd,b2,C,h1,h2,h3,h4,h5,h6,h7,h8⟩:=h;refine (zPR hL s b2 l h5 id).mono ?_;rintro e w' ⟨ev,rfl,k1,k2,k3⟩;obtain⟨q1,q2⟩:=jU.space hL hP h1 h2 h3 h4 h6 h7 (h8.give id) k2 k3;exact⟨P,F,q1,q2,ev,rfl,k1⟩
theorem zPh[zW](h:jU F w P c s G l):∃d,Hid (jU F w P c s G l)/\(Calls Tryz.prog 220 #[.pointer (some ⟨c,0,none⟩)] w λe w'=>e=.returned (.pointer (some ⟨d,0,none⟩))/\w=w') /\
  (∀w',zF w w' -> Calls Tryz.prog 45 #[.pointer (some ⟨d,0,none⟩)] w' λe w''=>e=.returned (.agg #[.int .i64 G.blocks,.int .i64 G.size])/\zF w' w''):=by
 have H:=oh h;obtain⟨d,sb,bvs,Pd,b2,C,h1,h2,h3,h4,h5,h6,h7,h8⟩:=h;refine⟨d,H,zMF h1,λw' m=>?_⟩;rw[<- h3.blocks,<- h3.size];exact (h1.disk.at m).geo
end
def pgV(c s gen:Nat):Value:=.agg #[.pointer (some ⟨c,0,none⟩),.pointer (some ⟨s,0,none⟩),.int .u64 (gen:Int)]
def zBM(n:Int):Option Err:=if n<=24\/4096<n then some ([-1],2) else none
def zCa:List Nat->List Nat->Prop
 | _,[]=>True
 | l,id :: r=>(yR l id).2=none/\zCa (yR l id).1 r
def jM:List Nat->List Nat->List Nat
 | l,[]=>l
 | l,id :: r=>jM (yR l id).1 r
def jQ:GA->List Nat->GA
 | G,[]=>G
 | G,id :: r=>jQ (G.drop id) r
theorem zHd:∀(r:List Nat) (G:GA) (id:Nat),jQ G (r++[id])=(jQ G r).drop id
 | [],_,_=>rfl
 | x :: r,G,id=>by rw[List.cons_append,jQ,zHd r,jQ]
theorem zFJ:∀(r:List Nat) (l:List Nat) (id:Nat),jM l (r++[id])=(yR (jM l r) id).1
 | [],_,_=>rfl
 | x :: r,l,id=>by rw[List.cons_append,jM,zFJ r,jM]
theorem zI3:∀(r:List Nat) (l:List Nat) (k id:Nat),zCa l r->r[k]? = some id->(yR (jM l (r.take k)) id).2=none
 | [],_,k,_,_,h=>by simp at h
 | x :: r,l,0,id,h,hk=>by simp at hk;subst hk;exact h.1
 | x :: r,l,k+1,id,h,hk=>by
  rw[List.take_succ_cons,jM];exact zI3 r _ k id h.2 (by simpa using hk)
def zAp:Nat->List Nat->Option (List Nat × List Nat)
 | 0,l=>some ([],l)
 | n+1,l=>match vJ l with
  | none=>none
  | some i=>match zAp n (l.set i 2) with
   | none=>none
   | some (ids,l')=>some (i :: ids,l')
section
variable {P P' F F':Nat->Prop}{ad:Nat->Addr}{w w':World}{c s:Nat}{G G':GA}{l l':List Nat}
theorem zFK[zW](h:jU F w P c s G l)(gen:Nat) : Calls Tryz.prog 271 #[pgV c s gen] w λe w'=>e=.returned (.int .i64 (G.size:Int))/\zF w w':=by
 unfold pgV;have m0:zF w (w.alloc (.cells #[.pointer (some ⟨c,0,none⟩),.pointer (some ⟨s,0,none⟩),.int .u64 (gen:Int)] 120)):=(zA.refl _ w).alloc _;obtain⟨d,HH,h1,h2⟩:=zPh (h.at m0);have gf1:=Tryz.geoF1;have H1:=oh h1;have H2:=oh h2;have M0:=oh m0;clear h1 h2 h m0
 go_enter Tryz.func271, Tryz.ntmps271
 go_wp2_with fail;refine H1.out.mono ?_;rintro e w1 ⟨rfl,rfl⟩;go_wp2_with fail;refine (H2.out _ (zA.refl _ _)).mono ?_;rintro e w2 ⟨rfl,hm⟩;have HM:=oh hm;clear hm;go_wp2_with fail;go_ret;exact⟨rfl,M0.out.trans HM.out⟩
theorem zGa(hL:yG F ad w)(op:ByteArray)(gen:Nat)(n:Int) : Calls Tryz.prog 260 #[.string op,pgV c s gen,.int .i64 n] w λe w'=>∃ev,e=.returned ev/\zBw F ad w' ev (zBM n)/\zF w w':=by
 unfold pgV;have m0:zF w (w.alloc (.cells #[.pointer (some ⟨c,0,none⟩),.pointer (some ⟨s,0,none⟩),.int .u64 (gen:Int)] 120)):=(zA.refl _ w).alloc _;have hL0:=hL.mods m0.ext;have g2:=hL.c2;have hsz:=hL.size;have g2' : 0 < w.heap.size:=by omega
 have HL:=oh hL0;have M0:=oh m0;clear hL hL0 m0;by_cases h1:n<=24
 .have HR:Hid (zBM n=some ([-1],2)):=oh (by unfold zBM;rw[if_pos (.inl h1)])
  go_enter Tryz.func260, Tryz.ntmps260
  go_wp2_with fail;refine (qN HL.out _ _ [] 2 (.sent 2 (by decide) (by decide))).mono ?_;rintro e w1 ⟨f,rfl,hE,hm⟩;have HE:=oh hE;have HM:=oh hm;clear hE hm;go_wp2_with fail;go_ret;exact⟨_,rfl,by rw[HR.out];exact⟨f,rfl,HE.out⟩,M0.out.trans HM.out⟩
 .by_cases h2:4096<n
  .have HR:Hid (zBM n=some ([-1],2)):=oh (by unfold zBM;rw[if_pos (.inr h2)])
   go_enter Tryz.func260, Tryz.ntmps260
   go_wp2_with fail;refine (qN HL.out _ _ [] 2 (.sent 2 (by decide) (by decide))).mono ?_;rintro e w1 ⟨f,rfl,hE,hm⟩;have HE:=oh hE;have HM:=oh hm;clear hE hm;go_wp2_with fail;go_ret;exact⟨_,rfl,by rw[HR.out];exact⟨f,rfl,HE.out⟩,M0.out.trans HM.out⟩
  .have HR:Hid (zBM n=none):=oh (by unfold zBM;rw[if_neg (by omega)])
   go_enter Tryz.func260, Tryz.ntmps260
   go_wp2_with fail;go_ret;exact⟨_,rfl,by rw[HR.out];rfl,M0.out⟩
end
def zIh(n:Nat):List Value:=[.int .i64 (n:Int)]
theorem zJv:zCh zIh 1:=⟨λ_=>rfl,by intro x u hu;simp[zIh] at hu;subst hu;rfl⟩
theorem Tryz.elI:ElT Tryz.prog 59 3 (.int .i64 0) 1 8:=⟨Tryz.underlying59,Tryz.mkI,rfl,by decide,by decide⟩
theorem yU{P:Program}{α:Type}{F G:Nat->Prop}{w:World}{t e:TypeId}{z:Value}{sz bytes:Nat}{enc:α->List Value}(T:ElT P t e z sz bytes)(E:zCh enc sz)
  {ops:Array Oper} {rest:List Oper} {o:Oper} {a:Act} {Q:Exit->Act->World->Prop} (hgd:o.guard=none) (sx x:Operand)
  (ho:o.op=.call { callee:=.builtin .append,args:=#[sx,x],argTypes:=#[t,t] })
  (base:Nat) (v s:Value) (l m:List α) (hv:a.eval sx=v) (hx:a.eval x=s) (hown:yC F w base e sz enc v l) (hs:Sl G w sz enc s m) (hb:(l.length+m.length) * bytes<=140737488355328) (hbase:base<=w.heap.size) (hn:¬ F w.heap.size)
  (h:∀a' c' w',yC F w' base e sz enc (.slice a' (l.length+m.length) c') (l++m)->zA (λk=>v.ownBlock=some k) w w' ->
   ((Value.slice a' (l.length+m.length) c').ownBlock=v.ownBlock\/(Value.slice a' (l.length+m.length) c').ownBlock=some w.heap.size)->wpList P ops Q rest (a.put o.dst (.slice a' (l.length+m.length) c')) w') :
  wpList P ops Q (o :: rest) a w:=by
 obtain⟨i,hi,hz,hs1,hb1⟩:=zEz T.info;refine zEy hgd sx x t ho base e i z sz bytes T.under hi hz hs1 hb1 T.zs T.sz0 enc E.len E.one v s l m hv hx hown hs hb T.by0 hbase hn ?_;intro a' c' w' h1 h2 h3;exact h a' c' w' h1 (zA.of_grown h2) h3
def zEJ{α:Type}(w0:World)(F P:Nat->Prop)(w:World)(e:TypeId)(sz:Nat)(enc:α->List Value)(v:Value)(l:List α):Prop :=
 yC (λ_=>False) w w0.heap.size e sz enc v l/\∀g,v.ownBlock=some g->F g/\¬ P g
section
variable {α:Type}{P0 P P' F0 F F':Nat->Prop}{ad:Nat->Addr}{w0 w w':World}{c s:Nat}{G G':GA}{l l':List Nat}{e:TypeId}{sz:Nat}{enc:α->List Value}{v v':Value}{x x':List α}
theorem zEJ.nxt(h:zEJ w0 F P w e sz enc v x)(n:zY P P' F F' ad w w'):zEJ w0 F' P' w' e sz enc v x :=
 ⟨h.1.mods n.stp.mods (λg hg=>(h.2 g hg).2),λg hg=>⟨n.grow g (h.2 g hg).1,n.not (h.1.lt g hg).2 (h.2 g hg).2⟩⟩
theorem zEJ.ext(h:zEJ w0 F P w e sz enc v x)(m:zF w w'):zEJ w0 F P w' e sz enc v x:=⟨h.1.ext m,h.2⟩
theorem zEJ.nil(w0:World)(F P:Nat->Prop)(w:World)(e:TypeId)(sz:Nat)(enc:α->List Value):zEJ w0 F P w e sz enc (.slice none 0 0) ([]:List α) :=
 ⟨yC.nil _ _ _ _ _ _,λg hg=>by simp[Value.ownBlock] at hg⟩
def zHe(F:Nat->Prop)(v:Value):Nat->Prop:=λk=>F k\/v.ownBlock=some k
theorem zEJ.app(n:zY P0 P F0 F ad w0 w)(h:zEJ w0 F P w e sz enc v x)(ho:yC (λ_=>False) w' w0.heap.size e sz enc v' x')(m:zA (λk=>v.ownBlock=some k) w w'){K:Nat}(hat:v'.ownBlock=v.ownBlock\/v'.ownBlock=some K)(hK:w.heap.size<=K) :
  zY P0 P F0 (zHe F v') ad w0 w'/\zEJ w0 (zHe F v') P w' e sz enc v' x':=by
 have hv:=λg (hg:v.ownBlock=some g)=>h.1.lt g hg
 have hb:∀k,v'.ownBlock=some k->k<w'.heap.size:=λk hk=>(ho.lt k hk).2
 have h0:∀k,v'.ownBlock=some k->w0.heap.size<=k:=λk hk=>(ho.lt k hk).1
 refine⟨⟨⟨n.stp.mods.trans' m (λi hi e=>by have:=(hv i e).1;omega),n.stp.old,λk hk=>Nat.lt_of_lt_of_le (n.stp.bd k hk) m.size⟩,λk hk=>.inl (n.sub k hk),λk hk=>.inl (n.grow k hk),λk hk hf=>?_,?_⟩,ho,λg hg=>⟨.inr hg,?_⟩⟩
 .rcases hf with hf|hf
  .exact n.oldF k hk hf
  .have:=h0 k hf;omega
 .exact n.env.step (m.mono (λk hk=>(h.2 k hk).1)) (λk hk hn hf=>by
   rcases hf with hf|hf
   .exact hn hf
   .rcases hat with e|e
    .exact hn (h.2 k (e ▸ hf)).1
    .rw[e] at hf;injection hf with hf;omega) (λk hf=>hf.elim (λhf=>Nat.lt_of_lt_of_le (n.env.lt k hf) m.size) (hb k))
 .rcases hat with e|e
  .exact (h.2 g (e ▸ hg)).2
  .rw[e] at hg;injection hg with hg;exact λhp=>by have:=n.stp.bd g hp;omega
theorem CaR.plus{d sb:Nat}{bvs:List Value}{Pd:Nat->Prop}{C:qJ}(h:CaR F w d c sb bvs Pd C){Q:Nat->Prop}(m:zA Q w w')(hQ:∀k,caF c sb Pd k->¬ Q k)(hF:∀k,Q k->F k)(hG:∀k,k<w.heap.size->¬ F k->¬ F' k):CaR F' w' d c sb bvs Pd C :=
 ⟨h.own.mods m (hQ c (.inr (.inl rfl))),h.row.at m (hQ sb (.inr (.inr rfl))),h.lenB,h.n64,λi s bv h1 h2=>(h.body i s bv h1 h2).step (m.mono hF) hG,h.disk.far m (λk hk=>hQ k (.inl hk)),h.cd,h.sd,h.ne⟩
theorem jU.plus[zW](h:jU F w P c s G l){Q:Nat->Prop}(m:zA Q w w')(hQ:∀k,P k->¬ Q k)(hF:∀k,Q k->F k)(hG:∀k,k<w.heap.size->¬ F k->¬ F' k):jU F' w' P c s G l:=by
 obtain⟨d,sb,bvs,Pd,b2,C,h1,h2,h3,h4,h5,h6,h7,h8⟩:=h;exact⟨d,sb,bvs,Pd,b2,C,h1.plus m (λk hk=>hQ k ((h6 k).2 (.inl hk))) hF hG,h2,h3,h4,h5.mods m (hQ s ((h6 s).2 (.inr (.inl rfl)))) (hQ b2 ((h6 b2).2 (.inr (.inr rfl)))),h6,h7,h8⟩
theorem jU.app[zW](hp:jU F w P c s G l)(h:zEJ w0 F P w e sz enc v x)(m:zA (λk=>v.ownBlock=some k) w w'){K:Nat}(hat:v'.ownBlock=v.ownBlock\/v'.ownBlock=some K)(hK:w.heap.size<=K):jU (zHe F v') w' P c s G l :=
 hp.plus m (λk hk e=>(h.2 k e).2 hk) (λk hk=>(h.2 k hk).1) (λk hk hn hf=>by
  rcases hf with hf|hf
  .exact hn hf
  .rcases hat with e|e
   .exact hn (h.2 k (e ▸ hf)).1
   .rw[e] at hf;injection hf with hf;omega)
end
section
variable {P P' F F':Nat->Prop}{ad:Nat->Addr}{w w':World}{c s:Nat}{G G':GA}{l l':List Nat}
theorem zHf[zW](hL:yG F ad w)(hP:∀k,P k->F k)(h:jU F w P c s G l)(gen:Nat)(iv:Value)(ids:List Nat)(hi:Sl P w 1 zIh iv ids)(hok:zCa l ids) :
  Calls Tryz.prog 211 #[pgV c s gen,iv] w (zDX F P ad w c s (jQ G ids) (jM l ids) (λ_ _ e=>e=.returned .nilIface)):=by
 unfold pgV;obtain⟨a,cap,rfl,i1,i2,i3,i4⟩:=_root_.id hi;unfold maxLen at i2;have m0:zF w (w.alloc (.cells #[.pointer (some ⟨c,0,none⟩),.pointer (some ⟨s,0,none⟩),.int .u64 (gen:Int)] 120)):=(zA.refl _ w).alloc _;have HN0:Hid (¬ P w.heap.size):=oh (λf=>by have:=h.bd _ f;omega);have HB0:=oh (zH.new w #[.pointer (some ⟨c,0,none⟩),.pointer (some ⟨s,0,none⟩),.int .u64 (gen:Int)] 120);have HX0:=oh (zY.ext hL hP m0);have HG0:=oh (h.at m0);have HI0:=oh hi;have HOK:=oh hok;have HZ:Hid (w.heap.size<(w.alloc (.cells #[.pointer (some ⟨c,0,none⟩),.pointer (some ⟨s,0,none⟩),.int .u64 (gen:Int)] 120)).heap.size):=oh (by simp);obtain⟨n,hn⟩:∃n,n=ids.length:=⟨_,rfl⟩;rw[<- hn] at i1 i3 ⊢;have HN:=oh hn;have H4:=oh i4;clear hL hP h hi m0 i4 hok hn
 go_enter Tryz.func211, Tryz.ntmps211
 go_wp2_with fail;go_loopg [10] n (λm v wr=>∃(k:Nat) (P1 F1:Nat->Prop),k+m=n/\v=.int .i64 k/\Hid (jU F1 wr P1 c s (jQ G (ids.take k)) (jM l (ids.take k))/\zY P P1 F F1 ad w wr/\zH wr w.heap.size #[.pointer (some ⟨c,0,none⟩),.pointer (some ⟨s,0,none⟩),.int .u64 (gen:Int)] 120 /\ ¬ P1 w.heap.size))
 case atStart=>exact⟨0,P,F,by omega,rfl,oh ⟨HG0.out,HX0.out,HB0.out,HN0.out⟩⟩
 case round =>
  obtain⟨k,P1,F1,hk,rfl,HW⟩:=hrel;by_cases hlt:k<n
  .obtain⟨hW1,hW2,hW3,hW4⟩:=HW.out;obtain⟨id,hid⟩:∃id,ids[k]? = some id:=⟨_,List.getElem?_eq_getElem (by rw[<- HN.out];exact hlt)⟩;obtain⟨b,off,ha,hb,hF,hc⟩:=Sl.at (G:=P) H4.out hW2.stp.mods (λ_ _ h=>h) k (by rw[<- HN.out];exact hlt);subst ha;have c0:=hc 0 (.int .i64 (id:Int)) (by have:=(List.getElem?_eq_some_iff.1 hid).2;rw[this];rfl);simp only[Nat.mul_one,Nat.add_zero] at c0;have r0:=hW3.cell (o:=0) (v:=.pointer (some ⟨c,0,none⟩)) rfl;have r1:=hW3.cell (o:=1) (v:=.pointer (some ⟨s,0,none⟩)) rfl;have HID:=oh hid;have HT:Hid (ids.take (k+1)=ids.take k++[id]):=oh (jA _ _ _ hid);have HGV:Hid ((yR (jM l (ids.take k)) id).2=none):=oh (zI3 ids l k id HOK.out hid);have h1:(0:Int)<=(k:Int):=by omega
   have h2:(k:Int)<(n:Int):=by omega
   clear hid hc hW1 hW2 hW3 hW4;go_wp2_with fail;refine (zPg HW.out.2.1.env HW.out.2.1.sub HW.out.1 id).mono ?_;rintro e w2 ⟨P2,F2,hG2,hN2,ev,rfl,hE⟩;rw[HGV.out] at hE;cases hE
   have HG2:=oh hG2;have HN2:=oh hN2;have HB2:=oh (hN2.blk HW.out.2.2.1 HW.out.2.2.2);have HP2:Hid (¬ P2 w.heap.size):=oh (hN2.not HW.out.2.2.1.lt HW.out.2.2.2);have s0:=HB2.out.cell (o:=0) (v:=.pointer (some ⟨c,0,none⟩)) rfl;clear hG2 hN2 r0 r1 c0;go_wp2_with fail;refine (zPf HN2.out.env HN2.out.sub HG2.out id).mono ?_;rintro e w3 ⟨P3,F3,hG3,hN3,bb,rfl⟩;have HNX:Hid (jU F3 w3 P3 c s (jQ G (ids.take (k+1))) (jM l (ids.take (k+1)))/\zY P P3 F F3 ad w w3/\zH w3 w.heap.size #[.pointer (some ⟨c,0,none⟩),.pointer (some ⟨s,0,none⟩),.int .u64 (gen:Int)] 120 /\ ¬ P3 w.heap.size):=oh (by
    rw[HT.out,zHd,zFJ];exact⟨hG3,(HW.out.2.1.trans HN2.out).trans hN3,hN3.blk HB2.out HP2.out,hN3.not HB2.out.lt HP2.out⟩)
   clear hG3 hN3 s0;go_wp2_with fail;go_roundg (gk-1)
   case measure=>omega
   case rel=>exact⟨k+1,P3,F3,by omega,by go_num,HNX⟩
  .go_wp2_with fail;go_ret;have hT:ids.take k=ids:=List.take_of_length_le (by have:=HN.out;omega);have hW:=HW.out;rw[hT] at hW;exact⟨P1,F1,hW.1,hW.2.1,rfl⟩
theorem zHg{l:List Nat}{i x id:Nat}(h:id≠i):yR (l.set i x) id=((yR l id).1.set i x,(yR l id).2):=by
 unfold yR;have e:qB (l.set i x) (id:Int)=qB l (id:Int):=by unfold qB;rw[List.length_set]
 rw[e];cases qB l (id:Int) with
 | some e=>rfl
 | none =>
  simp only[Int.toNat_natCast];rw[List.getElem?_set_ne (λe=>h e.symm)];split
  .simp only;rw[List.set_comm _ _ (λe=>h e.symm)]
  .split
   .simp only;rw[List.set_comm _ _ (λe=>h e.symm)]
   .rfl
theorem zI4:∀(a l:List Nat) (i x:Nat),i ∉ a->jM (l.set i x) a=(jM l a).set i x
 | [],_,_,_,_=>rfl
 | y :: a,l,i,x,h=>by
  have hy:y≠i:=λe=>h (e ▸ List.mem_cons_self)
  rw[jM,zHg hy,zI4 a _ i x (λhm=>h (List.mem_cons_of_mem _ hm)),jM]
theorem zHh:∀(a l:List Nat) (i x:Nat),i ∉ a->zCa l a->zCa (l.set i x) a
 | [],_,_,_,_,_=>trivial
 | y :: a,l,i,x,h,ho=>by
  have hy:y≠i:=λe=>h (e ▸ List.mem_cons_self)
  rw[zCa,zHg hy];exact⟨ho.1,zHh a _ i x (λhm=>h (List.mem_cons_of_mem _ hm)) ho.2⟩
theorem zGb:∀(a l:List Nat) (i:Nat),zCa l a->(yR (jM l a) i).2=none->zCa l (a++[i])
 | [],_,_,_,h=>⟨h,trivial⟩
 | _ :: a,_,i,ho,h=>⟨ho.1,zGb a _ i ho.2 h⟩
theorem zHi{l:List Nat}{id i:Nat}(h:i≠id):(yR l id).1[i]? = l[i]?:=by
 unfold yR;split
 .rfl
 .split
  .simp only[Int.toNat_natCast];rw[List.getElem?_set_ne (λe=>h e.symm)]
  .split
   .simp only[Int.toNat_natCast];rw[List.getElem?_set_ne (λe=>h e.symm)]
   .rfl
theorem zI5:∀(a l:List Nat) (i:Nat),i ∉ a->(jM l a)[i]? = l[i]?
 | [],_,_,_=>rfl
 | y :: a,l,i,h=>by
  have hy:i≠y:=λe=>h (e ▸ List.mem_cons_self)
  rw[jM,zI5 a _ i (λhm=>h (List.mem_cons_of_mem _ hm)),zHi hy]
theorem zJw{l:List Nat}{i:Nat}(h2:2<=i)(hi:i<l.length):yR (l.set i 2) i=((l.set i 2).set i 0,none):=by
 unfold yR;have e:qB (l.set i 2) (i:Int)=none:=by unfold qB;rw[List.length_set,if_neg (by omega)]
 rw[e];simp only[Int.toNat_natCast];rw[List.getElem?_set_self hi,if_pos rfl]
theorem zEJ.slP{α:Type}{w0:World}{e:TypeId}{sz:Nat}{enc:α->List Value}{v:Value}{x:List α}(h:zEJ w0 F P w e sz enc v x)(henc:∀y,(enc y).length=sz)(hl:x.length<=140737488355328):Sl P w sz enc v x :=
 yC.sl (F:=P) ⟨h.1.1,λg hg=>(h.2 g hg).2⟩ henc hl
structure zE1(l:List Nat)(a:List Nat)(l1:List Nat):Prop where
 ok:zCa l1 a
 back:jM l1 a=l
 fresh:∀id∈a,l1[id]? = some 2
 len:l1.length=l.length
 two:∀id∈a,2<=id
 nd:a.Nodup
 same:∀i,i ∉ a->l1[i]? = l[i]?
theorem zE1.nil(l:List Nat):zE1 l [] l:=⟨trivial,rfl,λ_ h=>by simp at h,rfl,λ_ h=>by simp at h,List.nodup_nil,λ_ _=>rfl⟩
def zQj(l:List Nat):Prop:=l[0]? ≠ some 0/\l[1]? ≠ some 0
theorem zE1.step{l a l1:List Nat}{i:Nat}(h:zE1 l a l1)(hok:zQj l)(hf:vJ l1=some i):zE1 l (a++[i]) (l1.set i 2)/\l[i]? = some 0:=by
 obtain⟨h0,hi⟩:=zAF hf;have hia:i ∉ a:=λhm=>by have:=h.fresh i hm;rw[h0] at this;cases this
 have hl0:l[i]? = some 0:=by rw[<- h.back,zI5 a l1 i hia];exact h0
 have h2:2<=i:=by
  rcases Nat.lt_or_ge i 2 with hlt|hge
  .obtain rfl|rfl:i=0\/i=1:=by omega
   .exact absurd hl0 hok.1
   .exact absurd hl0 hok.2
  .exact hge
 have hil:i<l.length:=by rw[<- h.len];exact hi
 have e1:jM (l1.set i 2) a=l.set i 2:=by rw[zI4 a l1 i 2 hia,h.back]
 have e2:=zJw (l:=l) h2 hil;refine⟨⟨zGb a _ i (zHh a l1 i 2 hia h.ok) (by rw[e1,e2]),?_,λid hid=>?_,by rw[List.length_set];exact h.len,λid hid=>?_,?_,λj hj=>?_⟩,hl0⟩
 .rw[zFJ,e1,e2];simp only;rw[List.set_set];apply List.ext_getElem?
  intro j;by_cases e:j=i
  .subst e;rw[List.getElem?_set_self hil,hl0]
  .rw[List.getElem?_set_ne (λe'=>e e'.symm)]
 .rw[List.mem_append] at hid;rcases hid with hid|hid
  .rw[List.getElem?_set_ne (λ(e:i=id)=>hia (by rw[e];exact hid))];exact h.fresh id hid
  .simp at hid;subst hid;rw[List.getElem?_set_self hi]
 .rw[List.mem_append] at hid;rcases hid with hid|hid
  .exact h.two id hid
  .simp at hid;omega
 .rw[List.nodup_append];exact⟨h.nd,by simp,λx hx y hy e=>by simp at hy;exact hia (by rw[<- hy,<- e];exact hx)⟩
 .rw[List.mem_append] at hj;have:j≠i:=λe=>hj (.inr (by simp[e]))
  rw[List.getElem?_set_ne (λe=>this e.symm)];exact h.same j (λhm=>hj (.inl hm))
def zCQ[zW](F P:Nat->Prop)(ad:Nat->Addr)(w:World)(c s:Nat)(G:GA)(l:List Nat)(n:Nat)(e:Ending)(w':World):Prop :=
  ∃(P' F':Nat->Prop) (G':GA) (l':List Nat),jU F' w' P' c s G' l'/\zY P P' F F' ad w w' /\
    ((∃ (ids : List Nat) (iv : Value), zAp n l = some (ids, l') /\ zE1 l ids l' /\ ids.length = n /\ G' = G /\ e = .returned (.tuple #[iv, .nilIface]) /\ Sl P' w' 1 zIh iv ids) \/
     (∃(a:List Nat) (f:Nat),zAp n l=none/\l'=l/\G'=jQ G a/\(∀id∈a,l[id]? = some 0)/\e=.returned (.tuple #[.slice none 0 0,zL f])/\vB F' ad w' (zL f) [-1] 3))
theorem zY.slP{α:Type}{sz:Nat}{enc:α->List Value}{v:Value}{x:List α}(n:zY P P' F F' ad w w')(h:Sl P w sz enc v x):Sl P' w' sz enc v x:=h.step n.stp.mods (λk hk hn h'=>hn (n.stp.old k hk h'))
theorem zKt[zW](hL:yG F ad w)(hP:∀k,P k->F k)(h:jU F w P c s G l)(gen n:Nat)(hn:n<=1000)(hok:zQj l) :
  Calls Tryz.prog 272 #[pgV c s gen,.int .i64 (n:Int)] w (zCQ F P ad w c s G l n):=by
 unfold pgV;have m0:zF w (w.alloc (.cells #[.pointer (some ⟨c,0,none⟩),.pointer (some ⟨s,0,none⟩),.int .u64 (gen:Int)] 120)):=(zA.refl _ w).alloc _;have HN0:Hid (¬ P w.heap.size):=oh (λf=>by have:=h.bd _ f;omega);have HB0:=oh (zH.new w #[.pointer (some ⟨c,0,none⟩),.pointer (some ⟨s,0,none⟩),.int .u64 (gen:Int)] 120);have HX0:=oh (zY.ext hL hP m0);have HG0:=oh (h.at m0);have HOK:=oh hok;clear hL hP h m0 hok
 go_enter Tryz.func272, Tryz.ntmps272
 go_wp2_with fail;go_loopg [6,10] n (λm iv v wr=>∃(k:Nat) (P1 F1:Nat->Prop) (a l1:List Nat),k+m=n/\v=.int .i64 k/\Hid (jU F1 wr P1 c s G l1/\zY P P1 F F1 ad w wr/\(zH wr w.heap.size #[.pointer (some ⟨c,0,none⟩),.pointer (some ⟨s,0,none⟩),.int .u64 (gen:Int)] 120 /\ ¬ P1 w.heap.size/\iv.ownBlock≠some w.heap.size) /\
  zEJ w F1 P1 wr 3 1 zIh iv a/\zE1 l a l1/\zAp n l=(zAp m l1).map (λp=>(a++p.1,p.2))/\a.length=k/\∀id∈a,l[id]? = some 0))
 case atStart=>exact⟨0,P,F,[],l,by omega,rfl,oh ⟨HG0.out,HX0.out,⟨HB0.out,HN0.out,by simp[Value.ownBlock]⟩,zEJ.nil _ _ _ _ _ _ _,zE1.nil l,by cases zAp n l <;> rfl,rfl,λ_ h=>by simp at h⟩⟩
 case round =>
  obtain⟨k,P1,F1,a,l1,hk,rfl,HW⟩:=hrel;obtain⟨ia,icap,hiv,_⟩:=HW.out.2.2.2.1.1.form;subst hiv;have hak:a.length=k:=HW.out.2.2.2.2.2.2.1;by_cases hlt:k<n
  .have hB:=HW.out.2.2.1.1;have r0:=hB.cell (o:=0) (v:=.pointer (some ⟨c,0,none⟩)) rfl;have r1:=hB.cell (o:=1) (v:=.pointer (some ⟨s,0,none⟩)) rfl;have r2:=hB.cell (o:=2) (v:=.int .u64 (gen:Int)) rfl;have HAK:=oh hak;clear hak hB;go_wp2_with fail;refine (zMK HW.out.2.1.env HW.out.2.1.sub HW.out.1).mono ?_;rintro e w2 ⟨P2,F2,hG2,hN2,ht⟩;have HG2:=oh hG2;have HN2:=oh hN2;have HB2:=oh (hN2.blk HW.out.2.2.1.1 HW.out.2.2.1.2.1);have HP2:Hid (¬ P2 w.heap.size):=oh (hN2.not HW.out.2.2.1.1.lt HW.out.2.2.1.2.1);have HLoc2:=oh (HW.out.2.2.2.1.nxt hN2);have s0:=HB2.out.cell (o:=0) (v:=.pointer (some ⟨c,0,none⟩)) rfl;have s1:=HB2.out.cell (o:=1) (v:=.pointer (some ⟨s,0,none⟩)) rfl;have s2:=HB2.out.cell (o:=2) (v:=.int .u64 (gen:Int)) rfl;have HA:Hid (a.length<=1000):=oh (by have:=HAK.out;omega);clear hG2 hN2 r0 r1 r2;rcases ht with ⟨i,hf,hi,rfl⟩|⟨hf,f,rfl,hE⟩
   .have HF:=oh hf;have HTk:=oh (HW.out.2.2.2.2.1.step HOK.out hf);have HST:Hid (zAk l1=l1.set i 2):=oh (by unfold zAk;rw[hf]);clear hf hi s0 s1 s2;go_wp2_with (at_builtin;refine yU Tryz.elI zJv rfl _ _ rfl w.heap.size (.slice ia a.length icap) (.slice (some ⟨w2.heap.size,0,none⟩) 1 1) a [i] rfl rfl (HLoc2.out.1.ext ((zA.refl _ _).alloc _)) (Sl.one (F:=λ_=>False) (x:=i) (t := 3) (fz:=(0,0)) (zR rfl) (λf=>f)) (by have:=HA.out;simp;omega) (Nat.le_trans (HW.out.2.1.trans HN2.out).size (by simp)) (λf=>f) ?_;intro a' c' w4 hown hmod hat);have hx:=(HW.out.2.1.trans HN2.out).trans (zY.ext HN2.out.env HN2.out.sub ((zA.refl _ w2).alloc (.cells #[.int .i64 (i:Int)] 3)));have hl:=HLoc2.out.ext ((zA.refl _ w2).alloc (.cells #[.int .i64 (i:Int)] 3));obtain⟨j1,j2⟩:=zEJ.app hx hl hown hmod hat (Nat.le_refl _);have j3:=(HG2.out.at ((zA.refl _ w2).alloc (.cells #[.int .i64 (i:Int)] 3))).app hl hmod hat (Nat.le_refl _);have hBn:¬ (Value.slice ia a.length icap).ownBlock=some w.heap.size:=HW.out.2.2.1.2.2;have j4:=(HB2.out.alloc (.cells #[.int .i64 (i:Int)] 3)).mods hmod hBn;have HNX:Hid (jU (zHe F2 (.slice a' (a.length + [i].length) c')) w4 P2 c s G (l1.set i 2)/\zY P P2 F (zHe F2 (.slice a' (a.length + [i].length) c')) ad w w4/\(zH w4 w.heap.size #[.pointer (some ⟨c,0,none⟩),.pointer (some ⟨s,0,none⟩),.int .u64 (gen:Int)] 120 /\ ¬ P2 w.heap.size/\(Value.slice a' (a.length + [i].length) c').ownBlock≠some w.heap.size) /\
      zEJ w (zHe F2 (.slice a' (a.length + [i].length) c')) P2 w4 3 1 zIh (.slice a' (a.length + [i].length) c') (a++[i])/\zE1 l (a++[i]) (l1.set i 2)/\zAp n l=(zAp (gk-1) (l1.set i 2)).map (λp=>(a++[i]++p.1,p.2))/\(a++[i]).length=k+1/\∀id∈a++[i],l[id]? = some 0):=oh (by
     refine⟨by rw[<- HST.out];exact j3,j1,⟨j4,HP2.out,λe=>?_⟩,j2,HTk.out.1,?_,by simp[HAK.out],λid hid=>?_⟩
     .rcases hat with e2|e2
      .exact hBn (e2 ▸ e)
      .rw[e2] at e;injection e with e;have:=HB2.out.lt;simp at e;omega
     .rw[HW.out.2.2.2.2.2.1];obtain⟨m,rfl⟩:∃m,gk=m+1:=⟨gk-1,by omega⟩;rw[zAp,HF.out];simp only[Nat.add_sub_cancel];cases zAp m (l1.set i 2) with
      | none=>rfl
      | some p=>simp
     .rw[List.mem_append] at hid;rcases hid with hid|hid
      .exact HW.out.2.2.2.2.2.2.2 id hid
      .simp at hid;subst hid;exact HTk.out.2)
    clear hown hmod hat hx hl j1 j2 j3 j4 hBn;go_wp2_with fail;go_roundg (gk-1)
    case measure=>omega
    case rel=>exact⟨k+1,P2,zHe F2 (.slice a' (a.length + [i].length) c'),a++[i],l1.set i 2,by omega,by go_num,HNX⟩
   .have HF:=oh hf;have HE:=oh hE;have HST:Hid (zAk l1=l1):=oh (by unfold zAk;rw[hf]);clear hf hE;go_wp2_with fail;refine (zHf HN2.out.env HN2.out.sub (HST.out ▸ HG2.out) gen (.slice ia a.length icap) a (HLoc2.out.slP zJv.len (by have:=HA.out;omega)) HW.out.2.2.2.2.1.ok).mono ?_;rintro e w3 ⟨P3,F3,hG3,hN3,rfl⟩;have HG3:=oh hG3;have HN3:=oh hN3;have HE3:=oh (hN3.errc HN2.out.sub HE.out);clear hG3 hN3;go_wp2_with fail;go_ret2
    refine⟨P3,F3,_,_,HG3.out,(HW.out.2.1.trans HN2.out).trans HN3.out,.inr ⟨a,f,?_,HW.out.2.2.2.2.1.back,rfl,HW.out.2.2.2.2.2.2.2,rfl,HE3.out⟩⟩;rw[HW.out.2.2.2.2.2.1];obtain⟨m,rfl⟩:∃m,gk=m+1:=⟨gk-1,by omega⟩;rw[zAp,HF.out];rfl
  .obtain rfl:gk=0:=by omega
   have HAK:=oh hak;clear hak;go_wp2_with fail;go_ret2
   refine⟨P1,F1,_,_,HW.out.1,HW.out.2.1,.inl ⟨a,.slice ia a.length icap,?_,HW.out.2.2.2.2.1,by have:=HAK.out;omega,rfl,rfl,?_⟩⟩
   .rw[HW.out.2.2.2.2.2.1,zAp];simp
   .exact HW.out.2.2.2.1.slP zJv.len (by have:=HAK.out;omega)
end
end
end Go.Proofs.YteabpacpngaoaaaGreatDoor
