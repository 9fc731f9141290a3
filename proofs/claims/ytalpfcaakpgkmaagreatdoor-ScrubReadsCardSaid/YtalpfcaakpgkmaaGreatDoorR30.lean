import Derived.Test.YtalpfcaakpgkmaaGreatDoorR28
import Derived.Test.YtalpfcaakpgkmaaGreatDoorR23
namespace Go.Proofs.YtalpfcaakpgkmaaGreatDoor
open Go.RowKit
def zFX(gen blocks:Nat)(l:List Nat):qW:=⟨gen,blocks,(List.range l.length).filter (λi=>zGd (l.getD i 0))⟩
theorem zNH(gen blocks:Nat)(l:List Nat):yF (zFX gen blocks l)=zB4 l l.length:=rfl
theorem zQg{gen blocks:Nat}{l:List Nat}(h8:8<=blocks)(A4:blocks<=256)(hl:l.length=blocks)(h6:∀i,i<6->l[i]? = some 1):zA6 (zFX gen blocks l)=true:=by
 have hg:∀i,i<6->l.getD i 0=1:=λi hi=>by simp[List.getD,h6 i hi]
 have hr:List.range l.length=[0,1,2,3,4,5]++List.range' 6 (l.length-6):=by
  have Ah:=(uA.1 (h6 5 (by omega))).1;obtain⟨n,hn⟩:∃n,l.length=6+n:=⟨l.length-6,by omega⟩;rw[hn,List.range_eq_range',<- List.range'_append_1,Nat.add_sub_cancel_left];rfl
 have hf:(List.range l.length).filter (λi=>zGd (l.getD i 0))=[0,1,2,3,4,5]++(List.range' 6 (l.length-6)).filter (λi=>zGd (l.getD i 0)):=by
  rw[hr,rZ];congr 1
  rw[List.filter_eq_self];intro i hi;have:i<6:=by simp at hi;omega
  rw[hg i this];rfl
 refine (vV _).2 ⟨h8,A4,?_,?_,?_,λn hn=>?_⟩
 .show 6<=((List.range l.length).filter _).length;rw[hf];simp
 .show ((List.range l.length).filter _).take 6=_;rw[hf];rfl
 .exact List.Pairwise.filter _ List.pairwise_lt_range
 .have hn:n∈(List.range l.length).filter (λi=>zGd (l.getD i 0)):=hn;have:=List.mem_range.1 (List.mem_filter.1 hn).1;show n<blocks;omega
def zE2(G:GA):GA:={ G with look:=λid=>match G.view id with|some (.inl p)=>some (jX p G.size)|_=>G.look id,last:=λid=>match G.view id with|some (.inl p)=>some (jX p G.size)|_=>G.look id,cost:=0 }
structure zSW[zQ](s:yG)(m:qW):Prop where
 low:vL=6
 sup0:zCY 0=yK s 0
 sup1:zCY 1=yK s 1
 map0:zCY (place s.gen 0)=yO m (place s.gen 0) s.size
 map1:zCY (place s.gen 1)=yO m (place s.gen 1) s.size
abbrev zDP[zQ](nx:yG)(m:qW):zQ:=⟨⟨zFM,vL,λj=>if j=0 then yK nx 0 else if j=1 then yK nx 1 else if j=place nx.gen 0 then yO m j nx.size else if j=place nx.gen 1 then yO m j nx.size else zCY j⟩⟩
theorem zBA(g k:Nat)(hk:k<2):2<=place g k/\place g k<6:=by unfold place;omega
theorem zPI[zQ](h6:vL=6)(nx:yG)(m:qW) : @zSW (zDP nx m) nx m:=by
 have h0:=zBA nx.gen 0 (by omega);have h1:=zBA nx.gen 1 (by omega);have A5:place nx.gen 1≠place nx.gen 0:=by unfold place;omega
 refine @zSW.mk (zDP nx m) nx m h6 rfl rfl ?_ ?_
 .have e : @zCY (zDP nx m) (place nx.gen 0)=if place nx.gen 0=0 then yK nx 0 else if place nx.gen 0=1 then yK nx 1 else if place nx.gen 0=place nx.gen 0 then yO m (place nx.gen 0) nx.size else if place nx.gen 0=place nx.gen 1 then yO m (place nx.gen 0) nx.size else zCY (place nx.gen 0):=rfl
  rw[e,if_neg (by omega),if_neg (by omega),if_pos rfl]
 .have e : @zCY (zDP nx m) (place nx.gen 1)=if place nx.gen 1=0 then yK nx 0 else if place nx.gen 1=1 then yK nx 1 else if place nx.gen 1=place nx.gen 0 then yO m (place nx.gen 1) nx.size else if place nx.gen 1=place nx.gen 1 then yO m (place nx.gen 1) nx.size else zCY (place nx.gen 1):=rfl
  rw[e,if_neg (by omega),if_neg (by omega),if_neg A5,if_pos rfl]
structure zEY[zQ](C:qL)(m:qW)(C':qL):Prop where
 mid:∃C2,C'=zDW C2/\Sim { C with disk:=zEG C.disk m 2 } C2/\(∀(j:Nat) (t:zU),C2.slots[j]? = some t->t.wet=false)/\∀p∈C2.disk.waiting,p.1<C2.disk.blocks
def zCO(C:qL)(nx:yG)(i:Nat):qL:={ C with disk:=(C.disk.wrote i (yK nx i)).flushed }
section
variable {C C1:qL}{G:GA}{m:qW}{nx:yG}
theorem zQh[zQ](h6:vL=6)(hI:yJ C)(hm:zA6 m=true):yJ { C with disk:=zEG C.disk m 2 }:=by
 have h0:=zBA m.gen 0 (by omega);have h1:=zBA m.gen 1 (by omega);have a:=zHb hI (at_:=place m.gen 0) (by omega) (yO m (place m.gen 0) C.disk.size) (zAL hm _ hI.s256);exact zHb a (at_:=place m.gen 1) (by omega) (yO m (place m.gen 1) C.disk.size) (zAL hm _ hI.s256)
theorem zLx(nx:yG)[i0:zQ]{C:qL}{G:GA}(hI:yJ C)(hR:qZ C G)(_:∀(j:Nat) (t:zU),C.slots[j]? = some t->t.wet=false)(hw:C.disk.waiting=[])(i:Nat)(hi:i<vL)(Ae:i<C.disk.blocks)(hl:(yK nx i).length=C.disk.size)(A0:G.last=G.look) :
  yJ (zCO C nx i) /\ @qZ (zFf i (yK nx i)) (zCO C nx i) { G with cost:=G.cost+1 }/\(zCO C nx i).disk.waiting=[]/\(zCO C nx i).disk.blocks=C.disk.blocks/\(zCO C nx i).disk.size=C.disk.size:=by
 have a:=zHb hI hi (yK nx i) hl;have b:=zKL hI hR hi (yK nx i);have Af:∀p∈(C.disk.wrote i (yK nx i)).waiting,p.1<C.disk.blocks:=λp hp=>by
  have hp:p∈C.disk.waiting++[(i,yK nx i)]:=hp;rw[hw,wP,wO] at hp;rw[hp];exact Ae
 have a2 : @yJ (zFf i (yK nx i)) { C with disk:=C.disk.wrote i (yK nx i) }:=yJ.gho (i:=i0) (j:=zFf i (yK nx i)) rfl a;obtain⟨k1,k2⟩:=@zHw (zFf i (yK nx i)) _ _ a2 Af b;refine⟨yJ.gho (i:=zFf i (yK nx i)) (j:=i0) rfl k1,?_,rfl,rfl,rfl⟩;have e:GA.flushD { G with cost:=G.cost+1 } = { G with cost:=G.cost+1 }:=by
  unfold GA.flushD;simp only[<- A0]
 rw[e] at k2;exact k2
theorem Sim.gho{i j:zQ}(e : @vL i = @vL j){C C':qL}(h : @Sim i C C') : @Sim j C C':=by
 obtain⟨a1,a2,a3,a4,a5,a6,a7⟩:=h;exact @Sim.mk j C C' (yJ.gho e a1) a2 a3 a4 a5 a6 a7
theorem qZ.gho{i j:zQ}(e : @vL i = @vL j){C:qL}{G:GA}(hb:∀id,id < @vL j -> @zCY j id = @zCY i id)(h : @qZ i C G) : @qZ j C G:=by
 obtain⟨a1,a2,a3,a4,a5,a6,a7⟩:=h;exact @qZ.mk j C G a1 a2 a3 (λid b hx=>a4 id b (hx.elim .inl (λhx=>.inr ⟨by rw[e];exact hx.1,by rw[<- hb id hx.1];exact hx.2⟩))) a5 a6 (λid hid=>a7 id (by rw[e];exact hid))
theorem zPJ[zQ]{nx:yG}{m:qW}{z:Nat}(hg:nx.gen=m.gen)(hs:nx.size=z)(h:Nat)(hh:h<2)(id:Nat) :
  @zCY (zDP nx m) id = @zCY (@zFf (@zFf (@zFf (zFf (place m.gen 0) (yO m (place m.gen 0) z)) (place m.gen 1) (yO m (place m.gen 1) z)) (1-h) (yK nx (1-h))) h (yK nx h)) id:=by
 have h0:=zBA m.gen 0 (by omega);have h1:=zBA m.gen 1 (by omega);show (if id=0 then yK nx 0 else if id=1 then yK nx 1 else if id=place nx.gen 0 then yO m id nx.size else if id=place nx.gen 1 then yO m id nx.size else zCY id) =
  (if id=h then yK nx h else if id=1-h then yK nx (1-h) else if id=place m.gen 1 then yO m (place m.gen 1) z else if id=place m.gen 0 then yO m (place m.gen 0) z else zCY id)
 rw[hg,hs];have A5:place m.gen 1≠place m.gen 0:=by unfold place;omega
 have hc:h=0\/h=1:=by omega
 by_cases e0:id=0
 .subst e0;rcases hc with rfl|rfl
  .rw[if_pos rfl,if_pos rfl]
  .rw[if_pos rfl,if_neg (by omega),if_pos rfl]
 .by_cases e1:id=1
  .subst e1;rcases hc with rfl|rfl
   .rw[if_neg (by omega),if_pos rfl,if_neg (by omega),if_pos rfl]
   .rw[if_neg (by omega),if_pos rfl,if_pos rfl]
  .rw[if_neg e0,if_neg e1,if_neg (show ¬ id=h by omega),if_neg (show ¬ id=1-h by omega)];by_cases e2:id=place m.gen 0
   .rw[if_pos e2,if_neg (by rw[e2];exact λe=>A5 e.symm),if_pos e2,e2]
   .rw[if_neg e2];by_cases e3:id=place m.gen 1
    .rw[if_pos e3,if_pos e3,e3]
    .rw[if_neg e3,if_neg e3,if_neg e2]
theorem zNI[i0:zQ](h6:vL=6)(hI:yJ C)(hR:qZ C G)(hm:zA6 m=true)(hL:zEY C m C1)(hg:nx.gen=m.gen)(hs:nx.size=C.disk.size)(Ag:zBe nx=true)(h:Nat)(hh:h<2) :
  @yJ (zDP nx m) (zCO (zCO C1 nx (1-h)) nx h) /\ @qZ (zDP nx m) (zCO (zCO C1 nx (1-h)) nx h) (zE2 G)/\(zCO (zCO C1 nx (1-h)) nx h).disk.waiting=[]:=by
 obtain⟨C2,rfl,hS,A1,A3⟩:=hL.mid;have Ac:C2.disk.blocks=C.disk.blocks/\C2.disk.size=C.disk.size:=⟨hS.blocks,hS.size⟩;have h0:=zBA m.gen 0 (by omega);have h1:=zBA m.gen 1 (by omega);have Ai:=hI.b8;have a1:=zHb hI (at_:=place m.gen 0) (by omega) (yO m (place m.gen 0) C.disk.size) (zAL hm _ hI.s256);have r1:=zKL hI hR (at_:=place m.gen 0) (by omega) (yO m (place m.gen 0) C.disk.size);obtain⟨i1,A6⟩:∃i1,i1=zFf (place m.gen 0) (yO m (place m.gen 0) C.disk.size):=⟨_,rfl⟩;have l1 : @vL i1 = @vL i0:=by rw[A6];rfl
 rw[<- A6] at r1;have a1':=yJ.gho (i:=i0) (j:=i1) l1.symm a1;have r2:=@zKL i1 _ _ a1' r1 (place m.gen 1) (by rw[l1];omega) (yO m (place m.gen 1) C.disk.size);obtain⟨i2,A7⟩:∃i2,i2 = @zFf i1 (place m.gen 1) (yO m (place m.gen 1) C.disk.size):=⟨_,rfl⟩;have l2 : @vL i2 = @vL i0:=by rw[A7];exact l1
 rw[<- A7] at r2;have A8:=Sim.gho (i:=i0) (j:=i2) l2.symm hS;have r3:=@Sim.rel i2 _ _ A8 _ r2;have r4:=@zMj i2 _ _ (@Sim.inv i2 _ _ A8) A3 r3 A1;obtain⟨a5,r5⟩:=@zHw i2 _ _ (@Sim.inv i2 _ _ A8) A3 r4;have Ad:C2.disk.size=C.disk.size:=Ac.2;have Aj:C2.disk.blocks=C.disk.blocks:=Ac.1;have A2:=λi=>zAh Ag i
 obtain⟨a6,r6,w6,b6,z6⟩:=@zLx nx i2 _ _ a5 r5 A1 rfl (1-h) (by rw[l2];omega) (by show _<C2.disk.blocks;omega) (by rw[A2,hs];exact Ad.symm) rfl;obtain⟨i3,A9⟩:∃i3,i3 = @zFf i2 (1-h) (yK nx (1-h)):=⟨_,rfl⟩;have l3 : @vL i3 = @vL i0:=by rw[A9];exact l2
 rw[<- A9] at r6;have a6':=yJ.gho (i:=i2) (j:=i3) (l2.trans l3.symm) a6;obtain⟨a7,r7,w7,b7,z7⟩:=@zLx nx i3 _ _ a6' r6 A1 w6 h (by rw[l3];omega) (by rw[b6];show _<C2.disk.blocks;omega) (by rw[A2,hs,z6];exact Ad.symm) rfl;obtain⟨i4,Aa⟩:∃i4,i4 = @zFf i3 h (yK nx h):=⟨_,rfl⟩;have l4 : @vL i4 = @vL i0:=by rw[Aa];exact l3
 rw[<- Aa] at r7;have r8:=qZ.gho (i:=i4) (j:=(@zDP i0 nx m)) l4 (λid _=>by rw[@zPJ i0 nx m _ hg hs h hh id,Aa,A9,A7,A6]) r7;refine⟨yJ.gho (i:=i3) (j:=(@zDP i0 nx m)) l3 a7,?_,w7⟩;obtain⟨q1,q2,q3,q4,q5,q6,q7⟩:=r8;exact @qZ.mk (@zDP i0 nx m) _ _ q1 q2 q3 q4 q5 (by
  unfold qL.cost;rw[w7];have hz:C2.slots.countP (·.wet)=0:=by
   rw[List.countP_eq_zero];intro t ht;obtain⟨j,hj,e⟩:=wF ht;have:=A1 j t (by rw[<- e];exact uB hj);rw[this];simp
  show [].length+C2.slots.countP (·.wet)<=0;rw[hz];exact uD 0) q7
theorem zEY.facts[zQ](h6:vL=6)(hI:yJ C)(hL:zEY C m C1):yJ C1/\zCs C1.disk/\C1.disk.waiting=[]/\C1.disk.blocks=C.disk.blocks/\C1.disk.size=C.disk.size/\∀i,i<2->C1.disk.look i=C.disk.look i:=by
 obtain⟨C2,rfl,hS,A1,A3⟩:=hL.mid;have h:=hS.inv;have hk:∀id,(zDW C2).disk.look id=C2.disk.look id:=λid=>zD2 h.lenL A3 id
 have Ab:yJ (zDW C2):=⟨h.n3,h.n64,h.hand,h.s256,h.s1024,h.b8,h.b256,by show (settle _ _).length=_;rw[zBF];exact h.lenL,λid hid=>by rw[hk];exact h.len id hid,h.off,h.lit,h.page,h.pins,h.one,λj t hj hf hd=>by rw[hk];exact h.clean j t hj hf hd⟩;refine⟨Ab,⟨h.off,h.lit,λp hp=>(by cases hp),Ab.lenL,Ab.len⟩,rfl,hS.blocks,hS.size,λi hi=>?_⟩;rw[hk,(hS.dirt i (λj t hj ht=>by
  obtain⟨h1,h2⟩:=yR.1 ht;have:=(hI.page j t hj h1).1;omega)).1]
 have h0:=zBA m.gen 0 (by omega);have h1:=zBA m.gen 1 (by omega);show ((C.disk.wrote (place m.gen 0) _).wrote (place m.gen 1) _).look i=_;rw[jV,if_neg (by omega),jV,if_neg (by omega)]
theorem zQi{C:qL}(nx:yG)(h:zCs C.disk){i:Nat}(hi:i<C.disk.blocks)(hl:(yK nx i).length=C.disk.size):zCs (zCO C nx i).disk/\(zCO C nx i).disk.waiting=[]/\(zCO C nx i).disk.blocks=C.disk.blocks/\(zCO C nx i).disk.size=C.disk.size :=
 ⟨(h.wrote hi hl).flushed.1,rfl,rfl,rfl⟩
end
end Go.Proofs.YtalpfcaakpgkmaaGreatDoor
