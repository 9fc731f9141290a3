import Derived.Test.YteabpacpngaoaaaGreatDoorC29
import Derived.Test.YteabpacpngaoaaaGreatDoorC25
namespace Go.Proofs.YteabpacpngaoaaaGreatDoor
open Go.RowKit
def zE8(gen blocks:Nat)(l:List Nat):vF:=⟨gen,blocks,(List.range l.length).filter (λi=>zGE (l.getD i 0))⟩
theorem zMk(gen blocks:Nat)(l:List Nat):yA (zE8 gen blocks l)=zBj l l.length:=rfl
theorem zPu{gen blocks:Nat}{l:List Nat}(h8:8<=blocks)(h256:blocks<=256)(hl:l.length=blocks)(h6:∀i,i<6->l[i]? = some 1):zAa (zE8 gen blocks l)=true:=by
 have hg:∀i,i<6->l.getD i 0=1:=λi hi=>by simp[List.getD,h6 i hi]
 have hr:List.range l.length=[0,1,2,3,4,5]++List.range' 6 (l.length-6):=by
  have h66:=(List.getElem?_eq_some_iff.1 (h6 5 (by omega))).1;obtain⟨n,hn⟩:∃n,l.length=6+n:=⟨l.length-6,by omega⟩;rw[hn,List.range_eq_range',<- List.range'_append_1,Nat.add_sub_cancel_left];rfl
 have hf:(List.range l.length).filter (λi=>zGE (l.getD i 0))=[0,1,2,3,4,5]++(List.range' 6 (l.length-6)).filter (λi=>zGE (l.getD i 0)):=by
  rw[hr,List.filter_append];congr 1
  rw[List.filter_eq_self];intro i hi;have:i<6:=by simp at hi;omega
  rw[hg i this];rfl
 refine (jC _).2 ⟨h8,h256,?_,?_,?_,λn hn=>?_⟩
 .show 6<=((List.range l.length).filter _).length;rw[hf];simp
 .show ((List.range l.length).filter _).take 6=_;rw[hf];rfl
 .exact List.Pairwise.filter _ List.pairwise_lt_range
 .have hn:n∈(List.range l.length).filter (λi=>zGE (l.getD i 0)):=hn;have:=List.mem_range.1 (List.mem_filter.1 hn).1;show n<blocks;omega
def zEf(G:GA):GA:={ G with look:=λid=>match G.view id with|some (.inl p)=>some (vH p G.size)|_=>G.look id,last:=λid=>match G.view id with|some (.inl p)=>some (vH p G.size)|_=>G.look id,cost:=0 }
structure zRb[zW](s:yM)(m:vF):Prop where
 low:vQ=6
 sup0:zCM 0=yJ s 0
 sup1:zCM 1=yJ s 1
 map0:zCM (place s.gen 0)=yF m (place s.gen 0) s.size
 map1:zCM (place s.gen 1)=yF m (place s.gen 1) s.size
abbrev zC8[zW](nx:yM)(m:vF):zW:=⟨⟨zGT,vQ,λj=>if j=0 then yJ nx 0 else if j=1 then yJ nx 1 else if j=place nx.gen 0 then yF m j nx.size else if j=place nx.gen 1 then yF m j nx.size else zCM j⟩⟩
theorem zAs(g k:Nat)(hk:k<2):2<=place g k/\place g k<6:=by unfold place;omega
theorem zOd[zW](h6:vQ=6)(nx:yM)(m:vF) : @zRb (zC8 nx m) nx m:=by
 have h0:=zAs nx.gen 0 (by omega);have h1:=zAs nx.gen 1 (by omega);have hne:place nx.gen 1≠place nx.gen 0:=by unfold place;omega
 refine @zRb.mk (zC8 nx m) nx m h6 rfl rfl ?_ ?_
 .have e : @zCM (zC8 nx m) (place nx.gen 0)=if place nx.gen 0=0 then yJ nx 0 else if place nx.gen 0=1 then yJ nx 1 else if place nx.gen 0=place nx.gen 0 then yF m (place nx.gen 0) nx.size else if place nx.gen 0=place nx.gen 1 then yF m (place nx.gen 0) nx.size else zCM (place nx.gen 0):=rfl
  rw[e,if_neg (by omega),if_neg (by omega),if_pos rfl]
 .have e : @zCM (zC8 nx m) (place nx.gen 1)=if place nx.gen 1=0 then yJ nx 0 else if place nx.gen 1=1 then yJ nx 1 else if place nx.gen 1=place nx.gen 0 then yF m (place nx.gen 1) nx.size else if place nx.gen 1=place nx.gen 1 then yF m (place nx.gen 1) nx.size else zCM (place nx.gen 1):=rfl
  rw[e,if_neg (by omega),if_neg (by omega),if_neg hne,if_pos rfl]
structure zEF[zW](C:qJ)(m:vF)(C':qJ):Prop where
 mid:∃C2,C'=zDE C2/\Sim { C with disk:=zD0 C.disk m 2 } C2/\(∀(j:Nat) (t:zS),C2.slots[j]? = some t->t.wet=false)/\∀p∈C2.disk.waiting,p.1<C2.disk.blocks
def zCC(C:qJ)(nx:yM)(i:Nat):qJ:={ C with disk:=(C.disk.wrote i (yJ nx i)).flushed }
section
variable {C C1:qJ}{G:GA}{m:vF}{nx:yM}
theorem zPv[zW](h6:vQ=6)(hI:yI C)(hm:zAa m=true):yI { C with disk:=zD0 C.disk m 2 }:=by
 have h0:=zAs m.gen 0 (by omega);have h1:=zAs m.gen 1 (by omega);have a:=zG8 hI (at_:=place m.gen 0) (by omega) (yF m (place m.gen 0) C.disk.size) (vG hm _ hI.s256);exact zG8 a (at_:=place m.gen 1) (by omega) (yF m (place m.gen 1) C.disk.size) (vG hm _ hI.s256)
theorem zLL(nx:yM)[i0:zW]{C:qJ}{G:GA}(hI:yI C)(hR:qW C G)(_:∀(j:Nat) (t:zS),C.slots[j]? = some t->t.wet=false)(hw:C.disk.waiting=[])(i:Nat)(hi:i<vQ)(hib:i<C.disk.blocks)(hl:(yJ nx i).length=C.disk.size)(hlast:G.last=G.look) :
  yI (zCC C nx i) /\ @qW (zFD i (yJ nx i)) (zCC C nx i) { G with cost:=G.cost+1 }/\(zCC C nx i).disk.waiting=[]/\(zCC C nx i).disk.blocks=C.disk.blocks/\(zCC C nx i).disk.size=C.disk.size:=by
 have a:=zG8 hI hi (yJ nx i) hl;have b:=zJl hI hR hi (yJ nx i);have hw2:∀p∈(C.disk.wrote i (yJ nx i)).waiting,p.1<C.disk.blocks:=λp hp=>by
  have hp:p∈C.disk.waiting++[(i,yJ nx i)]:=hp;rw[hw,List.nil_append,List.mem_singleton] at hp;rw[hp];exact hib
 have a2 : @yI (zFD i (yJ nx i)) { C with disk:=C.disk.wrote i (yJ nx i) }:=yI.gho (i:=i0) (j:=zFD i (yJ nx i)) rfl a;obtain⟨k1,k2⟩:=@zHP (zFD i (yJ nx i)) _ _ a2 hw2 b;refine⟨yI.gho (i:=zFD i (yJ nx i)) (j:=i0) rfl k1,?_,rfl,rfl,rfl⟩;have e:GA.flushD { G with cost:=G.cost+1 } = { G with cost:=G.cost+1 }:=by
  unfold GA.flushD;simp only[<- hlast]
 rw[e] at k2;exact k2
theorem Sim.gho{i j:zW}(e : @vQ i = @vQ j){C C':qJ}(h : @Sim i C C') : @Sim j C C':=by
 obtain⟨a1,a2,a3,a4,a5,a6,a7⟩:=h;exact @Sim.mk j C C' (yI.gho e a1) a2 a3 a4 a5 a6 a7
theorem qW.gho{i j:zW}(e : @vQ i = @vQ j){C:qJ}{G:GA}(hb:∀id,id < @vQ j -> @zCM j id = @zCM i id)(h : @qW i C G) : @qW j C G:=by
 obtain⟨a1,a2,a3,a4,a5,a6,a7⟩:=h;exact @qW.mk j C G a1 a2 a3 (λid b hx=>a4 id b (hx.elim .inl (λhx=>.inr ⟨by rw[e];exact hx.1,by rw[<- hb id hx.1];exact hx.2⟩))) a5 a6 (λid hid=>a7 id (by rw[e];exact hid))
theorem zOe[zW]{nx:yM}{m:vF}{z:Nat}(hg:nx.gen=m.gen)(hs:nx.size=z)(h:Nat)(hh:h<2)(id:Nat) :
  @zCM (zC8 nx m) id = @zCM (@zFD (@zFD (@zFD (zFD (place m.gen 0) (yF m (place m.gen 0) z)) (place m.gen 1) (yF m (place m.gen 1) z)) (1-h) (yJ nx (1-h))) h (yJ nx h)) id:=by
 have h0:=zAs m.gen 0 (by omega);have h1:=zAs m.gen 1 (by omega);show (if id=0 then yJ nx 0 else if id=1 then yJ nx 1 else if id=place nx.gen 0 then yF m id nx.size else if id=place nx.gen 1 then yF m id nx.size else zCM id) =
  (if id=h then yJ nx h else if id=1-h then yJ nx (1-h) else if id=place m.gen 1 then yF m (place m.gen 1) z else if id=place m.gen 0 then yF m (place m.gen 0) z else zCM id)
 rw[hg,hs];have hne:place m.gen 1≠place m.gen 0:=by unfold place;omega
 have hc:h=0\/h=1:=by omega
 by_cases e0:id=0
 .subst e0;rcases hc with rfl|rfl
  .rw[if_pos rfl,if_pos rfl]
  .rw[if_pos rfl,if_neg (by omega),if_pos rfl]
 .by_cases e1:id=1
  .subst e1;rcases hc with rfl|rfl
   .rw[if_neg (by omega),if_pos rfl,if_neg (by omega),if_pos rfl]
   .rw[if_neg (by omega),if_pos rfl,if_pos rfl]
  .rw[if_neg e0,if_neg e1,if_neg (show ¬ id=h by omega),if_neg (show ¬ id=1-h by omega)];by_cases e2:id=place m.gen 0
   .rw[if_pos e2,if_neg (by rw[e2];exact λe=>hne e.symm),if_pos e2,e2]
   .rw[if_neg e2];by_cases e3:id=place m.gen 1
    .rw[if_pos e3,if_pos e3,e3]
    .rw[if_neg e3,if_neg e3,if_neg e2]
theorem zMl[i0:zW](h6:vQ=6)(hI:yI C)(hR:qW C G)(hm:zAa m=true)(hL:zEF C m C1)(hg:nx.gen=m.gen)(hs:nx.size=C.disk.size)(hok:zBP nx=true)(h:Nat)(hh:h<2) :
  @yI (zC8 nx m) (zCC (zCC C1 nx (1-h)) nx h) /\ @qW (zC8 nx m) (zCC (zCC C1 nx (1-h)) nx h) (zEf G)/\(zCC (zCC C1 nx (1-h)) nx h).disk.waiting=[]:=by
 obtain⟨C2,rfl,hS,hcl,hwt⟩:=hL.mid;have hS0:C2.disk.blocks=C.disk.blocks/\C2.disk.size=C.disk.size:=⟨hS.blocks,hS.size⟩;have h0:=zAs m.gen 0 (by omega);have h1:=zAs m.gen 1 (by omega);have hb8:=hI.b8;have a1:=zG8 hI (at_:=place m.gen 0) (by omega) (yF m (place m.gen 0) C.disk.size) (vG hm _ hI.s256);have r1:=zJl hI hR (at_:=place m.gen 0) (by omega) (yF m (place m.gen 0) C.disk.size);obtain⟨i1,hi1⟩:∃i1,i1=zFD (place m.gen 0) (yF m (place m.gen 0) C.disk.size):=⟨_,rfl⟩;have l1 : @vQ i1 = @vQ i0:=by rw[hi1];rfl
 rw[<- hi1] at r1;have a1':=yI.gho (i:=i0) (j:=i1) l1.symm a1;have r2:=@zJl i1 _ _ a1' r1 (place m.gen 1) (by rw[l1];omega) (yF m (place m.gen 1) C.disk.size);obtain⟨i2,hi2⟩:∃i2,i2 = @zFD i1 (place m.gen 1) (yF m (place m.gen 1) C.disk.size):=⟨_,rfl⟩;have l2 : @vQ i2 = @vQ i0:=by rw[hi2];exact l1
 rw[<- hi2] at r2;have hS2:=Sim.gho (i:=i0) (j:=i2) l2.symm hS;have r3:=@Sim.rel i2 _ _ hS2 _ r2;have r4:=@zL6 i2 _ _ (@Sim.inv i2 _ _ hS2) hwt r3 hcl;obtain⟨a5,r5⟩:=@zHP i2 _ _ (@Sim.inv i2 _ _ hS2) hwt r4;have hsz:C2.disk.size=C.disk.size:=hS0.2;have hbl:C2.disk.blocks=C.disk.blocks:=hS0.1;have hlen:=λi=>zAV hok i
 obtain⟨a6,r6,w6,b6,z6⟩:=@zLL nx i2 _ _ a5 r5 hcl rfl (1-h) (by rw[l2];omega) (by show _<C2.disk.blocks;omega) (by rw[hlen,hs];exact hsz.symm) rfl;obtain⟨i3,hi3⟩:∃i3,i3 = @zFD i2 (1-h) (yJ nx (1-h)):=⟨_,rfl⟩;have l3 : @vQ i3 = @vQ i0:=by rw[hi3];exact l2
 rw[<- hi3] at r6;have a6':=yI.gho (i:=i2) (j:=i3) (l2.trans l3.symm) a6;obtain⟨a7,r7,w7,b7,z7⟩:=@zLL nx i3 _ _ a6' r6 hcl w6 h (by rw[l3];omega) (by rw[b6];show _<C2.disk.blocks;omega) (by rw[hlen,hs,z6];exact hsz.symm) rfl;obtain⟨i4,hi4⟩:∃i4,i4 = @zFD i3 h (yJ nx h):=⟨_,rfl⟩;have l4 : @vQ i4 = @vQ i0:=by rw[hi4];exact l3
 rw[<- hi4] at r7;have r8:=qW.gho (i:=i4) (j:=(@zC8 i0 nx m)) l4 (λid _=>by rw[@zOe i0 nx m _ hg hs h hh id,hi4,hi3,hi2,hi1]) r7;refine⟨yI.gho (i:=i3) (j:=(@zC8 i0 nx m)) l3 a7,?_,w7⟩;obtain⟨q1,q2,q3,q4,q5,q6,q7⟩:=r8;exact @qW.mk (@zC8 i0 nx m) _ _ q1 q2 q3 q4 q5 (by
  unfold qJ.cost;rw[w7];have hz:C2.slots.countP (·.wet)=0:=by
   rw[List.countP_eq_zero];intro t ht;obtain⟨j,hj,e⟩:=List.getElem_of_mem ht;have:=hcl j t (by rw[<- e];exact List.getElem?_eq_getElem hj);rw[this];simp
  show [].length+C2.slots.countP (·.wet)<=0;rw[hz];exact Nat.le_refl 0) q7
theorem zEF.facts[zW](h6:vQ=6)(hI:yI C)(hL:zEF C m C1):yI C1/\zCb C1.disk/\C1.disk.waiting=[]/\C1.disk.blocks=C.disk.blocks/\C1.disk.size=C.disk.size/\∀i,i<2->C1.disk.look i=C.disk.look i:=by
 obtain⟨C2,rfl,hS,hcl,hwt⟩:=hL.mid;have h:=hS.inv;have hk:∀id,(zDE C2).disk.look id=C2.disk.look id:=λid=>zDn h.lenL hwt id
 have hI1:yI (zDE C2):=⟨h.n3,h.n64,h.hand,h.s256,h.s1024,h.b8,h.b256,by show (settle _ _).length=_;rw[zAv];exact h.lenL,λid hid=>by rw[hk];exact h.len id hid,h.off,h.lit,h.page,h.pins,h.one,λj t hj hf hd=>by rw[hk];exact h.clean j t hj hf hd⟩;refine⟨hI1,⟨h.off,h.lit,λp hp=>(by cases hp),hI1.lenL,hI1.len⟩,rfl,hS.blocks,hS.size,λi hi=>?_⟩;rw[hk,(hS.dirt i (λj t hj ht=>by
  obtain⟨h1,h2⟩:=yO.1 ht;have:=(hI.page j t hj h1).1;omega)).1]
 have h0:=zAs m.gen 0 (by omega);have h1:=zAs m.gen 1 (by omega);show ((C.disk.wrote (place m.gen 0) _).wrote (place m.gen 1) _).look i=_;rw[jN,if_neg (by omega),jN,if_neg (by omega)]
theorem zPw{C:qJ}(nx:yM)(h:zCb C.disk){i:Nat}(hi:i<C.disk.blocks)(hl:(yJ nx i).length=C.disk.size):zCb (zCC C nx i).disk/\(zCC C nx i).disk.waiting=[]/\(zCC C nx i).disk.blocks=C.disk.blocks/\(zCC C nx i).disk.size=C.disk.size :=
 ⟨(h.wrote hi hl).flushed.1,rfl,rfl,rfl⟩
end
end Go.Proofs.YteabpacpngaoaaaGreatDoor
