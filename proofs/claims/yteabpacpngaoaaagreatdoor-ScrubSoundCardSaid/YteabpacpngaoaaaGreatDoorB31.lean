import Derived.Test.YteabpacpngaoaaaGreatDoorB29
import Derived.Test.YteabpacpngaoaaaGreatDoorB25
namespace Go.Proofs.YteabpacpngaoaaaGreatDoor
open Go.RowKit
def mapOf(gen blocks:Nat)(l:List Nat):MapA:=⟨gen,blocks,(List.range l.length).filter (λi=>spIn (l.getD i 0))⟩
theorem mapOf_used(gen blocks:Nat)(l:List Nat):usedI (mapOf gen blocks l)=usedTo l l.length:=rfl
theorem mapOf_ok{gen blocks:Nat}{l:List Nat}(h8:8≤blocks)(h256:blocks≤256)(hl:l.length=blocks)(h6:∀i,i<6→l[i]? = some 1):mapOk (mapOf gen blocks l)=true:=by
 have hg:∀i,i<6→l.getD i 0=1:=λi hi=>by simp[List.getD,h6 i hi]
 have hr:List.range l.length=[0,1,2,3,4,5]++List.range' 6 (l.length-6):=by
  have h66:=(List.getElem?_eq_some_iff.1 (h6 5 (by omega))).1;obtain⟨n,hn⟩:∃n,l.length=6+n:=⟨l.length-6,by omega⟩;rw[hn,List.range_eq_range',← List.range'_append_1,Nat.add_sub_cancel_left];rfl
 have hf:(List.range l.length).filter (λi=>spIn (l.getD i 0))=[0,1,2,3,4,5]++(List.range' 6 (l.length-6)).filter (λi=>spIn (l.getD i 0)):=by
  rw[hr,List.filter_append];congr 1
  rw[List.filter_eq_self];intro i hi;have:i<6:=by simp at hi;omega
  rw[hg i this];rfl
 refine (mapOk_iff _).2 ⟨h8,h256,?_,?_,?_,λn hn=>?_⟩
 ·show 6≤((List.range l.length).filter _).length;rw[hf];simp
 ·show ((List.range l.length).filter _).take 6=_;rw[hf];rfl
 ·exact List.Pairwise.filter _ List.pairwise_lt_range
 ·have hn:n∈(List.range l.length).filter (λi=>spIn (l.getD i 0)):=hn;have:=List.mem_range.1 (List.mem_filter.1 hn).1;show n<blocks;omega
def sealG(G:GA):GA:={ G with look:=λid=>match G.view id with|some (.inl p)=>some (sealP p G.size)|_=>G.look id,last:=λid=>match G.view id with|some (.inl p)=>some (sealP p G.size)|_=>G.look id,cost:=0 }
structure LowS[GhoI](s:SupA)(m:MapA):Prop where
 low:gLow=6
 sup0:gBlk 0=supBlk s 0
 sup1:gBlk 1=supBlk s 1
 map0:gBlk (place s.gen 0)=mapBlk m (place s.gen 0) s.size
 map1:gBlk (place s.gen 1)=mapBlk m (place s.gen 1) s.size
abbrev gComm[GhoI](nx:SupA)(m:MapA):GhoI:=⟨⟨gDisk,gLow,λj=>if j=0 then supBlk nx 0 else if j=1 then supBlk nx 1 else if j=place nx.gen 0 then mapBlk m j nx.size else if j=place nx.gen 1 then mapBlk m j nx.size else gBlk j⟩⟩
theorem place_lt(g k:Nat)(hk:k<2):2≤place g k∧place g k<6:=by unfold place;omega
theorem gComm_low[GhoI](h6:gLow=6)(nx:SupA)(m:MapA) : @LowS (gComm nx m) nx m:=by
 have h0:=place_lt nx.gen 0 (by omega);have h1:=place_lt nx.gen 1 (by omega);have hne:place nx.gen 1≠place nx.gen 0:=by unfold place;omega
 refine @LowS.mk (gComm nx m) nx m h6 rfl rfl ?_ ?_
 ·have e : @gBlk (gComm nx m) (place nx.gen 0)=if place nx.gen 0=0 then supBlk nx 0 else if place nx.gen 0=1 then supBlk nx 1 else if place nx.gen 0=place nx.gen 0 then mapBlk m (place nx.gen 0) nx.size else if place nx.gen 0=place nx.gen 1 then mapBlk m (place nx.gen 0) nx.size else gBlk (place nx.gen 0):=rfl
  rw[e,if_neg (by omega),if_neg (by omega),if_pos rfl]
 ·have e : @gBlk (gComm nx m) (place nx.gen 1)=if place nx.gen 1=0 then supBlk nx 0 else if place nx.gen 1=1 then supBlk nx 1 else if place nx.gen 1=place nx.gen 0 then mapBlk m (place nx.gen 1) nx.size else if place nx.gen 1=place nx.gen 1 then mapBlk m (place nx.gen 1) nx.size else gBlk (place nx.gen 1):=rfl
  rw[e,if_neg (by omega),if_neg (by omega),if_neg hne,if_pos rfl]
structure LaidC[GhoI](C:CaA)(m:MapA)(C':CaA):Prop where
 mid:∃C2,C'=flushDC C2∧Sim { C with disk:=mapD C.disk m 2 } C2∧(∀(j:Nat) (t:SlotA),C2.slots[j]? = some t→t.wet=false)∧∀p∈C2.disk.waiting,p.1<C2.disk.blocks
def supC(C:CaA)(nx:SupA)(i:Nat):CaA:={ C with disk:=(C.disk.wrote i (supBlk nx i)).flushed }
section
variable {C C1:CaA}{G:GA}{m:MapA}{nx:SupA}
theorem laid_inv[GhoI](h6:gLow=6)(hI:CaInv C)(hm:mapOk m=true):CaInv { C with disk:=mapD C.disk m 2 }:=by
 have h0:=place_lt m.gen 0 (by omega);have h1:=place_lt m.gen 1 (by omega);have a:=inv_low hI (at_:=place m.gen 0) (by omega) (mapBlk m (place m.gen 0) C.disk.size) (mapBlk_length hm _ hI.s256);exact inv_low a (at_:=place m.gen 1) (by omega) (mapBlk m (place m.gen 1) C.disk.size) (mapBlk_length hm _ hI.s256)
theorem sup_step(nx:SupA)[i0:GhoI]{C:CaA}{G:GA}(hI:CaInv C)(hR:CaRel C G)(_:∀(j:Nat) (t:SlotA),C.slots[j]? = some t→t.wet=false)(hw:C.disk.waiting=[])(i:Nat)(hi:i<gLow)(hib:i<C.disk.blocks)(hl:(supBlk nx i).length=C.disk.size)(hlast:G.last=G.look) :
  CaInv (supC C nx i) ∧ @CaRel (gPut i (supBlk nx i)) (supC C nx i) { G with cost:=G.cost+1 }∧(supC C nx i).disk.waiting=[]∧(supC C nx i).disk.blocks=C.disk.blocks∧(supC C nx i).disk.size=C.disk.size:=by
 have a:=inv_low hI hi (supBlk nx i) hl;have b:=rel_low hI hR hi (supBlk nx i);have hw2:∀p∈(C.disk.wrote i (supBlk nx i)).waiting,p.1<C.disk.blocks:=λp hp=>by
  have hp:p∈C.disk.waiting++[(i,supBlk nx i)]:=hp;rw[hw,List.nil_append,List.mem_singleton] at hp;rw[hp];exact hib
 have a2 : @CaInv (gPut i (supBlk nx i)) { C with disk:=C.disk.wrote i (supBlk nx i) }:=CaInv.gho (i:=i0) (j:=gPut i (supBlk nx i)) rfl a;obtain⟨k1,k2⟩:=@rel_flushD (gPut i (supBlk nx i)) _ _ a2 hw2 b;refine⟨CaInv.gho (i:=gPut i (supBlk nx i)) (j:=i0) rfl k1,?_,rfl,rfl,rfl⟩;have e:GA.flushD { G with cost:=G.cost+1 } = { G with cost:=G.cost+1 }:=by
  unfold GA.flushD;simp only[← hlast]
 rw[e] at k2;exact k2
theorem Sim.gho{i j:GhoI}(e : @gLow i = @gLow j){C C':CaA}(h : @Sim i C C') : @Sim j C C':=by
 obtain⟨a1,a2,a3,a4,a5,a6,a7⟩:=h;exact @Sim.mk j C C' (CaInv.gho e a1) a2 a3 a4 a5 a6 a7
theorem CaRel.gho{i j:GhoI}(e : @gLow i = @gLow j){C:CaA}{G:GA}(hb:∀id,id < @gLow j → @gBlk j id = @gBlk i id)(h : @CaRel i C G) : @CaRel j C G:=by
 obtain⟨a1,a2,a3,a4,a5,a6,a7⟩:=h;exact @CaRel.mk j C G a1 a2 a3 (λid b hx=>a4 id b (hx.elim .inl (λhx=>.inr ⟨by rw[e];exact hx.1,by rw[← hb id hx.1];exact hx.2⟩))) a5 a6 (λid hid=>a7 id (by rw[e];exact hid))
theorem gComm_blk[GhoI]{nx:SupA}{m:MapA}{z:Nat}(hg:nx.gen=m.gen)(hs:nx.size=z)(h:Nat)(hh:h<2)(id:Nat) :
  @gBlk (gComm nx m) id = @gBlk (@gPut (@gPut (@gPut (gPut (place m.gen 0) (mapBlk m (place m.gen 0) z)) (place m.gen 1) (mapBlk m (place m.gen 1) z)) (1-h) (supBlk nx (1-h))) h (supBlk nx h)) id:=by
 have h0:=place_lt m.gen 0 (by omega);have h1:=place_lt m.gen 1 (by omega);show (if id=0 then supBlk nx 0 else if id=1 then supBlk nx 1 else if id=place nx.gen 0 then mapBlk m id nx.size else if id=place nx.gen 1 then mapBlk m id nx.size else gBlk id) =
  (if id=h then supBlk nx h else if id=1-h then supBlk nx (1-h) else if id=place m.gen 1 then mapBlk m (place m.gen 1) z else if id=place m.gen 0 then mapBlk m (place m.gen 0) z else gBlk id)
 rw[hg,hs];have hne:place m.gen 1≠place m.gen 0:=by unfold place;omega
 have hc:h=0∨h=1:=by omega
 by_cases e0:id=0
 ·subst e0;rcases hc with rfl|rfl
  ·rw[if_pos rfl,if_pos rfl]
  ·rw[if_pos rfl,if_neg (by omega),if_pos rfl]
 ·by_cases e1:id=1
  ·subst e1;rcases hc with rfl|rfl
   ·rw[if_neg (by omega),if_pos rfl,if_neg (by omega),if_pos rfl]
   ·rw[if_neg (by omega),if_pos rfl,if_pos rfl]
  ·rw[if_neg e0,if_neg e1,if_neg (show ¬ id=h by omega),if_neg (show ¬ id=1-h by omega)];by_cases e2:id=place m.gen 0
   ·rw[if_pos e2,if_neg (by rw[e2];exact λe=>hne e.symm),if_pos e2,e2]
   ·rw[if_neg e2];by_cases e3:id=place m.gen 1
    ·rw[if_pos e3,if_pos e3,e3]
    ·rw[if_neg e3,if_neg e3,if_neg e2]
theorem commit_rel[i0:GhoI](h6:gLow=6)(hI:CaInv C)(hR:CaRel C G)(hm:mapOk m=true)(hL:LaidC C m C1)(hg:nx.gen=m.gen)(hs:nx.size=C.disk.size)(hok:supOk nx=true)(h:Nat)(hh:h<2) :
  @CaInv (gComm nx m) (supC (supC C1 nx (1-h)) nx h) ∧ @CaRel (gComm nx m) (supC (supC C1 nx (1-h)) nx h) (sealG G)∧(supC (supC C1 nx (1-h)) nx h).disk.waiting=[]:=by
 obtain⟨C2,rfl,hS,hcl,hwt⟩:=hL.mid;have hS0:C2.disk.blocks=C.disk.blocks∧C2.disk.size=C.disk.size:=⟨hS.blocks,hS.size⟩;have h0:=place_lt m.gen 0 (by omega);have h1:=place_lt m.gen 1 (by omega);have hb8:=hI.b8;have a1:=inv_low hI (at_:=place m.gen 0) (by omega) (mapBlk m (place m.gen 0) C.disk.size) (mapBlk_length hm _ hI.s256);have r1:=rel_low hI hR (at_:=place m.gen 0) (by omega) (mapBlk m (place m.gen 0) C.disk.size);obtain⟨i1,hi1⟩:∃i1,i1=gPut (place m.gen 0) (mapBlk m (place m.gen 0) C.disk.size):=⟨_,rfl⟩;have l1 : @gLow i1 = @gLow i0:=by rw[hi1];rfl
 rw[← hi1] at r1;have a1':=CaInv.gho (i:=i0) (j:=i1) l1.symm a1;have r2:=@rel_low i1 _ _ a1' r1 (place m.gen 1) (by rw[l1];omega) (mapBlk m (place m.gen 1) C.disk.size);obtain⟨i2,hi2⟩:∃i2,i2 = @gPut i1 (place m.gen 1) (mapBlk m (place m.gen 1) C.disk.size):=⟨_,rfl⟩;have l2 : @gLow i2 = @gLow i0:=by rw[hi2];exact l1
 rw[← hi2] at r2;have hS2:=Sim.gho (i:=i0) (j:=i2) l2.symm hS;have r3:=@Sim.rel i2 _ _ hS2 _ r2;have r4:=@rel_flushC i2 _ _ (@Sim.inv i2 _ _ hS2) hwt r3 hcl;obtain⟨a5,r5⟩:=@rel_flushD i2 _ _ (@Sim.inv i2 _ _ hS2) hwt r4;have hsz:C2.disk.size=C.disk.size:=hS0.2;have hbl:C2.disk.blocks=C.disk.blocks:=hS0.1;have hlen:=λi=>supBlk_length hok i
 obtain⟨a6,r6,w6,b6,z6⟩:=@sup_step nx i2 _ _ a5 r5 hcl rfl (1-h) (by rw[l2];omega) (by show _<C2.disk.blocks;omega) (by rw[hlen,hs];exact hsz.symm) rfl;obtain⟨i3,hi3⟩:∃i3,i3 = @gPut i2 (1-h) (supBlk nx (1-h)):=⟨_,rfl⟩;have l3 : @gLow i3 = @gLow i0:=by rw[hi3];exact l2
 rw[← hi3] at r6;have a6':=CaInv.gho (i:=i2) (j:=i3) (l2.trans l3.symm) a6;obtain⟨a7,r7,w7,b7,z7⟩:=@sup_step nx i3 _ _ a6' r6 hcl w6 h (by rw[l3];omega) (by rw[b6];show _<C2.disk.blocks;omega) (by rw[hlen,hs,z6];exact hsz.symm) rfl;obtain⟨i4,hi4⟩:∃i4,i4 = @gPut i3 h (supBlk nx h):=⟨_,rfl⟩;have l4 : @gLow i4 = @gLow i0:=by rw[hi4];exact l3
 rw[← hi4] at r7;have r8:=CaRel.gho (i:=i4) (j:=(@gComm i0 nx m)) l4 (λid _=>by rw[@gComm_blk i0 nx m _ hg hs h hh id,hi4,hi3,hi2,hi1]) r7;refine⟨CaInv.gho (i:=i3) (j:=(@gComm i0 nx m)) l3 a7,?_,w7⟩;obtain⟨q1,q2,q3,q4,q5,q6,q7⟩:=r8;exact @CaRel.mk (@gComm i0 nx m) _ _ q1 q2 q3 q4 q5 (by
  unfold CaA.cost;rw[w7];have hz:C2.slots.countP (·.wet)=0:=by
   rw[List.countP_eq_zero];intro t ht;obtain⟨j,hj,e⟩:=List.getElem_of_mem ht;have:=hcl j t (by rw[← e];exact List.getElem?_eq_getElem hj);rw[this];simp
  show [].length+C2.slots.countP (·.wet)≤0;rw[hz];exact Nat.le_refl 0) q7
theorem LaidC.facts[GhoI](h6:gLow=6)(hI:CaInv C)(hL:LaidC C m C1):CaInv C1∧WetD C1.disk∧C1.disk.waiting=[]∧C1.disk.blocks=C.disk.blocks∧C1.disk.size=C.disk.size∧∀i,i<2→C1.disk.look i=C.disk.look i:=by
 obtain⟨C2,rfl,hS,hcl,hwt⟩:=hL.mid;have h:=hS.inv;have hk:∀id,(flushDC C2).disk.look id=C2.disk.look id:=λid=>flushed_look h.lenL hwt id
 have hI1:CaInv (flushDC C2):=⟨h.n3,h.n64,h.hand,h.s256,h.s1024,h.b8,h.b256,by show (settle _ _).length=_;rw[settle_length];exact h.lenL,λid hid=>by rw[hk];exact h.len id hid,h.off,h.lit,h.page,h.pins,h.one,λj t hj hf hd=>by rw[hk];exact h.clean j t hj hf hd⟩;refine⟨hI1,⟨h.off,h.lit,λp hp=>(by cases hp),hI1.lenL,hI1.len⟩,rfl,hS.blocks,hS.size,λi hi=>?_⟩;rw[hk,(hS.dirt i (λj t hj ht=>by
  obtain⟨h1,h2⟩:=has_iff.1 ht;have:=(hI.page j t hj h1).1;omega)).1]
 have h0:=place_lt m.gen 0 (by omega);have h1:=place_lt m.gen 1 (by omega);show ((C.disk.wrote (place m.gen 0) _).wrote (place m.gen 1) _).look i=_;rw[look_wrote,if_neg (by omega),look_wrote,if_neg (by omega)]
theorem supC_wet{C:CaA}(nx:SupA)(h:WetD C.disk){i:Nat}(hi:i<C.disk.blocks)(hl:(supBlk nx i).length=C.disk.size):WetD (supC C nx i).disk∧(supC C nx i).disk.waiting=[]∧(supC C nx i).disk.blocks=C.disk.blocks∧(supC C nx i).disk.size=C.disk.size :=
 ⟨(h.wrote hi hl).flushed.1,rfl,rfl,rfl⟩
end
end Go.Proofs.YteabpacpngaoaaaGreatDoor
