import Derived.Test.YteabpacpngaoaaaGreatDoorB02
namespace Go.Proofs.YteabpacpngaoaaaGreatDoor
section
structure GhoS where
 disk:Nat
 low:Nat
 blk:Nat→List UInt8
abbrev GhoI:=Inhabited GhoS
def gLow[GhoI]:Nat:=(default:GhoS).low
def gDisk[GhoI]:Nat:=(default:GhoS).disk
def gBlk[GhoI]:Nat→List UInt8:=(default:GhoS).blk
abbrev gPut[GhoI](i:Nat)(b:List UInt8):GhoI:=⟨⟨gDisk,gLow,λj=>if j=i then b else gBlk j⟩⟩
structure SlotA where
 page:PageA
 full:Bool
 dirty:Bool
 used:Bool
 pins:Nat
def slot0:SlotA:=⟨⟨0,0,0,[]⟩,false,false,false,0⟩
structure CaA where
 disk:DiskA
 slots:List SlotA
 hand:Nat
def SlotA.has(s:SlotA)(id:Nat):Bool:=s.full && decide (s.page.id=(id:Int))
def SlotA.wet(s:SlotA):Bool:=s.full && s.dirty
def CaA.vw(C:CaA)(id:Nat):PageA ⊕ (List Int × Nat) :=
 match C.slots.find? (·.has id) with
 | some s=>.inl s.page
 | none=>openAtP (C.disk.look id) id
def CaA.cost(C:CaA):Nat:=C.disk.waiting.length+C.slots.countP (·.wet)
def pgOk(p:PageA)(size:Nat):Prop:=pgCheck p size=none∧p.gen<18446744073709551616
structure CaInv[GhoI](C:CaA):Prop where
 n3:3≤C.slots.length
 n64:C.slots.length≤64
 hand:C.hand<C.slots.length
 s256:256≤C.disk.size
 s1024:C.disk.size≤1024
 b8:8≤C.disk.blocks
 b256:C.disk.blocks≤256
 lenL:C.disk.lasting.length=C.disk.blocks
 len:∀id:Nat,id<C.disk.blocks→(C.disk.look id).length=C.disk.size
 off:C.disk.off=false
 lit:C.disk.lit=false
 page:∀(i:Nat) (s:SlotA),C.slots[i]? = some s→s.full=true→(gLow:Int)≤s.page.id∧s.page.id<C.disk.blocks∧pgOk s.page C.disk.size
 pins:∀(i:Nat) (s:SlotA),C.slots[i]? = some s→s.pins=0
 one:∀(i j:Nat) (s t:SlotA),C.slots[i]? = some s→C.slots[j]? = some t→s.full=true→t.full=true→s.page.id=t.page.id→i=j
 clean:∀(i:Nat) (s:SlotA),C.slots[i]? = some s→s.full=true→s.dirty=false→openAtP (C.disk.look s.page.id.toNat) s.page.id=.inl s.page
theorem has_iff{s:SlotA}{id:Nat}:s.has id=true ↔ s.full=true∧s.page.id=(id:Int):=by simp[SlotA.has]
theorem CaInv.vw_at[GhoI]{C:CaA}(h:CaInv C){i:Nat}{s:SlotA}{id:Nat}(hi:C.slots[i]? = some s)(hs:s.has id=true):C.vw id=.inl s.page:=by
 unfold CaA.vw;cases hf:C.slots.find? (·.has id) with
 | none =>
  have:=List.find?_eq_none.1 hf s (List.mem_of_getElem? hi);exact absurd hs this
 | some t =>
  have ht:=List.find?_some hf;obtain⟨j,hj,e⟩:=List.getElem_of_mem (List.mem_of_find?_eq_some hf);have hj2:C.slots[j]? = some t:=by rw[← e];exact List.getElem?_eq_getElem hj
  have h1:=has_iff.1 hs;have h2:=has_iff.1 ht;have:=h.one i j s t hi hj2 h1.1 h2.1 (by rw[h1.2,h2.2]);subst this;rw[hi] at hj2;injection hj2 with hj2;rw[hj2]
theorem vw_none{C:CaA}{id:Nat}(h:∀(i:Nat) (s:SlotA),C.slots[i]? = some s→s.has id=false):C.vw id=openAtP (C.disk.look id) id:=by
 unfold CaA.vw;have:C.slots.find? (·.has id)=none:=List.find?_eq_none.2 (λs hs=>by
  obtain⟨j,hj,e⟩:=List.getElem_of_mem hs;have:=h j s (by rw[← e];exact List.getElem?_eq_getElem hj);rw[this];simp)
 rw[this]
structure Sim[GhoI](C C':CaA):Prop where
 inv:CaInv C'
 blocks:C'.disk.blocks=C.disk.blocks
 size:C'.disk.size=C.disk.size
 lasting:C'.disk.lasting=C.disk.lasting
 vw:∀id:Nat,C'.vw id=C.vw id
 dirt:∀id:Nat,(∀(i:Nat) (s:SlotA),C.slots[i]? = some s→s.has id=true→s.dirty=false) →
  C'.disk.look id=C.disk.look id∧(∀(i:Nat) (s:SlotA),C'.slots[i]? = some s→s.has id=true→s.dirty=false)∧∀p∈C'.disk.waiting,p.1=id→p∈C.disk.waiting
 cost:C'.cost≤C.cost
theorem Sim.refl[GhoI]{C:CaA}(h:CaInv C):Sim C C:=⟨h,rfl,rfl,rfl,λ_=>rfl,λ_ h=>⟨rfl,h,λ_ h _=>h⟩,Nat.le_refl _⟩
theorem Sim.trans[GhoI]{C C1 C2:CaA}(h:Sim C C1)(k:Sim C1 C2):Sim C C2 :=
 ⟨k.inv,k.blocks.trans h.blocks,k.size.trans h.size,k.lasting.trans h.lasting,λid=>(k.vw id).trans (h.vw id),
  λid hd=>by
   obtain⟨h1,h2,h3⟩:=h.dirt id hd;obtain⟨k1,k2,k3⟩:=k.dirt id h2;exact⟨k1.trans h1,k2,λp hp e=>h3 p (k3 p hp e) e⟩,Nat.le_trans k.cost h.cost⟩
theorem set_cases{α:Type}{l:List α}{i j:Nat}{x y:α}(h:(l.set i x)[j]? = some y):(j=i∧y=x)∨(j≠i∧l[j]? = some y):=by
 by_cases e:j=i
 ·subst e;rw[List.getElem?_set] at h;simp at h;exact .inl ⟨rfl,h.2.symm⟩
 ·right
  rw[List.getElem?_set_ne (λe'=>e e'.symm)] at h;exact⟨e,h⟩
theorem set_self{α:Type}{l:List α}{i:Nat}{x y:α}(h:l[i]? = some y):(l.set i x)[i]? = some x:=by
 rw[List.getElem?_set_self (List.getElem?_eq_some_iff.1 h).1]
theorem set_other{α:Type}{l:List α}{i j:Nat}{x y:α}(e:j≠i)(h:l[j]? = some y):(l.set i x)[j]? = some y:=by
 rw[List.getElem?_set_ne (λe'=>e e'.symm)];exact h
theorem countP_set{α:Type}(f:α→Bool):∀(l:List α) (i:Nat) (x y:α),l[i]? = some y→(l.set i x).countP f+(if f y then 1 else 0)=l.countP f+(if f x then 1 else 0)
 | [],i,x,y,h=>by simp at h
 | a :: l,0,x,y,h=>by
  simp at h;subst h;simp only[List.set_cons_zero,List.countP_cons];omega
 | a :: l,i+1,x,y,h=>by
  have:=countP_set f l i x y (by simpa using h);simp only[List.set_cons_succ,List.countP_cons];omega
theorem sim_same[GhoI]{C:CaA}(h:CaInv C){i:Nat}{s:SlotA}(hi:C.slots[i]? = some s)(u:Bool):Sim C { C with slots:=C.slots.set i { s with used:=u } }:=by
 have hs:=(List.getElem?_eq_some_iff.1 hi).1;have inv:CaInv { C with slots:=C.slots.set i { s with used:=u } } :=
  ⟨by simpa using h.n3,by simpa using h.n64,by simpa using h.hand,h.s256,h.s1024,h.b8,h.b256,h.lenL,h.len,h.off,h.lit,
   λj t ht hf=>by rcases set_cases ht with ⟨_,rfl⟩|⟨_,ht⟩;exact h.page i s hi hf;exact h.page j t ht hf,
   λj t ht=>by rcases set_cases ht with ⟨_,rfl⟩|⟨_,ht⟩;exact h.pins i s hi;exact h.pins j t ht,
   λj k t t' ht ht' hf hf' he=>by
    rcases set_cases ht with ⟨ej,rfl⟩|⟨hj,ht⟩ <;> rcases set_cases ht' with ⟨ek,rfl⟩|⟨hk,ht'⟩
    ·rw[ej,ek]
    ·rw[ej];exact h.one i k s t' hi ht' hf hf' he
    ·rw[ek];exact h.one j i t s ht hi hf hf' he
    ·exact h.one j k t t' ht ht' hf hf' he,
   λj t ht hf hd=>by rcases set_cases ht with ⟨_,rfl⟩|⟨_,ht⟩;exact h.clean i s hi hf hd;exact h.clean j t ht hf hd⟩
 refine⟨inv,rfl,rfl,rfl,λid=>?_,λid hd=>⟨rfl,λj t ht hh=>?_,λp hp _=>hp⟩,?_⟩
 ·by_cases hx:∃(j:Nat) (t:SlotA),C.slots[j]? = some t∧t.has id=true
  ·obtain⟨j,t,hj,ht⟩:=hx;rw[h.vw_at hj ht];by_cases e:j=i
   ·subst e;rw[hi] at hj;injection hj with hj;subst hj;exact inv.vw_at (i:=j) (s:={ s with used:=u }) (set_self hi) ht
   ·exact inv.vw_at (i:=j) (s:=t) (set_other e hj) ht
  ·have hn:∀(j:Nat) (t:SlotA),C.slots[j]? = some t→t.has id=false:=λj t hj=>by
    cases hb:t.has id with
    | false=>rfl
    | true=>exact absurd ⟨j,t,hj,hb⟩ hx
   rw[vw_none hn];exact vw_none (λj t hj=>by
    rcases set_cases hj with ⟨_,rfl⟩|⟨_,hj⟩
    ·exact hn i s hi
    ·exact hn j t hj)
 ·rcases set_cases ht with ⟨_,rfl⟩|⟨_,ht⟩
  ·exact hd i s hi hh
  ·exact hd j t ht hh
 ·unfold CaA.cost;have:=countP_set (·.wet) C.slots i { s with used:=u } s hi;have e:({ s with used:=u }:SlotA).wet=s.wet:=rfl;rw[e] at this;show C.disk.waiting.length+(C.slots.set i { s with used:=u }).countP (·.wet)≤C.disk.waiting.length+C.slots.countP (·.wet);omega
theorem sim_hand[GhoI]{C:CaA}(h:CaInv C){k:Nat}(hk:k<C.slots.length):Sim C { C with hand:=k } :=
 ⟨⟨h.n3,h.n64,hk,h.s256,h.s1024,h.b8,h.b256,h.lenL,h.len,h.off,h.lit,h.page,h.pins,h.one,h.clean⟩,rfl,rfl,rfl,λ_=>rfl,λ_ hd=>⟨rfl,hd,λ_ hp _=>hp⟩,Nat.le_refl _⟩
theorem sim_clear[GhoI]{C:CaA}(h:CaInv C){i:Nat}{s:SlotA}(hi:C.slots[i]? = some s)(hw:s.wet=false):Sim C { C with slots:=C.slots.set i slot0 }:=by
 have inv:CaInv { C with slots:=C.slots.set i slot0 } :=
  ⟨by simpa using h.n3,by simpa using h.n64,by simpa using h.hand,h.s256,h.s1024,h.b8,h.b256,h.lenL,h.len,h.off,h.lit,
   λj t ht hf=>by rcases set_cases ht with ⟨_,rfl⟩|⟨_,ht⟩;exact absurd hf (by simp[slot0]);exact h.page j t ht hf,
   λj t ht=>by rcases set_cases ht with ⟨_,rfl⟩|⟨_,ht⟩;rfl;exact h.pins j t ht,
   λj k t t' ht ht' hf hf' he=>by
    rcases set_cases ht with ⟨rfl,rfl⟩|⟨hj,ht⟩
    ·exact absurd hf (by simp[slot0])
    ·rcases set_cases ht' with ⟨rfl,rfl⟩|⟨hk,ht'⟩
     ·exact absurd hf' (by simp[slot0])
     ·exact h.one j k t t' ht ht' hf hf' he,
   λj t ht hf hd=>by rcases set_cases ht with ⟨_,rfl⟩|⟨_,ht⟩;exact absurd hf (by simp[slot0]);exact h.clean j t ht hf hd⟩
 refine⟨inv,rfl,rfl,rfl,λid=>?_,λid hd=>⟨rfl,λj t ht hh=>?_,λp hp _=>hp⟩,?_⟩
 ·by_cases hx:∃(j:Nat) (t:SlotA),C.slots[j]? = some t∧t.has id=true
  ·obtain⟨j,t,hj,ht⟩:=hx;rw[h.vw_at hj ht];by_cases e:j=i
   ·subst e;rw[hi] at hj;injection hj with hj;subst hj;obtain⟨hf,hid⟩:=has_iff.1 ht;have hd:s.dirty=false:=by simpa[SlotA.wet,hf] using hw
    have hc:=h.clean j s hi hf hd;rw[hid,Int.toNat_natCast] at hc;rw[← hc];exact vw_none (λk t hk=>by
     rcases set_cases hk with ⟨_,rfl⟩|⟨hne,hk⟩
     ·rfl
     ·cases hb:t.has id with
      | false=>rfl
      | true =>
       have h2:=has_iff.1 hb;exact absurd (h.one k j t s hk hi h2.1 hf (by rw[h2.2,hid])) hne)
   ·exact inv.vw_at (i:=j) (s:=t) (set_other e hj) ht
  ·have hn:∀(j:Nat) (t:SlotA),C.slots[j]? = some t→t.has id=false:=λj t hj=>by
    cases hb:t.has id with
    | false=>rfl
    | true=>exact absurd ⟨j,t,hj,hb⟩ hx
   rw[vw_none hn];exact vw_none (λj t hj=>by
    rcases set_cases hj with ⟨_,rfl⟩|⟨_,hj⟩
    ·rfl
    ·exact hn j t hj)
 ·rcases set_cases ht with ⟨_,rfl⟩|⟨_,ht⟩
  ·rfl
  ·exact hd j t ht hh
 ·unfold CaA.cost;have:=countP_set (·.wet) C.slots i slot0 s hi;have e:slot0.wet=false:=rfl;rw[e] at this;show C.disk.waiting.length+(C.slots.set i slot0).countP (·.wet)≤C.disk.waiting.length+C.slots.countP (·.wet);simp at this;split at this <;> omega
theorem sim_load[GhoI]{C:CaA}(h:CaInv C){i:Nat}{s:SlotA}(hi:C.slots[i]? = some s)(hs:s.full=false)(id:Nat)(hid:id<C.disk.blocks)(hlo:gLow≤id)(hno:∀(j:Nat) (t:SlotA),C.slots[j]? = some t→t.has id=false)(p:PageA)
  (hp:openAtP (C.disk.look id) id=.inl p) (hpi:p.id=(id:Int)) (hok:pgOk p C.disk.size):Sim C { C with slots:=C.slots.set i ⟨p,true,false,true,0⟩ }:=by
 have inv:CaInv { C with slots:=C.slots.set i ⟨p,true,false,true,0⟩ } :=
  ⟨by simpa using h.n3,by simpa using h.n64,by simpa using h.hand,h.s256,h.s1024,h.b8,h.b256,h.lenL,h.len,h.off,h.lit,
   λj t ht hf=>by rcases set_cases ht with ⟨_,rfl⟩|⟨_,ht⟩;exact⟨by simp only[hpi];omega,by simp only[hpi];exact Int.ofNat_lt.2 hid,hok⟩;exact h.page j t ht hf,
   λj t ht=>by rcases set_cases ht with ⟨_,rfl⟩|⟨_,ht⟩;rfl;exact h.pins j t ht,
   λj k t t' ht ht' hf hf' he=>by
    rcases set_cases ht with ⟨ej,rfl⟩|⟨hj,ht⟩ <;> rcases set_cases ht' with ⟨ek,rfl⟩|⟨hk,ht'⟩
    ·rw[ej,ek]
    ·have:=hno k t' ht';rw[show t'.has id=true from has_iff.2 ⟨hf',by rw[← he];exact hpi⟩] at this;cases this
    ·have:=hno j t ht;rw[show t.has id=true from has_iff.2 ⟨hf,by rw[he];exact hpi⟩] at this;cases this
    ·exact h.one j k t t' ht ht' hf hf' he,
   λj t ht hf hd=>by rcases set_cases ht with ⟨_,rfl⟩|⟨_,ht⟩;(simp only[hpi,Int.toNat_natCast];exact hp);exact h.clean j t ht hf hd⟩
 refine⟨inv,rfl,rfl,rfl,λid'=>?_,λid' hd=>⟨rfl,λj t ht hh=>?_,λp hp _=>hp⟩,?_⟩
 ·by_cases hx:∃(j:Nat) (t:SlotA),C.slots[j]? = some t∧t.has id'=true
  ·obtain⟨j,t,hj,ht⟩:=hx;rw[h.vw_at hj ht];by_cases e:j=i
   ·subst e;rw[hi] at hj;injection hj with hj;subst hj;rw[SlotA.has,hs] at ht;simp at ht
   ·exact inv.vw_at (i:=j) (s:=t) (set_other e hj) ht
  ·have hn:∀(j:Nat) (t:SlotA),C.slots[j]? = some t→t.has id'=false:=λj t hj=>by
    cases hb:t.has id' with
    | false=>rfl
    | true=>exact absurd ⟨j,t,hj,hb⟩ hx
   rw[vw_none hn];by_cases e:id'=id
   ·subst e;rw[hp];exact inv.vw_at (i:=i) (s:=⟨p,true,false,true,0⟩) (set_self hi) (has_iff.2 ⟨rfl,hpi⟩)
   ·exact vw_none (λj t hj=>by
     rcases set_cases hj with ⟨_,rfl⟩|⟨_,hj⟩
     ·cases hb:SlotA.has ⟨p,true,false,true,0⟩ id' with
      | false=>rfl
      | true =>
       have:=(has_iff.1 hb).2;simp only[hpi] at this;omega
     ·exact hn j t hj)
 ·rcases set_cases ht with ⟨_,rfl⟩|⟨_,ht⟩
  ·rfl
  ·exact hd j t ht hh
 ·unfold CaA.cost;have:=countP_set (·.wet) C.slots i ⟨p,true,false,true,0⟩ s hi;have e:SlotA.wet ⟨p,true,false,true,0⟩=false:=rfl;rw[e] at this;show C.disk.waiting.length+(C.slots.set i ⟨p,true,false,true,0⟩).countP (·.wet)≤C.disk.waiting.length+C.slots.countP (·.wet);simp at this;split at this <;> omega
def DiskA.wrote(D:DiskA)(i:Nat)(b:List UInt8):DiskA:={ D with waiting:=D.waiting++[(i,b)],after:=RowKit.wrap64 (D.after-1),count:=RowKit.wrap64 (D.count+1) }
theorem look_wrote(D:DiskA)(i:Nat)(b:List UInt8)(j:Nat):(D.wrote i b).look j=if i=j then b else D.look j:=by
 unfold DiskA.look DiskA.wrote;simp only[lookW_append,lookW];by_cases e:i=j
 ·simp[e]
 ·simp[e]
def writeC(C:CaA)(i:Nat)(s:SlotA):CaA:={ C with disk:=C.disk.wrote s.page.id.toNat (sealP s.page C.disk.size),slots:=C.slots.set i { s with dirty:=false } }
theorem sim_write[GhoI]{C:CaA}(h:CaInv C){i:Nat}{s:SlotA}(hi:C.slots[i]? = some s)(hf:s.full=true)(hd:s.dirty=true):Sim C (writeC C i s):=by
 obtain⟨hp0,hp1,hok⟩:=h.page i s hi hf;obtain⟨id,hid⟩:∃id:Nat,s.page.id=(id:Int):=⟨s.page.id.toNat,by omega⟩;have hopen:=seal_openAt hok.1 hok.2;have hself:s.has id=true:=has_iff.2 ⟨hf,hid⟩;have uniq:∀(j:Nat) (t:SlotA),C.slots[j]? = some t→t.has id=true→j=i:=λj t hj ht=>by
  have h2:=has_iff.1 ht;exact h.one j i t s hj hi h2.1 hf (by rw[h2.2,hid])
 have look2:∀j,(writeC C i s).disk.look j=if id=j then sealP s.page C.disk.size else C.disk.look j:=λj=>by
  unfold writeC;simp only[hid,Int.toNat_natCast];exact look_wrote _ _ _ _
 have inv:CaInv (writeC C i s) :=
  ⟨by simpa[writeC] using h.n3,by simpa[writeC] using h.n64,by simpa[writeC] using h.hand,h.s256,h.s1024,h.b8,h.b256,h.lenL,λj hj=>by rw[look2];split;(exact sealP_length _ _ (by have:=pgCheck_none hok.1;omega));exact h.len j hj,h.off,h.lit,
   λj t ht hf=>by rcases set_cases ht with ⟨_,rfl⟩|⟨_,ht⟩;exact h.page i s hi hf;exact h.page j t ht hf,
   λj t ht=>by rcases set_cases ht with ⟨_,rfl⟩|⟨_,ht⟩;exact h.pins i s hi;exact h.pins j t ht,
   λj k t t' ht ht' hf hf' he=>by
    rcases set_cases ht with ⟨ej,rfl⟩|⟨hj,ht⟩ <;> rcases set_cases ht' with ⟨ek,rfl⟩|⟨hk,ht'⟩
    ·rw[ej,ek]
    ·rw[ej];exact h.one i k s t' hi ht' hf hf' he
    ·rw[ek];exact h.one j i t s ht hi hf hf' he
    ·exact h.one j k t t' ht ht' hf hf' he,
   λj t ht hft hdt=>by
    rw[look2];rcases set_cases ht with ⟨_,rfl⟩|⟨hne,ht⟩
    ·rw[if_pos (by simp only[hid];omega)];exact hopen
    ·obtain⟨q0,_,_⟩:=h.page j t ht hft;rw[if_neg (λe=>hne (uniq j t ht (has_iff.2 ⟨hft,by omega⟩)))];exact h.clean j t ht hft hdt⟩
 refine⟨inv,rfl,rfl,rfl,λid'=>?_,λid' hdd=>?_,?_⟩
 ·by_cases hx:∃(j:Nat) (t:SlotA),C.slots[j]? = some t∧t.has id'=true
  ·obtain⟨j,t,hj,ht⟩:=hx;rw[h.vw_at hj ht];by_cases e:j=i
   ·subst e;rw[hi] at hj;injection hj with hj;subst hj;exact inv.vw_at (i:=j) (s:={ s with dirty:=false }) (set_self hi) ht
   ·exact inv.vw_at (i:=j) (s:=t) (set_other e hj) ht
  ·have hn:∀(j:Nat) (t:SlotA),C.slots[j]? = some t→t.has id'=false:=λj t hj=>by
    cases hb:t.has id' with
    | false=>rfl
    | true=>exact absurd ⟨j,t,hj,hb⟩ hx
   have hne:id≠id':=λe=>by have:=hn i s hi;rw[← e,hself] at this;cases this
   rw[vw_none hn,vw_none (λj t hj=>by
    rcases set_cases hj with ⟨_,rfl⟩|⟨_,hj⟩
    ·exact hn i s hi
    ·exact hn j t hj),look2,if_neg hne]
 ·have hne:id≠id':=λe=>by have:=hdd i s hi (e ▸ hself);rw[hd] at this;cases this
  refine⟨by rw[look2,if_neg hne],λj t ht hh=>?_,λp hp e=>?_⟩
  ·rcases set_cases ht with ⟨_,rfl⟩|⟨_,ht⟩
   ·rfl
   ·exact hdd j t ht hh
  ·have:p∈C.disk.waiting++[(s.page.id.toNat,sealP s.page C.disk.size)]:=hp;rw[List.mem_append] at this;rcases this with hp|hp
   ·exact hp
   ·simp at hp;subst hp;simp only[hid,Int.toNat_natCast] at e;exact absurd e hne
 ·unfold CaA.cost;have:=countP_set (·.wet) C.slots i { s with dirty:=false } s hi;have e:SlotA.wet { s with dirty:=false }=false:=by simp[SlotA.wet]
  have e2:s.wet=true:=by simp[SlotA.wet,hf,hd]
  rw[e,e2] at this;have e3:(writeC C i s).disk.waiting.length=C.disk.waiting.length+1:=by simp[writeC,DiskA.wrote]
  rw[e3];show _+(C.slots.set i { s with dirty:=false }).countP _≤_;simp at this;omega
structure GA where
 blocks:Nat
 size:Nat
 view:Nat→Option (PageA ⊕ (List Int × Nat))
 look:Nat→Option (List UInt8)
 last:Nat→Option (List UInt8)
 cost:Nat
structure CaRel[GhoI](C:CaA)(G:GA):Prop where
 blocks:C.disk.blocks=G.blocks
 size:C.disk.size=G.size
 view:∀id r,G.view id=some r→C.vw id=r
 look:∀id b,(G.look id=some b∨(id<gLow∧b=gBlk id))→C.disk.look id=b∧∀(i:Nat) (s:SlotA),C.slots[i]? = some s→s.has id=true→s.dirty=false
 last:∀id b,G.last id=some b→C.disk.lasting.getD id []=b∧(∀p∈C.disk.waiting,p.1≠id)∧∀(i:Nat) (s:SlotA),C.slots[i]? = some s→s.has id=true→s.dirty=false
 cost:C.cost≤G.cost
 low:∀id,id<gLow→G.view id=none∧G.look id=none∧G.last id=none
theorem Sim.rel[GhoI]{C C':CaA}(h:Sim C C'){G:GA}(k:CaRel C G):CaRel C' G :=
 ⟨h.blocks.trans k.blocks,h.size.trans k.size,λid r hr=>(h.vw id).trans (k.view id r hr),
  λid b hb=>by
   obtain⟨k1,k2⟩:=k.look id b hb;obtain⟨h1,h2,_⟩:=h.dirt id k2;exact⟨h1.trans k1,h2⟩,
  λid b hb=>by
   obtain⟨k1,k2,k3⟩:=k.last id b hb;obtain⟨_,h2,h3⟩:=h.dirt id k3;exact⟨by rw[h.lasting];exact k1,λp hp e=>k2 p (h3 p hp e) e,h2⟩,
  Nat.le_trans h.cost k.cost,k.low⟩
def upd{α:Type}(f:Nat→α)(i:Nat)(x:α):Nat→α:=λj=>if j=i then x else f j
theorem upd_self{α:Type}(f:Nat→α)(i:Nat)(x:α):upd f i x i=x:=by simp[upd]
theorem upd_ne{α:Type}(f:Nat→α){i j:Nat}(x:α)(h:j≠i):upd f i x j=f j:=by simp[upd,h]
def openO(o:Option (List UInt8))(id:Nat):Option (PageA ⊕ (List Int × Nat)):=o.map λb=>openAtP b id
def GA.put(G:GA)(p:PageA):GA:={ G with view:=upd G.view p.id.toNat (some (.inl p)),look:=upd G.look p.id.toNat none,last:=upd G.last p.id.toNat none,cost:=G.cost+1 }
def GA.drop(G:GA)(id:Nat):GA:={ G with view:=upd G.view id (openO (G.look id) id) }
def GA.flushC(G:GA):GA:={ G with look:=λid=>match G.view id with|some (.inl p)=>some (sealP p G.size)|_=>G.look id }
def GA.flushD(G:GA):GA:={ G with last:=G.look }
def putC(C:CaA)(i:Nat)(p:PageA):CaA:={ C with slots:=C.slots.set i ⟨p,true,true,true,0⟩ }
theorem inv_put[GhoI]{C:CaA}(h:CaInv C){i:Nat}{s:SlotA}(hi:C.slots[i]? = some s)(p:PageA)(id:Nat)(hpi:p.id=(id:Int))(hid:id<C.disk.blocks)(hlo:gLow≤id)(hok:pgOk p C.disk.size)
  (hx:s.has id=true∨(s.full=false∧∀(j:Nat) (t:SlotA),C.slots[j]? = some t→t.has id=false)):CaInv (putC C i p):=by
 have hoth:∀(j:Nat) (t:SlotA),C.slots[j]? = some t→j≠i→t.has id=false:=λj t hj hne=>by
  rcases hx with hx|⟨_,hx⟩
  ·cases hb:t.has id with
   | false=>rfl
   | true =>
    have h1:=has_iff.1 hx;have h2:=has_iff.1 hb;exact absurd (h.one j i t s hj hi h2.1 h1.1 (by rw[h1.2,h2.2])) hne
  ·exact hx j t hj
 exact⟨by simpa[putC] using h.n3,by simpa[putC] using h.n64,by simpa[putC] using h.hand,h.s256,h.s1024,h.b8,h.b256,h.lenL,h.len,h.off,h.lit,
   λj t ht hf=>by rcases set_cases ht with ⟨_,rfl⟩|⟨_,ht⟩;exact⟨by simp only[hpi];omega,by simp only[hpi];exact Int.ofNat_lt.2 hid,hok⟩;exact h.page j t ht hf,
   λj t ht=>by rcases set_cases ht with ⟨_,rfl⟩|⟨_,ht⟩;rfl;exact h.pins j t ht,
   λj k t t' ht ht' hf hf' he=>by
    rcases set_cases ht with ⟨ej,rfl⟩|⟨hj,ht⟩ <;> rcases set_cases ht' with ⟨ek,rfl⟩|⟨hk,ht'⟩
    ·rw[ej,ek]
    ·have:=hoth k t' ht' hk;rw[show t'.has id=true from has_iff.2 ⟨hf',by rw[← he];exact hpi⟩] at this;cases this
    ·have:=hoth j t ht hj;rw[show t.has id=true from has_iff.2 ⟨hf,by rw[he];exact hpi⟩] at this;cases this
    ·exact h.one j k t t' ht ht' hf hf' he,
   λj t ht hf hd=>by rcases set_cases ht with ⟨_,rfl⟩|⟨_,ht⟩;cases hd;exact h.clean j t ht hf hd⟩
theorem rel_put[GhoI]{C:CaA}{G:GA}(h:CaInv C)(k:CaRel C G){i:Nat}{s:SlotA}(hi:C.slots[i]? = some s)(p:PageA)(id:Nat)(hpi:p.id=(id:Int))(hid:id<C.disk.blocks)(hlo:gLow≤id)(hok:pgOk p C.disk.size)
  (hx:s.has id=true∨(s.full=false∧∀(j:Nat) (t:SlotA),C.slots[j]? = some t→t.has id=false)):CaInv (putC C i p)∧CaRel (putC C i p) (G.put p):=by
 have hoth:∀(j:Nat) (t:SlotA),C.slots[j]? = some t→j≠i→t.has id=false:=λj t hj hne=>by
  rcases hx with hx|⟨_,hx⟩
  ·cases hb:t.has id with
   | false=>rfl
   | true =>
    have h1:=has_iff.1 hx;have h2:=has_iff.1 hb;exact absurd (h.one j i t s hj hi h2.1 h1.1 (by rw[h1.2,h2.2])) hne
  ·exact hx j t hj
 have hself:SlotA.has ⟨p,true,true,true,0⟩ id=true:=has_iff.2 ⟨rfl,hpi⟩;have inv:CaInv (putC C i p):=inv_put h hi p id hpi hid hlo hok hx;have hidn:p.id.toNat=id:=by omega
 have clean:∀id',id'≠id→(∀(j:Nat) (t:SlotA),C.slots[j]? = some t→t.has id'=true→t.dirty=false)→∀(j:Nat) (t:SlotA),(putC C i p).slots[j]? = some t→t.has id'=true→t.dirty=false:=λid' hne hc j t ht hh=>by
  rcases set_cases ht with ⟨_,rfl⟩|⟨_,ht⟩
  ·have:=(has_iff.1 hh).2;simp only[hpi] at this;omega
  ·exact hc j t ht hh
 refine⟨inv,k.blocks,k.size,λid' r hr=>?_,λid' b hb=>?_,λid' b hb=>?_,?_,λid' h'=>by
  obtain⟨a1,a2,a3⟩:=k.low id' h';have e:id'≠p.id.toNat:=by omega
  exact⟨(upd_ne _ _ e).trans a1,(upd_ne _ _ e).trans a2,(upd_ne _ _ e).trans a3⟩⟩
 ·unfold GA.put at hr;simp only[hidn] at hr;by_cases e:id'=id
  ·subst e;rw[upd_self] at hr;injection hr with hr;rw[← hr];exact inv.vw_at (i:=i) (s:=⟨p,true,true,true,0⟩) (set_self hi) hself
  ·rw[upd_ne _ _ e] at hr;rw[← k.view id' r hr];by_cases hx2:∃(j:Nat) (t:SlotA),C.slots[j]? = some t∧t.has id'=true
   ·obtain⟨j,t,hj,ht⟩:=hx2;rw[h.vw_at hj ht];have hne:j≠i:=by
     rintro rfl;rw[hi] at hj;injection hj with hj;subst hj;rcases hx with hx|⟨hx,_⟩
     ·have h1:=(has_iff.1 hx).2;have h2:=(has_iff.1 ht).2;omega
     ·rw[SlotA.has,hx] at ht;simp at ht
    exact inv.vw_at (i:=j) (s:=t) (set_other hne hj) ht
   ·have hn:∀(j:Nat) (t:SlotA),C.slots[j]? = some t→t.has id'=false:=λj t hj=>by
     cases hb:t.has id' with
     | false=>rfl
     | true=>exact absurd ⟨j,t,hj,hb⟩ hx2
    rw[vw_none hn];exact vw_none (λj t hj=>by
     rcases set_cases hj with ⟨_,rfl⟩|⟨_,hj⟩
     ·cases hb:SlotA.has ⟨p,true,true,true,0⟩ id' with
      | false=>rfl
      | true =>
       have:=(has_iff.1 hb).2;simp only[hpi] at this;omega
     ·exact hn j t hj)
 ·have hb2:id'≠id∧(G.look id'=some b∨(id'<gLow∧b=gBlk id')):=by
   rcases hb with hb|hb
   ·unfold GA.put at hb;simp only[hidn] at hb;by_cases e:id'=id
    ·subst e;rw[upd_self] at hb;cases hb
    ·rw[upd_ne _ _ e] at hb;exact⟨e,.inl hb⟩
   ·exact⟨by omega,.inr hb⟩
  obtain⟨k1,k2⟩:=k.look id' b hb2.2;exact⟨k1,clean id' hb2.1 k2⟩
 ·unfold GA.put at hb;simp only[hidn] at hb;by_cases e:id'=id
  ·subst e;rw[upd_self] at hb;cases hb
  ·rw[upd_ne _ _ e] at hb;obtain⟨k1,k2,k3⟩:=k.last id' b hb;exact⟨k1,k2,clean id' e k3⟩
 ·have hc:=k.cost;unfold CaA.cost at hc ⊢;have:=countP_set (·.wet) C.slots i ⟨p,true,true,true,0⟩ s hi;have e:SlotA.wet ⟨p,true,true,true,0⟩=true:=rfl;rw[e] at this;show C.disk.waiting.length+(C.slots.set i ⟨p,true,true,true,0⟩).countP (·.wet)≤G.cost+1;simp at this;split at this <;> omega
theorem CaRel.drop_low[GhoI]{C:CaA}{G:GA}(k:CaRel C G)(id:Nat):∀id',id'<gLow→(G.drop id).view id'=none∧G.look id'=none∧G.last id'=none:=λid' h'=>by
 obtain⟨a1,a2,a3⟩:=k.low id' h';refine⟨?_,a2,a3⟩;unfold GA.drop;simp only;by_cases e:id'=id
 ·rw[e,upd_self,← e,a2];rfl
 ·rw[upd_ne _ _ e];exact a1
theorem rel_drop[GhoI]{C:CaA}{G:GA}(h:CaInv C)(k:CaRel C G){i:Nat}{s:SlotA}{id:Nat}(hi:C.slots[i]? = some s)(hs:s.has id=true):CaInv { C with slots:=C.slots.set i slot0 }∧CaRel { C with slots:=C.slots.set i slot0 } (G.drop id):=by
 obtain⟨hf,hid⟩:=has_iff.1 hs;have inv:CaInv { C with slots:=C.slots.set i slot0 } :=
  ⟨by simpa using h.n3,by simpa using h.n64,by simpa using h.hand,h.s256,h.s1024,h.b8,h.b256,h.lenL,h.len,h.off,h.lit,
   λj t ht hf=>by rcases set_cases ht with ⟨_,rfl⟩|⟨_,ht⟩;exact absurd hf (by simp[slot0]);exact h.page j t ht hf,
   λj t ht=>by rcases set_cases ht with ⟨_,rfl⟩|⟨_,ht⟩;rfl;exact h.pins j t ht,
   λj k t t' ht ht' hf hf' he=>by
    rcases set_cases ht with ⟨rfl,rfl⟩|⟨hj,ht⟩
    ·exact absurd hf (by simp[slot0])
    ·rcases set_cases ht' with ⟨rfl,rfl⟩|⟨hk,ht'⟩
     ·exact absurd hf' (by simp[slot0])
     ·exact h.one j k t t' ht ht' hf hf' he,
   λj t ht hf hd=>by rcases set_cases ht with ⟨_,rfl⟩|⟨_,ht⟩;exact absurd hf (by simp[slot0]);exact h.clean j t ht hf hd⟩
 have clean:∀id',(∀(j:Nat) (t:SlotA),C.slots[j]? = some t→t.has id'=true→t.dirty=false)→∀(j:Nat) (t:SlotA),(C.slots.set i slot0)[j]? = some t→t.has id'=true→t.dirty=false:=λid' hc j t ht hh=>by
  rcases set_cases ht with ⟨_,rfl⟩|⟨_,ht⟩
  ·rfl
  ·exact hc j t ht hh
 refine⟨inv,k.blocks,k.size,λid' r hr=>?_,λid' b hb=>?_,λid' b hb=>?_,?_,k.drop_low id⟩
 ·unfold GA.drop at hr;simp only at hr;by_cases e:id'=id
  ·subst e;rw[upd_self] at hr;unfold openO at hr;obtain⟨b,hb,hr⟩:=Option.map_eq_some_iff.1 hr;rw[← hr,← (k.look id' b (.inl hb)).1];exact vw_none (λj t hk=>by
     rcases set_cases hk with ⟨_,rfl⟩|⟨hne,hk⟩
     ·rfl
     ·cases hb:t.has id' with
      | false=>rfl
      | true =>
       have h2:=has_iff.1 hb;exact absurd (h.one j i t s hk hi h2.1 hf (by rw[h2.2,hid])) hne)
  ·rw[upd_ne _ _ e] at hr;rw[← k.view id' r hr];by_cases hx2:∃(j:Nat) (t:SlotA),C.slots[j]? = some t∧t.has id'=true
   ·obtain⟨j,t,hj,ht⟩:=hx2;rw[h.vw_at hj ht];have hne:j≠i:=by
     rintro rfl;rw[hi] at hj;injection hj with hj;subst hj;have h2:=(has_iff.1 ht).2;omega
    exact inv.vw_at (i:=j) (s:=t) (set_other hne hj) ht
   ·have hn:∀(j:Nat) (t:SlotA),C.slots[j]? = some t→t.has id'=false:=λj t hj=>by
     cases hb:t.has id' with
     | false=>rfl
     | true=>exact absurd ⟨j,t,hj,hb⟩ hx2
    rw[vw_none hn];exact vw_none (λj t hj=>by
     rcases set_cases hj with ⟨_,rfl⟩|⟨_,hj⟩
     ·rfl
     ·exact hn j t hj)
 ·obtain⟨k1,k2⟩:=k.look id' b hb;exact⟨k1,clean id' k2⟩
 ·obtain⟨k1,k2,k3⟩:=k.last id' b hb;exact⟨k1,k2,clean id' k3⟩
 ·have hc:=k.cost;unfold CaA.cost at hc ⊢;have:=countP_set (·.wet) C.slots i slot0 s hi;have e:slot0.wet=false:=rfl;rw[e] at this;show C.disk.waiting.length+(C.slots.set i slot0).countP (·.wet)≤G.cost;simp at this;split at this <;> omega
theorem inv_clear[GhoI]{C:CaA}(h:CaInv C){i:Nat}{s:SlotA}(_:C.slots[i]? = some s):CaInv { C with slots:=C.slots.set i slot0 } :=
 ⟨by simpa using h.n3,by simpa using h.n64,by simpa using h.hand,h.s256,h.s1024,h.b8,h.b256,h.lenL,h.len,h.off,h.lit,
   λj t ht hf=>by rcases set_cases ht with ⟨_,rfl⟩|⟨_,ht⟩;exact absurd hf (by simp[slot0]);exact h.page j t ht hf,
   λj t ht=>by rcases set_cases ht with ⟨_,rfl⟩|⟨_,ht⟩;rfl;exact h.pins j t ht,
   λj k t t' ht ht' hf hf' he=>by
    rcases set_cases ht with ⟨rfl,rfl⟩|⟨hj,ht⟩
    ·exact absurd hf (by simp[slot0])
    ·rcases set_cases ht' with ⟨rfl,rfl⟩|⟨hk,ht'⟩
     ·exact absurd hf' (by simp[slot0])
     ·exact h.one j k t t' ht ht' hf hf' he,
   λj t ht hf hd=>by rcases set_cases ht with ⟨_,rfl⟩|⟨_,ht⟩;exact absurd hf (by simp[slot0]);exact h.clean j t ht hf hd⟩
theorem rel_drop_no[GhoI]{C:CaA}{G:GA}(k:CaRel C G){id:Nat}(hn:∀(j:Nat) (t:SlotA),C.slots[j]? = some t→t.has id=false):CaRel C (G.drop id):=by
 refine⟨k.blocks,k.size,λid' r hr=>?_,k.look,k.last,k.cost,k.drop_low id⟩;unfold GA.drop at hr;simp only at hr;by_cases e:id'=id
 ·subst e;rw[upd_self] at hr;unfold openO at hr;obtain⟨b,hb,hr⟩:=Option.map_eq_some_iff.1 hr;rw[← hr,← (k.look id' b (.inl hb)).1];exact vw_none hn
 ·rw[upd_ne _ _ e] at hr;exact k.view id' r hr
theorem rep_at{n j:Nat}{t:SlotA}(h:(List.replicate n slot0)[j]? = some t):t=slot0:=by
 rw[List.getElem?_replicate] at h;split at h
 ·injection h with h;exact h.symm
 ·cases h
theorem inv_empty[GhoI](D:DiskA)(n:Nat)(h3:3≤n)(h64:n≤64)(s256:256≤D.size)(s1024:D.size≤1024)(b8:8≤D.blocks)(b256:D.blocks≤256)(lenL:D.lasting.length=D.blocks)
  (len:∀id:Nat,id<D.blocks→(D.look id).length=D.size) (off:D.off=false) (lit:D.lit=false):CaInv ⟨D,List.replicate n slot0,0⟩ :=
 ⟨by simpa using h3,by simpa using h64,by simp;omega,s256,s1024,b8,b256,lenL,len,off,lit,
  λj t ht hf=>by (rw[rep_at ht] at hf;cases hf),λj t ht=>by (rw[rep_at ht];rfl),
  λj k t t' ht _ hf _ _=>by (rw[rep_at ht] at hf;cases hf),λj t ht hf _=>by (rw[rep_at ht] at hf;cases hf)⟩
theorem rep_count(n:Nat):(List.replicate n slot0).countP (·.wet)=0:=by
 rw[List.countP_replicate];rfl
theorem rel_empty[GhoI](D:DiskA)(n:Nat)(G:GA)(hb:D.blocks=G.blocks)(hs:D.size=G.size)(hv:∀id r,G.view id=some r→openAtP (D.look id) id=r)(hl:∀id b,(G.look id=some b∨(id<gLow∧b=gBlk id))→D.look id=b)
  (ht:∀id b,G.last id=some b→D.lasting.getD id []=b∧∀p∈D.waiting,p.1≠id) (hc:D.waiting.length≤G.cost) (hlo:∀id,id<gLow→G.view id=none∧G.look id=none∧G.last id=none):CaRel ⟨D,List.replicate n slot0,0⟩ G :=
 ⟨hb,hs,λid r hr=>by rw[vw_none (λj t hj=>by rw[rep_at hj];rfl)];exact hv id r hr,
  λid b h=>⟨hl id b h,λj t hj hh=>by rw[rep_at hj];rfl⟩,λid b h=>⟨(ht id b h).1,(ht id b h).2,λj t hj hh=>by rw[rep_at hj];rfl⟩,
  by unfold CaA.cost;simp only[rep_count];omega,hlo⟩
theorem openAt_inl{b:List UInt8}{id:Int}{p:PageA}(h:openAtP b id=.inl p):pgOk p b.length∧p.id=id∧sealP p b.length=b:=by
 unfold openAtP at h;split at h
 ·cases h
 ·rename_i ho;split at h
  ·cases h
  ·rename_i hid;injection h with h;subst h;simp only[Bool.not_eq_false] at ho;unfold openB at ho;simp only[Bool.and_eq_true,decide_eq_true_eq] at ho;exact⟨⟨ho.1,readP_gen b⟩,by simpa using hid,ho.2⟩
theorem openAt_nil(id:Int)(p:PageA):openAtP [] id ≠ .inl p:=by
 intro h;have:=(pgCheck_none (openAt_inl h).1.1).1;simp at this
theorem look_far{D:DiskA}{id:Nat}(hl:D.lasting.length=D.blocks)(hw:∀p∈D.waiting,p.1<D.blocks)(hid:D.blocks≤id):D.look id=[]:=by
 unfold DiskA.look;rw[lookW_none id _ (λp hp e=>by have:=hw p hp;omega)];simp[List.getD,List.getElem?_eq_none (by omega:D.lasting.length≤id)]
theorem rel_flushC[GhoI]{C:CaA}{G:GA}(h:CaInv C)(hw:∀p∈C.disk.waiting,p.1<C.disk.blocks)(k:CaRel C G)(hc:∀(j:Nat) (t:SlotA),C.slots[j]? = some t→t.wet=false):CaRel C G.flushC:=by
 have hcl:∀id,∀(j:Nat) (t:SlotA),C.slots[j]? = some t→t.has id=true→t.dirty=false:=λid j t hj hh=>by
  have:=hc j t hj;simpa[SlotA.wet,(has_iff.1 hh).1] using this
 refine⟨k.blocks,k.size,k.view,λid b hb=>⟨?_,hcl id⟩,k.last,k.cost,λid h'=>by obtain⟨a1,a2,a3⟩:=k.low id h';exact⟨a1,by unfold GA.flushC;simp only;rw[a1];exact a2,a3⟩⟩;rcases hb with hb|hb
 case inr=>exact (k.look id b (.inr hb)).1
 unfold GA.flushC at hb;simp only at hb;split at hb
 ·rename_i p hp;injection hb with hb;have hv:=k.view id _ hp;have hop:openAtP (C.disk.look id) id=.inl p:=by
   by_cases hx2:∃(j:Nat) (t:SlotA),C.slots[j]? = some t∧t.has id=true
   ·obtain⟨j,t,hj,ht⟩:=hx2;rw[h.vw_at hj ht] at hv;injection hv with hv;have:=h.clean j t hj (has_iff.1 ht).1 (hcl id j t hj ht);rw[(has_iff.1 ht).2,hv] at this;simpa using this
   ·rw[← hv];exact (vw_none (λj t hj=>by
     cases hb:t.has id with
     | false=>rfl
     | true=>exact absurd ⟨j,t,hj,hb⟩ hx2)).symm
  by_cases hid:id<C.disk.blocks
  ·have:=(openAt_inl hop).2.2;rw[h.len id hid,k.size] at this;rw[← hb,this]
  ·rw[look_far h.lenL hw (by omega)] at hop;exact absurd hop (openAt_nil _ _)
 ·exact (k.look id b (.inl hb)).1
theorem settle_length:∀(w:List (Nat × List UInt8)) (l:List (List UInt8)),(settle l w).length=l.length
 | [],_=>rfl
 | (i,b) :: w,l=>by rw[settle,settle_length w,List.length_set]
theorem settle_get:∀(w:List (Nat × List UInt8)) (l:List (List UInt8)) (i:Nat),i<l.length→(settle l w).getD i []=(lookW i w).getD (l.getD i [])
 | [],l,i,_=>rfl
 | (j,b) :: w,l,i,hi=>by
  rw[settle,settle_get w (l.set j b) i (by rw[List.length_set];exact hi),lookW];cases lookW i w with
  | some c=>rfl
  | none =>
   by_cases e:j=i
   ·subst e;simp[List.getD,hi]
   ·simp[List.getD,List.getElem?_set_ne e,e]
def DiskA.flushed(D:DiskA):DiskA:={ D with lasting:=settle D.lasting D.waiting,waiting:=[],after:=RowKit.wrap64 (D.after-1),count:=RowKit.wrap64 (D.count+1) }
theorem flushed_look{D:DiskA}(hl:D.lasting.length=D.blocks)(hw:∀p∈D.waiting,p.1<D.blocks)(id:Nat):D.flushed.look id=D.look id:=by
 by_cases hid:id<D.blocks
 ·show (lookW id []).getD ((settle D.lasting D.waiting).getD id [])=_;rw[settle_get _ _ _ (by omega)];rfl
 ·rw[look_far hl hw (by omega),look_far (D:=D.flushed) (by show (settle _ _).length=_;rw[settle_length];exact hl) (λp hp=>by cases hp) (by show D.blocks≤id;omega)]
def flushDC(C:CaA):CaA:={ C with disk:=C.disk.flushed }
theorem vw_disk{C:CaA}{D:DiskA}(h:∀id,D.look id=C.disk.look id)(id:Nat):CaA.vw { C with disk:=D } id=C.vw id:=by
 unfold CaA.vw;simp only[h]
theorem rel_flushD[GhoI]{C:CaA}{G:GA}(h:CaInv C)(hw:∀p∈C.disk.waiting,p.1<C.disk.blocks)(k:CaRel C G):CaInv (flushDC C)∧CaRel (flushDC C) G.flushD:=by
 have hk:∀id,(flushDC C).disk.look id=C.disk.look id:=λid=>flushed_look h.lenL hw id
 refine⟨⟨h.n3,h.n64,h.hand,h.s256,h.s1024,h.b8,h.b256,by show (settle _ _).length=_;rw[settle_length];exact h.lenL,λid hid=>by rw[hk];exact h.len id hid,h.off,h.lit,h.page,h.pins,h.one,
  λj t hj hf hd=>by rw[hk];exact h.clean j t hj hf hd⟩,k.blocks,k.size,λid r hr=>?_,λid b hb=>?_,λid b hb=>?_,?_,λid h'=>by obtain⟨a1,a2,_⟩:=k.low id h';exact⟨a1,a2,a2⟩⟩
 ·rw[← k.view id r hr];exact vw_disk hk id
 ·rw[hk];exact k.look id b hb
 ·obtain⟨k1,k2⟩:=k.look id b (.inl hb);refine⟨?_,(λp hp=>by cases hp),k2⟩;have hkk:=hk id;rw[k1] at hkk;exact hkk
 ·have:=k.cost;unfold CaA.cost at this ⊢;show (0:Nat)+C.slots.countP (·.wet)≤G.cost;omega
theorem inv_low[GhoI]{C:CaA}(h:CaInv C){at_:Nat}(hat:at_<gLow)(b:List UInt8)(hb:b.length=C.disk.size):CaInv { C with disk:=C.disk.wrote at_ b }:=by
 have lk:∀j,at_≠j→(C.disk.wrote at_ b).look j=C.disk.look j:=λj hj=>by rw[look_wrote,if_neg hj]
 exact⟨h.n3,h.n64,h.hand,h.s256,h.s1024,h.b8,h.b256,h.lenL,λj hj=>by
   show ((C.disk.wrote at_ b).look j).length=_;rw[look_wrote];split
   ·exact hb
   ·exact h.len j hj,h.off,h.lit,h.page,h.pins,h.one,λi s hi hf hd=>by
   show openAtP ((C.disk.wrote at_ b).look _) _=_;have:=(h.page i s hi hf).1;rw[lk _ (by omega)];exact h.clean i s hi hf hd⟩
theorem CaInv.gho{i j:GhoI}(e : @gLow i = @gLow j){C:CaA}(h : @CaInv i C) : @CaInv j C:=by
 obtain⟨a1,a2,a3,a4,a5,a6,a7,a8,a9,a10,a11,a12,a13,a14,a15⟩:=h;exact @CaInv.mk j C a1 a2 a3 a4 a5 a6 a7 a8 a9 a10 a11 (λk s a b=>by rw[← e];exact a12 k s a b) a13 a14 a15
theorem rel_low[i:GhoI]{C:CaA}{G:GA}(h:CaInv C)(k:CaRel C G){at_:Nat}(hat:at_<gLow)(b:List UInt8) :
  @CaRel (gPut at_ b) { C with disk:=C.disk.wrote at_ b } { G with cost:=G.cost+1 }:=by
 have lk:∀j,at_≠j→(C.disk.wrote at_ b).look j=C.disk.look j:=λj hj=>by rw[look_wrote,if_neg hj]
 have ne:∀id,(G.view id≠none∨G.look id≠none∨G.last id≠none)→at_≠id:=λid hid e=>by
  obtain⟨a1,a2,a3⟩:=k.low id (e ▸ hat);rcases hid with hid|hid|hid
  ·exact hid a1
  ·exact hid a2
  ·exact hid a3
 refine @CaRel.mk (gPut at_ b) _ _ k.blocks k.size (λid r hr=>?_) (λid c hc=>?_) (λid c hc=>?_) ?_ k.low
 ·have hn:=ne id (.inl (by rw[show G.view id=some r from hr];simp));rw[← k.view id r hr];unfold CaA.vw;simp only[lk id hn]
 ·by_cases e:at_=id
  ·subst e;refine⟨?_,λj t hj ht=>?_⟩
   ·rcases hc with hc|⟨_,hc⟩
    ·exact absurd (show G.look at_=some c from hc) (by rw[(k.low at_ hat).2.1];simp)
    ·show (C.disk.wrote at_ b).look at_=c
     rw[look_wrote,if_pos rfl,hc];show b=if at_=at_ then b else _
     rw[if_pos rfl]
   ·obtain⟨h1,h2⟩:=has_iff.1 ht;have:=(h.page j t hj h1).1;omega
  ·have hc2:G.look id=some c∨(id<gLow∧c=gBlk id):=by
    rcases hc with hc|⟨h1,h2⟩
    ·exact .inl hc
    ·exact .inr ⟨h1,h2.trans (if_neg (λe2=>e e2.symm))⟩
   obtain⟨k1,k2⟩:=k.look id c hc2;exact⟨(lk id e).trans k1,k2⟩
 ·have hn:=ne id (.inr (.inr (by rw[show G.last id=some c from hc];simp)));obtain⟨k1,k2,k3⟩:=k.last id c hc;refine⟨k1,λp hp e=>?_,k3⟩;have hp:p∈C.disk.waiting++[(at_,b)]:=hp;rcases List.mem_append.1 hp with hp|hp
  ·exact k2 p hp e
  ·rw[List.mem_singleton.1 hp] at e;exact hn e
 ·have:=k.cost;unfold CaA.cost at this ⊢;show (C.disk.waiting++[(at_,b)]).length+C.slots.countP (·.wet)≤G.cost+1;rw[List.length_append];simp only[List.length_cons,List.length_nil];omega
end
section
open Go.RowKit
abbrev PairB:=ByteArray × ByteArray
def sumBy{α:Type}(g:α→Int):List α→Int
 | []=>0
 | x :: r=>g x+sumBy g r
theorem sumBy_append{α:Type}(g:α→Int)(l r:List α):sumBy g (l++r)=sumBy g l+sumBy g r:=by
 induction l with
 | nil=>simp[sumBy]
 | cons x l ih=>simp only[List.cons_append,sumBy,ih];omega
theorem sumBy_take{α:Type}(g:α→Int)(l:List α)(k:Nat)(x:α)(h:l[k]? = some x):sumBy g (l.take (k+1))=sumBy g (l.take k)+g x:=by
 rw[take_one l k x h,sumBy_append];simp[sumBy]
theorem sumBy_le{α:Type}(g:α→Int)(M:Int)(l:List α)(hg:∀x∈l,0≤g x∧g x≤M):0≤sumBy g l∧sumBy g l≤M * l.length:=by
 induction l with
 | nil=>simp[sumBy]
 | cons x l ih =>
  have h1:=hg x (by simp);have h2:=ih (λy hy=>hg y (by simp[hy]));simp only[sumBy,List.length_cons];have:M * ((l.length+1:Nat):Int)=M * l.length+M:=by rw[Int.natCast_add,Int.mul_add];simp
  omega
theorem mem_take{α:Type}{l:List α}{k:Nat}{x:α}(h:x∈l.take k):x∈l:=List.mem_of_mem_take h
def needN(n size:Int):Int:=if n<1∨size<256∨1024<size then 0 else (n-1) / (size-28)+1
theorem needN_le(n size:Int)(h:n≤4096):0≤needN n size∧needN n size≤4096:=by
 unfold needN;split
 ·omega
 ·rename_i hc;have h1:0≤(n-1) / (size-28):=Int.ediv_nonneg (by omega) (by omega);have h2:(n-1) / (size-28)≤n-1:=Int.ediv_le_self _ (by omega);omega
def chainP(size:Int)(p:PairB):Int:=if (p.2.size:Int)≤24 then 0 else needN p.2.size size
def rightFrom(last:ByteArray):List PairB→Bool
 | []=>true
 | p :: r=>keyB p.1 && !leS p.1 last && decide (p.2.size≤4096) && rightFrom p.1 r
def rightP(l:List PairB):Bool:=rightFrom ⟨#[]⟩ l
theorem rightFrom_mem(l:List PairB):∀last,rightFrom last l=true→∀p∈l,p.1.size≤32∧p.2.size≤4096:=by
 induction l with
 | nil=>intro _ _ p hp;simp at hp
 | cons q r ih =>
  intro last h p hp;simp only[rightFrom,Bool.and_eq_true,decide_eq_true_eq] at h;rcases List.mem_cons.1 hp with rfl|hp
  ·exact⟨((keyB_iff _).1 h.1.1.1).2,h.1.2⟩
  ·exact ih _ h.2 p hp
def mostN(l:List PairB)(size:Int):Int:=if l=[] then 0 else 2 * l.length-1+sumBy (chainP size) l
def codeN(size:Int)(ls:List (List PairB)):Nat:=if size<256∨1024<size then 2 else if ls.all rightP then 0 else 1
theorem rightFrom_drop(last:ByteArray)(l:List PairB)(i:Nat)(h:i<l.length) :
  rightFrom last (l.drop i)=(keyB l[i].1 && !leS l[i].1 last && decide (l[i].2.size≤4096) && rightFrom l[i].1 (l.drop (i+1))):=by
 rw[List.drop_eq_getElem_cons h];rfl
end
section
structure SupA where
 gen:Nat
 blocks:Nat
 size:Nat
 root:Nat
 keys:Nat
 deriving DecidableEq
def supOk(s:SupA):Bool:=decide (8≤s.blocks) && decide (s.blocks≤256) && decide (256≤s.size) && decide (s.size≤1024) && decide (s.keys≤2147483647) && decide (s.root=0∨2≤s.root∧s.root<s.blocks) && decide (s.root=0→s.keys=0)
theorem supOk_iff(s:SupA):supOk s=true ↔ 8≤s.blocks∧s.blocks≤256∧256≤s.size∧s.size≤1024∧s.keys≤2147483647∧(s.root=0∨2≤s.root∧s.root<s.blocks)∧(s.root=0→s.keys=0):=by
 unfold supOk;simp only[Bool.and_eq_true,decide_eq_true_eq];exact⟨λ⟨⟨⟨⟨⟨⟨a,b⟩,c⟩,d⟩,e⟩,f⟩,g⟩=>⟨a,b,c,d,e,f,g⟩,λ⟨a,b,c,d,e,f,g⟩=>⟨⟨⟨⟨⟨⟨a,b⟩,c⟩,d⟩,e⟩,f⟩,g⟩⟩
def supBody(s:SupA):List UInt8:=leB 4 s.blocks++leB 4 s.size++leB 4 s.root++leB 4 s.keys++leB 8 s.gen
def supPg(s:SupA)(i:Nat):PageA:=⟨1,i,s.gen,supBody s⟩
def supBlk(s:SupA)(i:Nat):List UInt8:=sealP (supPg s i) s.size
theorem supBody_length(s:SupA):(supBody s).length=24:=by simp[supBody,leB_length]
theorem supPg_right{s:SupA}(h:supOk s=true){i:Nat}(hi:i<2):pgCheck (supPg s i) s.size=none:=by
 obtain⟨a,b,c,d,e,f,g⟩:=(supOk_iff s).1 h;have hb:=supBody_length s;have h1:sizedB s.size=true:=by unfold sizedB;simp;omega
 have h2:kindB (supPg s i).kind=true:=by show kindB 1=true;decide
 unfold pgCheck;rw[h1,h2,if_neg (by simp),if_neg];simp only[supPg];rw[hb];simp;omega
theorem supBlk_length{s:SupA}(h:supOk s=true)(i:Nat):(supBlk s i).length=s.size:=by
 obtain⟨a,b,c,d,e,f,g⟩:=(supOk_iff s).1 h;exact sealP_length _ _ (by simp only[supPg,supBody_length];omega)
def saidS(p:PageA):SupA:=⟨p.gen,numAt p.body 0 4,numAt p.body 4 4,numAt p.body 8 4,numAt p.body 12 4⟩
def saidOk(p:PageA):Bool:=decide (p.body.length=24) && decide (numAt p.body 16 8=p.gen) && decide (p.kind=1) && supOk (saidS p)
def openS(l:List UInt8)(i:Nat):Option SupA:=match openAtP l i with
 | .inl p=>if saidOk p=true∧(saidS p).size=l.length then some (saidS p) else none
 | .inr _=>none
theorem sup_n0(s:SupA)(h:s.blocks<4294967296):numAt (supBody s) 0 4=s.blocks:=by
 have e:supBody s=[]++(leB 4 s.blocks++(leB 4 s.size++leB 4 s.root++leB 4 s.keys++leB 8 s.gen)):=by simp only[supBody,List.append_assoc,List.nil_append]
 rw[e];exact numAt_mid [] _ 4 s.blocks 0 rfl h
theorem sup_n4(s:SupA)(h:s.size<4294967296):numAt (supBody s) 4 4=s.size:=by
 have e:supBody s=leB 4 s.blocks++(leB 4 s.size++(leB 4 s.root++leB 4 s.keys++leB 8 s.gen)):=by simp only[supBody,List.append_assoc]
 rw[e];exact numAt_mid _ _ 4 s.size 4 (leB_length _ _) h
theorem sup_n8(s:SupA)(h:s.root<4294967296):numAt (supBody s) 8 4=s.root:=by
 have e:supBody s=(leB 4 s.blocks++leB 4 s.size)++(leB 4 s.root++(leB 4 s.keys++leB 8 s.gen)):=by simp only[supBody,List.append_assoc]
 rw[e];exact numAt_mid _ _ 4 s.root 8 (by rw[List.length_append,leB_length,leB_length]) h
theorem sup_n12(s:SupA)(h:s.keys<4294967296):numAt (supBody s) 12 4=s.keys:=by
 have e:supBody s=(leB 4 s.blocks++leB 4 s.size++leB 4 s.root)++(leB 4 s.keys++leB 8 s.gen):=by simp only[supBody,List.append_assoc]
 rw[e];exact numAt_mid _ _ 4 s.keys 12 (by rw[List.length_append,List.length_append,leB_length,leB_length,leB_length]) h
theorem sup_n16(s:SupA)(h:s.gen<18446744073709551616):numAt (supBody s) 16 8=s.gen:=by
 have e:supBody s=(leB 4 s.blocks++leB 4 s.size++leB 4 s.root++leB 4 s.keys)++(leB 8 s.gen++[]):=by simp only[supBody,List.append_assoc,List.append_nil]
 rw[e];exact numAt_mid _ _ 8 s.gen 16 (by rw[List.length_append,List.length_append,List.length_append,leB_length,leB_length,leB_length,leB_length]) h
theorem said_sup{s:SupA}(h:supOk s=true)(hg:s.gen<18446744073709551616)(i:Nat):saidS (supPg s i)=s∧saidOk (supPg s i)=true:=by
 obtain⟨a,b,c,d,e,f, -⟩:=(supOk_iff s).1 h;have hb:(supPg s i).body=supBody s:=rfl;have hs:saidS (supPg s i)=s:=by
  unfold saidS;rw[hb,sup_n0 s (by omega),sup_n4 s (by omega),sup_n8 s (by omega),sup_n12 s (by omega)];rfl
 refine⟨hs,?_⟩;unfold saidOk;rw[hs,h,hb,sup_n16 s hg,supBody_length];show (decide (24=24) && decide (s.gen=s.gen) && decide ((1:Int)=1) && true)=true;rw[decide_eq_true rfl,decide_eq_true rfl,decide_eq_true rfl];rfl
theorem openS_blk{s:SupA}(h:supOk s=true)(hg:s.gen<18446744073709551616){i:Nat}(hi:i<2):openS (supBlk s i) i=some s:=by
 obtain⟨h1,h2⟩:=said_sup h hg i;unfold openS;have:=seal_openAt (p:=supPg s i) (size:=s.size) (supPg_right h hi) hg;rw[show openAtP (supBlk s i) (i:Int)=.inl (supPg s i) from this];simp only;rw[h1,supBlk_length h,if_pos ⟨h2,rfl⟩]
theorem openS_ok{l:List UInt8}{i:Nat}{s:SupA}(h:openS l i=some s):supOk s=true∧s.gen<18446744073709551616∧s.size=l.length:=by
 unfold openS at h;split at h
 ·rename_i p hp;split at h
  ·rename_i hc;injection h with h;subst h;have hk:=hc.1;unfold saidOk at hk;simp only[Bool.and_eq_true] at hk;refine⟨hk.2,?_,hc.2⟩;unfold openAtP at hp;split at hp
   ·cases hp
   ·split at hp
    ·cases hp
    ·injection hp with hp;subst hp;exact readP_gen l
  ·cases h
 ·cases h
structure MapA where
 gen:Nat
 blocks:Nat
 used:List Nat
 deriving DecidableEq
def mapOk(m:MapA):Bool:=decide (8≤m.blocks) && decide (m.blocks≤256) && decide (6≤m.used.length) && decide (m.used.take 6=[0,1,2,3,4,5]) && decide (m.used.Pairwise (· < ·)) && decide (∀n∈m.used,n<m.blocks)
theorem mapOk_iff(m:MapA):mapOk m=true ↔ 8≤m.blocks∧m.blocks≤256∧6≤m.used.length∧m.used.take 6=[0,1,2,3,4,5]∧m.used.Pairwise (· < ·)∧∀n∈m.used,n<m.blocks:=by
 unfold mapOk;simp only[Bool.and_eq_true,decide_eq_true_eq];exact⟨λ⟨⟨⟨⟨⟨a,b⟩,c⟩,d⟩,e⟩,f⟩=>⟨a,b,c,d,e,f⟩,λ⟨a,b,c,d,e,f⟩=>⟨⟨⟨⟨⟨a,b⟩,c⟩,d⟩,e⟩,f⟩⟩
def orB(l:List UInt8)(q:Nat):List UInt8:=l.set (q / 8) (UInt8.ofNat ((l.getD (q / 8) 0).toNat ||| 2 ^ (q % 8)))
theorem orB_length(l:List UInt8)(q:Nat):(orB l q).length=l.length:=by simp[orB]
theorem orB_bit(l:List UInt8)(q p:Nat)(hq:q<8 * l.length):bitAt (orB l q) p=(bitAt l p || decide (p=q)):=by
 unfold bitAt orB;by_cases hj:p / 8=q / 8
 ·have hl:q / 8<l.length:=by omega
  rw[hj];have e1:(l.set (q / 8) (UInt8.ofNat ((l.getD (q / 8) 0).toNat ||| 2 ^ (q % 8)))).getD (q / 8) 0=UInt8.ofNat ((l.getD (q / 8) 0).toNat ||| 2 ^ (q % 8)):=by
   simp[List.getD,hl]
  have h2:(2:Nat) ^ (q % 8)<2 ^ 8:=Nat.pow_lt_pow_right (by omega) (by omega);rw[e1,UInt8.toNat_ofNat',Nat.mod_eq_of_lt (Nat.or_lt_two_pow (n:=8) (l.getD (q / 8) 0).toNat_lt h2),Nat.testBit_or];congr 1
  rw[Nat.testBit_two_pow];simp;omega
 ·have e1:(l.set (q / 8) (UInt8.ofNat ((l.getD (q / 8) 0).toNat ||| 2 ^ (q % 8)))).getD (p / 8) 0=l.getD (p / 8) 0:=by
   simp only[List.getD];rw[List.getElem?_set_ne (λe=>hj e.symm)]
  rw[e1];have:p≠q:=λe=>hj (by rw[e])
  simp[this]
def bitsM(blocks:Nat)(used:List Nat):List UInt8:=used.foldl orB (List.replicate ((blocks+7) / 8) 0)
theorem fold_orB_length:∀(u:List Nat) (l:List UInt8),(u.foldl orB l).length=l.length
 | [],_=>rfl
 | q :: u,l=>by rw[List.foldl_cons,fold_orB_length u,orB_length]
theorem fold_orB_bit:∀(u:List Nat) (l:List UInt8) (p:Nat),(∀q∈u,q<8 * l.length)→bitAt (u.foldl orB l) p=(bitAt l p || decide (p∈u))
 | [],l,p,_=>by simp
 | q :: u,l,p,h=>by
  rw[List.foldl_cons,fold_orB_bit u (orB l q) p (λx hx=>by rw[orB_length];exact h x (List.mem_cons_of_mem _ hx)),orB_bit l q p (h q List.mem_cons_self),Bool.or_assoc];congr 1
  by_cases e:p=q <;> simp[e]
theorem bitsM_length(b:Nat)(u:List Nat):(bitsM b u).length=(b+7) / 8:=by rw[bitsM,fold_orB_length,List.length_replicate]
theorem bitAt_zeros(n p:Nat):bitAt (List.replicate n 0) p=false:=by
 unfold bitAt;have:(List.replicate n (0:UInt8)).getD (p / 8) 0=0:=by
  rw[List.getD_eq_getElem?_getD,List.getElem?_replicate];split <;> rfl
 rw[this];simp
theorem bitsM_bit{b:Nat}{u:List Nat}(h:∀n∈u,n<b)(p:Nat):bitAt (bitsM b u) p=decide (p∈u):=by
 rw[bitsM,fold_orB_bit u _ p (λq hq=>by rw[List.length_replicate];have:=h q hq;omega),bitAt_zeros,Bool.false_or]
def mapBody(m:MapA):List UInt8:=leB 4 m.blocks++leB 4 m.used.length++bitsM m.blocks m.used
def mapPg(m:MapA)(i:Nat):PageA:=⟨5,i,m.gen,mapBody m⟩
def mapBlk(m:MapA)(i size:Nat):List UInt8:=sealP (mapPg m i) size
def place(gen k:Nat):Nat:=2+2 * (gen % 2)+k
def isPlace(gen i:Nat):Bool:=decide (i=place gen 0) || decide (i=place gen 1)
theorem mapBody_length(m:MapA):(mapBody m).length=8+(m.blocks+7) / 8:=by
 simp only[mapBody,List.length_append,leB_length,bitsM_length]
theorem mapPg_right{m:MapA}(h:mapOk m=true){i size:Nat}(hi:i<6)(h1:256≤size)(h2:size≤1024):pgCheck (mapPg m i) size=none:=by
 obtain⟨a,b,c,d,e,f⟩:=(mapOk_iff m).1 h;have hb:=mapBody_length m;have h1':sizedB size=true:=by unfold sizedB;simp;omega
 have h2':kindB (mapPg m i).kind=true:=by show kindB 5=true;decide
 unfold pgCheck;rw[h1',h2',if_neg (by simp),if_neg];simp only[mapPg];rw[hb];simp;omega
theorem mapBlk_length{m:MapA}(h:mapOk m=true)(i:Nat){size:Nat}(h1:256≤size):(mapBlk m i size).length=size:=by
 obtain⟨a,b,c,d,e,f⟩:=(mapOk_iff m).1 h;exact sealP_length _ _ (by simp only[mapPg,mapBody_length];omega)
def saidM(p:PageA):MapA :=
 if p.body.length<4∨256<numAt p.body 0 4 then ⟨0,0,[]⟩
 else ⟨p.gen,numAt p.body 0 4,(List.range (numAt p.body 0 4)).filter λi=>decide (8+i / 8<p.body.length) && (p.body.getD (8+i / 8) 0).toNat.testBit (i % 8)⟩
def usedIn(b:List UInt8)(n:Nat):List Nat:=(List.range n).filter λi=>decide (8+i / 8<b.length) && (b.getD (8+i / 8) 0).toNat.testBit (i % 8)
theorem saidM_pos(p:PageA)(h1:4≤p.body.length)(h2:numAt p.body 0 4≤256):saidM p=⟨p.gen,numAt p.body 0 4,usedIn p.body (numAt p.body 0 4)⟩:=by
 unfold saidM;rw[if_neg (by omega)];rfl
theorem filter_mem:∀(u:List Nat) (b:Nat),u.Pairwise (· < ·)→(∀n∈u,n<b)→(List.range b).filter (λi=>decide (i∈u))=u:=by
 intro u b hs hb;have hp:((List.range b).filter (λi=>decide (i∈u))).Pairwise (· < ·):=List.Pairwise.filter _ List.pairwise_lt_range;refine List.Perm.eq_of_pairwise (le:=λa b=>a<b) (λa b _ _ h1 h2=>by omega) hp hs ?_;refine (List.perm_ext_iff_of_nodup (hp.imp (λh e=>by omega)) (hs.imp (λh e=>by omega))).2 (λx=>?_);simp only[List.mem_filter,List.mem_range,decide_eq_true_eq];exact⟨λh=>h.2,λh=>⟨hb x h,h⟩⟩
theorem said_map{m:MapA}(h:mapOk m=true)(i:Nat):saidM (mapPg m i)=m:=by
 obtain⟨a,b,c,d,e,f⟩:=(mapOk_iff m).1 h;have hlen:m.used.length≤256:=by
  have h1:m.used=(List.range m.blocks).filter (λi=>decide (i∈m.used)):=(filter_mem _ _ e f).symm;have:=List.length_filter_le (λi=>decide (i∈m.used)) (List.range m.blocks);rw[← h1,List.length_range] at this;omega
 have n0:numAt (mapBody m) 0 4=m.blocks:=by
  have:mapBody m=[]++(leB 4 m.blocks++(leB 4 m.used.length++bitsM m.blocks m.used)):=by simp[mapBody]
  rw[this,numAt_mid [] _ 4 m.blocks 0 rfl (by have:(256:Nat) ^ 4=4294967296:=(by decide);omega)]
 have hl:=mapBody_length m;rw[saidM_pos (mapPg m i) (by show 4≤(mapBody m).length;omega) (by show numAt (mapBody m) 0 4≤256;omega)];show (⟨m.gen,numAt (mapBody m) 0 4,usedIn (mapBody m) (numAt (mapBody m) 0 4)⟩:MapA)=m;rw[n0];have hu:usedIn (mapBody m) m.blocks=m.used:=by
  unfold usedIn;refine Eq.trans ?_ (filter_mem _ _ e f);refine List.filter_congr (λx hx=>?_);have hxb:=List.mem_range.1 hx;have hb:=bitsM_bit f x;unfold bitAt at hb;have hg:(mapBody m).getD (8+x / 8) 0=(bitsM m.blocks m.used).getD (x / 8) 0:=by
   rw[List.getD_eq_getElem?_getD,List.getD_eq_getElem?_getD,mapBody,List.getElem?_append_right (by simp[leB_length])];simp[leB_length]
  rw[hg,hb,hl,decide_eq_true (by omega),Bool.true_and]
 rw[hu]
end
end Go.Proofs.YteabpacpngaoaaaGreatDoor
