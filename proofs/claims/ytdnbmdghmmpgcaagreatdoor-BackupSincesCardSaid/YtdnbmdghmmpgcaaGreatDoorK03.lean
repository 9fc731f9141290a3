import Derived.Test.YtdnbmdghmmpgcaaGreatDoorK02
namespace Go.Proofs.YtdnbmdghmmpgcaaGreatDoor
section
structure SlotA where
 page:PageA
 full:Bool
 dirty:Bool
 used:Bool
 pins:Nat
def slot0:SlotA:=⟨⟨0,0,0,[]⟩,false,false,false,0⟩
structure CaA where
 disk:DiskA
 slots:List SlotA
 hand:Nat
def SlotA.has(s:SlotA)(id:Nat):Bool:=s.full && decide (s.page.id=(id:Int))
def SlotA.wet(s:SlotA):Bool:=s.full && s.dirty
def CaA.vw(C:CaA)(id:Nat):PageA ⊕ (List Int × Nat) :=
 match C.slots.find? (·.has id) with
 | some s=>.inl s.page
 | none=>openAtP (C.disk.look id) id
def CaA.cost(C:CaA):Nat:=C.disk.waiting.length+C.slots.countP (·.wet)
def pgOk(p:PageA)(size:Nat):Prop:=pgCheck p size=none∧p.gen<18446744073709551616
structure CaInv(C:CaA):Prop where
 n3:3≤C.slots.length
 n64:C.slots.length≤64
 hand:C.hand<C.slots.length
 s256:256≤C.disk.size
 s1024:C.disk.size≤1024
 b8:8≤C.disk.blocks
 b256:C.disk.blocks≤256
 lenL:C.disk.lasting.length=C.disk.blocks
 len:∀id:Nat,id<C.disk.blocks→(C.disk.look id).length=C.disk.size
 off:C.disk.off=false
 lit:C.disk.lit=false
 page:∀(i:Nat) (s:SlotA),C.slots[i]? = some s→s.full=true→0≤s.page.id∧s.page.id<C.disk.blocks∧pgOk s.page C.disk.size
 pins:∀(i:Nat) (s:SlotA),C.slots[i]? = some s→s.pins=0
 one:∀(i j:Nat) (s t:SlotA),C.slots[i]? = some s→C.slots[j]? = some t→s.full=true→t.full=true→s.page.id=t.page.id→i=j
 clean:∀(i:Nat) (s:SlotA),C.slots[i]? = some s→s.full=true→s.dirty=false→openAtP (C.disk.look s.page.id.toNat) s.page.id=.inl s.page
theorem has_iff{s:SlotA}{id:Nat}:s.has id=true ↔ s.full=true∧s.page.id=(id:Int):=by simp[SlotA.has]
theorem CaInv.vw_at{C:CaA}(h:CaInv C){i:Nat}{s:SlotA}{id:Nat}(hi:C.slots[i]? = some s)(hs:s.has id=true):C.vw id=.inl s.page:=by
 unfold CaA.vw;cases hf:C.slots.find? (·.has id) with
 | none =>
  have:=List.find?_eq_none.1 hf s (List.mem_of_getElem? hi);exact absurd hs this
 | some t =>
  have ht:=List.find?_some hf;obtain⟨j,hj,e⟩:=List.getElem_of_mem (List.mem_of_find?_eq_some hf);have hj2:C.slots[j]? = some t:=by rw[← e];exact List.getElem?_eq_getElem hj
  have h1:=has_iff.1 hs;have h2:=has_iff.1 ht;have:=h.one i j s t hi hj2 h1.1 h2.1 (by rw[h1.2,h2.2]);subst this;rw[hi] at hj2;injection hj2 with hj2;rw[hj2]
theorem vw_none{C:CaA}{id:Nat}(h:∀(i:Nat) (s:SlotA),C.slots[i]? = some s→s.has id=false):C.vw id=openAtP (C.disk.look id) id:=by
 unfold CaA.vw;have:C.slots.find? (·.has id)=none:=List.find?_eq_none.2 (λs hs=>by
  obtain⟨j,hj,e⟩:=List.getElem_of_mem hs;have:=h j s (by rw[← e];exact List.getElem?_eq_getElem hj);rw[this];simp)
 rw[this]
structure Sim(C C':CaA):Prop where
 inv:CaInv C'
 blocks:C'.disk.blocks=C.disk.blocks
 size:C'.disk.size=C.disk.size
 lasting:C'.disk.lasting=C.disk.lasting
 vw:∀id:Nat,C'.vw id=C.vw id
 dirt:∀id:Nat,(∀(i:Nat) (s:SlotA),C.slots[i]? = some s→s.has id=true→s.dirty=false) →
  C'.disk.look id=C.disk.look id∧(∀(i:Nat) (s:SlotA),C'.slots[i]? = some s→s.has id=true→s.dirty=false)∧∀p∈C'.disk.waiting,p.1=id→p∈C.disk.waiting
 cost:C'.cost≤C.cost
theorem Sim.refl{C:CaA}(h:CaInv C):Sim C C:=⟨h,rfl,rfl,rfl,λ_=>rfl,λ_ h=>⟨rfl,h,λ_ h _=>h⟩,Nat.le_refl _⟩
theorem Sim.trans{C C1 C2:CaA}(h:Sim C C1)(k:Sim C1 C2):Sim C C2 :=
 ⟨k.inv,k.blocks.trans h.blocks,k.size.trans h.size,k.lasting.trans h.lasting,λid=>(k.vw id).trans (h.vw id),
  λid hd=>by
   obtain⟨h1,h2,h3⟩:=h.dirt id hd;obtain⟨k1,k2,k3⟩:=k.dirt id h2;exact⟨k1.trans h1,k2,λp hp e=>h3 p (k3 p hp e) e⟩,Nat.le_trans k.cost h.cost⟩
theorem set_cases{α:Type}{l:List α}{i j:Nat}{x y:α}(h:(l.set i x)[j]? = some y):(j=i∧y=x)∨(j≠i∧l[j]? = some y):=by
 by_cases e:j=i
 ·subst e;rw[List.getElem?_set] at h;simp at h;exact .inl ⟨rfl,h.2.symm⟩
 ·right
  rw[List.getElem?_set_ne (λe'=>e e'.symm)] at h;exact⟨e,h⟩
theorem set_self{α:Type}{l:List α}{i:Nat}{x y:α}(h:l[i]? = some y):(l.set i x)[i]? = some x:=by
 rw[List.getElem?_set_self (List.getElem?_eq_some_iff.1 h).1]
theorem set_other{α:Type}{l:List α}{i j:Nat}{x y:α}(e:j≠i)(h:l[j]? = some y):(l.set i x)[j]? = some y:=by
 rw[List.getElem?_set_ne (λe'=>e e'.symm)];exact h
theorem countP_set{α:Type}(f:α→Bool):∀(l:List α) (i:Nat) (x y:α),l[i]? = some y→(l.set i x).countP f+(if f y then 1 else 0)=l.countP f+(if f x then 1 else 0)
 | [],i,x,y,h=>by simp at h
 | a :: l,0,x,y,h=>by
  simp at h;subst h;simp only[List.set_cons_zero,List.countP_cons];omega
 | a :: l,i+1,x,y,h=>by
  have:=countP_set f l i x y (by simpa using h);simp only[List.set_cons_succ,List.countP_cons];omega
theorem sim_same{C:CaA}(h:CaInv C){i:Nat}{s:SlotA}(hi:C.slots[i]? = some s)(u:Bool):Sim C { C with slots:=C.slots.set i { s with used:=u } }:=by
 have hs:=(List.getElem?_eq_some_iff.1 hi).1;have inv:CaInv { C with slots:=C.slots.set i { s with used:=u } } :=
  ⟨by simpa using h.n3,by simpa using h.n64,by simpa using h.hand,h.s256,h.s1024,h.b8,h.b256,h.lenL,h.len,h.off,h.lit,
   λj t ht hf=>by rcases set_cases ht with ⟨_,rfl⟩|⟨_,ht⟩;exact h.page i s hi hf;exact h.page j t ht hf,
   λj t ht=>by rcases set_cases ht with ⟨_,rfl⟩|⟨_,ht⟩;exact h.pins i s hi;exact h.pins j t ht,
   λj k t t' ht ht' hf hf' he=>by
    rcases set_cases ht with ⟨ej,rfl⟩|⟨hj,ht⟩ <;> rcases set_cases ht' with ⟨ek,rfl⟩|⟨hk,ht'⟩
    ·rw[ej,ek]
    ·rw[ej];exact h.one i k s t' hi ht' hf hf' he
    ·rw[ek];exact h.one j i t s ht hi hf hf' he
    ·exact h.one j k t t' ht ht' hf hf' he,
   λj t ht hf hd=>by rcases set_cases ht with ⟨_,rfl⟩|⟨_,ht⟩;exact h.clean i s hi hf hd;exact h.clean j t ht hf hd⟩
 refine⟨inv,rfl,rfl,rfl,λid=>?_,λid hd=>⟨rfl,λj t ht hh=>?_,λp hp _=>hp⟩,?_⟩
 ·by_cases hx:∃(j:Nat) (t:SlotA),C.slots[j]? = some t∧t.has id=true
  ·obtain⟨j,t,hj,ht⟩:=hx;rw[h.vw_at hj ht];by_cases e:j=i
   ·subst e;rw[hi] at hj;injection hj with hj;subst hj;exact inv.vw_at (i:=j) (s:={ s with used:=u }) (set_self hi) ht
   ·exact inv.vw_at (i:=j) (s:=t) (set_other e hj) ht
  ·have hn:∀(j:Nat) (t:SlotA),C.slots[j]? = some t→t.has id=false:=λj t hj=>by
    cases hb:t.has id with
    | false=>rfl
    | true=>exact absurd ⟨j,t,hj,hb⟩ hx
   rw[vw_none hn];exact vw_none (λj t hj=>by
    rcases set_cases hj with ⟨_,rfl⟩|⟨_,hj⟩
    ·exact hn i s hi
    ·exact hn j t hj)
 ·rcases set_cases ht with ⟨_,rfl⟩|⟨_,ht⟩
  ·exact hd i s hi hh
  ·exact hd j t ht hh
 ·unfold CaA.cost;have:=countP_set (·.wet) C.slots i { s with used:=u } s hi;have e:({ s with used:=u }:SlotA).wet=s.wet:=rfl;rw[e] at this;show C.disk.waiting.length+(C.slots.set i { s with used:=u }).countP (·.wet)≤C.disk.waiting.length+C.slots.countP (·.wet);omega
theorem sim_hand{C:CaA}(h:CaInv C){k:Nat}(hk:k<C.slots.length):Sim C { C with hand:=k } :=
 ⟨⟨h.n3,h.n64,hk,h.s256,h.s1024,h.b8,h.b256,h.lenL,h.len,h.off,h.lit,h.page,h.pins,h.one,h.clean⟩,rfl,rfl,rfl,λ_=>rfl,λ_ hd=>⟨rfl,hd,λ_ hp _=>hp⟩,Nat.le_refl _⟩
theorem sim_clear{C:CaA}(h:CaInv C){i:Nat}{s:SlotA}(hi:C.slots[i]? = some s)(hw:s.wet=false):Sim C { C with slots:=C.slots.set i slot0 }:=by
 have inv:CaInv { C with slots:=C.slots.set i slot0 } :=
  ⟨by simpa using h.n3,by simpa using h.n64,by simpa using h.hand,h.s256,h.s1024,h.b8,h.b256,h.lenL,h.len,h.off,h.lit,
   λj t ht hf=>by rcases set_cases ht with ⟨_,rfl⟩|⟨_,ht⟩;exact absurd hf (by simp[slot0]);exact h.page j t ht hf,
   λj t ht=>by rcases set_cases ht with ⟨_,rfl⟩|⟨_,ht⟩;rfl;exact h.pins j t ht,
   λj k t t' ht ht' hf hf' he=>by
    rcases set_cases ht with ⟨rfl,rfl⟩|⟨hj,ht⟩
    ·exact absurd hf (by simp[slot0])
    ·rcases set_cases ht' with ⟨rfl,rfl⟩|⟨hk,ht'⟩
     ·exact absurd hf' (by simp[slot0])
     ·exact h.one j k t t' ht ht' hf hf' he,
   λj t ht hf hd=>by rcases set_cases ht with ⟨_,rfl⟩|⟨_,ht⟩;exact absurd hf (by simp[slot0]);exact h.clean j t ht hf hd⟩
 refine⟨inv,rfl,rfl,rfl,λid=>?_,λid hd=>⟨rfl,λj t ht hh=>?_,λp hp _=>hp⟩,?_⟩
 ·by_cases hx:∃(j:Nat) (t:SlotA),C.slots[j]? = some t∧t.has id=true
  ·obtain⟨j,t,hj,ht⟩:=hx;rw[h.vw_at hj ht];by_cases e:j=i
   ·subst e;rw[hi] at hj;injection hj with hj;subst hj;obtain⟨hf,hid⟩:=has_iff.1 ht;have hd:s.dirty=false:=by simpa[SlotA.wet,hf] using hw
    have hc:=h.clean j s hi hf hd;rw[hid,Int.toNat_natCast] at hc;rw[← hc];exact vw_none (λk t hk=>by
     rcases set_cases hk with ⟨_,rfl⟩|⟨hne,hk⟩
     ·rfl
     ·cases hb:t.has id with
      | false=>rfl
      | true =>
       have h2:=has_iff.1 hb;exact absurd (h.one k j t s hk hi h2.1 hf (by rw[h2.2,hid])) hne)
   ·exact inv.vw_at (i:=j) (s:=t) (set_other e hj) ht
  ·have hn:∀(j:Nat) (t:SlotA),C.slots[j]? = some t→t.has id=false:=λj t hj=>by
    cases hb:t.has id with
    | false=>rfl
    | true=>exact absurd ⟨j,t,hj,hb⟩ hx
   rw[vw_none hn];exact vw_none (λj t hj=>by
    rcases set_cases hj with ⟨_,rfl⟩|⟨_,hj⟩
    ·rfl
    ·exact hn j t hj)
 ·rcases set_cases ht with ⟨_,rfl⟩|⟨_,ht⟩
  ·rfl
  ·exact hd j t ht hh
 ·unfold CaA.cost;have:=countP_set (·.wet) C.slots i slot0 s hi;have e:slot0.wet=false:=rfl;rw[e] at this;show C.disk.waiting.length+(C.slots.set i slot0).countP (·.wet)≤C.disk.waiting.length+C.slots.countP (·.wet);simp at this;split at this <;> omega
theorem sim_load{C:CaA}(h:CaInv C){i:Nat}{s:SlotA}(hi:C.slots[i]? = some s)(hs:s.full=false)(id:Nat)(hid:id<C.disk.blocks)(hno:∀(j:Nat) (t:SlotA),C.slots[j]? = some t→t.has id=false)(p:PageA)
  (hp:openAtP (C.disk.look id) id=.inl p) (hpi:p.id=(id:Int)) (hok:pgOk p C.disk.size):Sim C { C with slots:=C.slots.set i ⟨p,true,false,true,0⟩ }:=by
 have inv:CaInv { C with slots:=C.slots.set i ⟨p,true,false,true,0⟩ } :=
  ⟨by simpa using h.n3,by simpa using h.n64,by simpa using h.hand,h.s256,h.s1024,h.b8,h.b256,h.lenL,h.len,h.off,h.lit,
   λj t ht hf=>by rcases set_cases ht with ⟨_,rfl⟩|⟨_,ht⟩;exact⟨by simp only[hpi];omega,by simp only[hpi];exact Int.ofNat_lt.2 hid,hok⟩;exact h.page j t ht hf,
   λj t ht=>by rcases set_cases ht with ⟨_,rfl⟩|⟨_,ht⟩;rfl;exact h.pins j t ht,
   λj k t t' ht ht' hf hf' he=>by
    rcases set_cases ht with ⟨ej,rfl⟩|⟨hj,ht⟩ <;> rcases set_cases ht' with ⟨ek,rfl⟩|⟨hk,ht'⟩
    ·rw[ej,ek]
    ·have:=hno k t' ht';rw[show t'.has id=true from has_iff.2 ⟨hf',by rw[← he];exact hpi⟩] at this;cases this
    ·have:=hno j t ht;rw[show t.has id=true from has_iff.2 ⟨hf,by rw[he];exact hpi⟩] at this;cases this
    ·exact h.one j k t t' ht ht' hf hf' he,
   λj t ht hf hd=>by rcases set_cases ht with ⟨_,rfl⟩|⟨_,ht⟩;(simp only[hpi,Int.toNat_natCast];exact hp);exact h.clean j t ht hf hd⟩
 refine⟨inv,rfl,rfl,rfl,λid'=>?_,λid' hd=>⟨rfl,λj t ht hh=>?_,λp hp _=>hp⟩,?_⟩
 ·by_cases hx:∃(j:Nat) (t:SlotA),C.slots[j]? = some t∧t.has id'=true
  ·obtain⟨j,t,hj,ht⟩:=hx;rw[h.vw_at hj ht];by_cases e:j=i
   ·subst e;rw[hi] at hj;injection hj with hj;subst hj;rw[SlotA.has,hs] at ht;simp at ht
   ·exact inv.vw_at (i:=j) (s:=t) (set_other e hj) ht
  ·have hn:∀(j:Nat) (t:SlotA),C.slots[j]? = some t→t.has id'=false:=λj t hj=>by
    cases hb:t.has id' with
    | false=>rfl
    | true=>exact absurd ⟨j,t,hj,hb⟩ hx
   rw[vw_none hn];by_cases e:id'=id
   ·subst e;rw[hp];exact inv.vw_at (i:=i) (s:=⟨p,true,false,true,0⟩) (set_self hi) (has_iff.2 ⟨rfl,hpi⟩)
   ·exact vw_none (λj t hj=>by
     rcases set_cases hj with ⟨_,rfl⟩|⟨_,hj⟩
     ·cases hb:SlotA.has ⟨p,true,false,true,0⟩ id' with
      | false=>rfl
      | true =>
       have:=(has_iff.1 hb).2;simp only[hpi] at this;omega
     ·exact hn j t hj)
 ·rcases set_cases ht with ⟨_,rfl⟩|⟨_,ht⟩
  ·rfl
  ·exact hd j t ht hh
 ·unfold CaA.cost;have:=countP_set (·.wet) C.slots i ⟨p,true,false,true,0⟩ s hi;have e:SlotA.wet ⟨p,true,false,true,0⟩=false:=rfl;rw[e] at this;show C.disk.waiting.length+(C.slots.set i ⟨p,true,false,true,0⟩).countP (·.wet)≤C.disk.waiting.length+C.slots.countP (·.wet);simp at this;split at this <;> omega
def DiskA.wrote(D:DiskA)(i:Nat)(b:List UInt8):DiskA:={ D with waiting:=D.waiting++[(i,b)],after:=RowKit.wrap64 (D.after-1),count:=RowKit.wrap64 (D.count+1) }
theorem look_wrote(D:DiskA)(i:Nat)(b:List UInt8)(j:Nat):(D.wrote i b).look j=if i=j then b else D.look j:=by
 unfold DiskA.look DiskA.wrote;simp only[lookW_append,lookW];by_cases e:i=j
 ·simp[e]
 ·simp[e]
def writeC(C:CaA)(i:Nat)(s:SlotA):CaA:={ C with disk:=C.disk.wrote s.page.id.toNat (sealP s.page C.disk.size),slots:=C.slots.set i { s with dirty:=false } }
theorem sim_write{C:CaA}(h:CaInv C){i:Nat}{s:SlotA}(hi:C.slots[i]? = some s)(hf:s.full=true)(hd:s.dirty=true):Sim C (writeC C i s):=by
 obtain⟨hp0,hp1,hok⟩:=h.page i s hi hf;obtain⟨id,hid⟩:∃id:Nat,s.page.id=(id:Int):=⟨s.page.id.toNat,by omega⟩;have hopen:=seal_openAt hok.1 hok.2;have hself:s.has id=true:=has_iff.2 ⟨hf,hid⟩;have uniq:∀(j:Nat) (t:SlotA),C.slots[j]? = some t→t.has id=true→j=i:=λj t hj ht=>by
  have h2:=has_iff.1 ht;exact h.one j i t s hj hi h2.1 hf (by rw[h2.2,hid])
 have look2:∀j,(writeC C i s).disk.look j=if id=j then sealP s.page C.disk.size else C.disk.look j:=λj=>by
  unfold writeC;simp only[hid,Int.toNat_natCast];exact look_wrote _ _ _ _
 have inv:CaInv (writeC C i s) :=
  ⟨by simpa[writeC] using h.n3,by simpa[writeC] using h.n64,by simpa[writeC] using h.hand,h.s256,h.s1024,h.b8,h.b256,h.lenL,λj hj=>by rw[look2];split;(exact sealP_length _ _ (by have:=pgCheck_none hok.1;omega));exact h.len j hj,h.off,h.lit,
   λj t ht hf=>by rcases set_cases ht with ⟨_,rfl⟩|⟨_,ht⟩;exact h.page i s hi hf;exact h.page j t ht hf,
   λj t ht=>by rcases set_cases ht with ⟨_,rfl⟩|⟨_,ht⟩;exact h.pins i s hi;exact h.pins j t ht,
   λj k t t' ht ht' hf hf' he=>by
    rcases set_cases ht with ⟨ej,rfl⟩|⟨hj,ht⟩ <;> rcases set_cases ht' with ⟨ek,rfl⟩|⟨hk,ht'⟩
    ·rw[ej,ek]
    ·rw[ej];exact h.one i k s t' hi ht' hf hf' he
    ·rw[ek];exact h.one j i t s ht hi hf hf' he
    ·exact h.one j k t t' ht ht' hf hf' he,
   λj t ht hft hdt=>by
    rw[look2];rcases set_cases ht with ⟨_,rfl⟩|⟨hne,ht⟩
    ·rw[if_pos (by simp only[hid];omega)];exact hopen
    ·obtain⟨q0,_,_⟩:=h.page j t ht hft;rw[if_neg (λe=>hne (uniq j t ht (has_iff.2 ⟨hft,by omega⟩)))];exact h.clean j t ht hft hdt⟩
 refine⟨inv,rfl,rfl,rfl,λid'=>?_,λid' hdd=>?_,?_⟩
 ·by_cases hx:∃(j:Nat) (t:SlotA),C.slots[j]? = some t∧t.has id'=true
  ·obtain⟨j,t,hj,ht⟩:=hx;rw[h.vw_at hj ht];by_cases e:j=i
   ·subst e;rw[hi] at hj;injection hj with hj;subst hj;exact inv.vw_at (i:=j) (s:={ s with dirty:=false }) (set_self hi) ht
   ·exact inv.vw_at (i:=j) (s:=t) (set_other e hj) ht
  ·have hn:∀(j:Nat) (t:SlotA),C.slots[j]? = some t→t.has id'=false:=λj t hj=>by
    cases hb:t.has id' with
    | false=>rfl
    | true=>exact absurd ⟨j,t,hj,hb⟩ hx
   have hne:id≠id':=λe=>by have:=hn i s hi;rw[← e,hself] at this;cases this
   rw[vw_none hn,vw_none (λj t hj=>by
    rcases set_cases hj with ⟨_,rfl⟩|⟨_,hj⟩
    ·exact hn i s hi
    ·exact hn j t hj),look2,if_neg hne]
 ·have hne:id≠id':=λe=>by have:=hdd i s hi (e ▸ hself);rw[hd] at this;cases this
  refine⟨by rw[look2,if_neg hne],λj t ht hh=>?_,λp hp e=>?_⟩
  ·rcases set_cases ht with ⟨_,rfl⟩|⟨_,ht⟩
   ·rfl
   ·exact hdd j t ht hh
  ·have:p∈C.disk.waiting++[(s.page.id.toNat,sealP s.page C.disk.size)]:=hp;rw[List.mem_append] at this;rcases this with hp|hp
   ·exact hp
   ·simp at hp;subst hp;simp only[hid,Int.toNat_natCast] at e;exact absurd e hne
 ·unfold CaA.cost;have:=countP_set (·.wet) C.slots i { s with dirty:=false } s hi;have e:SlotA.wet { s with dirty:=false }=false:=by simp[SlotA.wet]
  have e2:s.wet=true:=by simp[SlotA.wet,hf,hd]
  rw[e,e2] at this;have e3:(writeC C i s).disk.waiting.length=C.disk.waiting.length+1:=by simp[writeC,DiskA.wrote]
  rw[e3];show _+(C.slots.set i { s with dirty:=false }).countP _≤_;simp at this;omega
structure GA where
 blocks:Nat
 size:Nat
 view:Nat→Option (PageA ⊕ (List Int × Nat))
 look:Nat→Option (List UInt8)
 last:Nat→Option (List UInt8)
 cost:Nat
structure CaRel(C:CaA)(G:GA):Prop where
 blocks:C.disk.blocks=G.blocks
 size:C.disk.size=G.size
 view:∀id r,G.view id=some r→C.vw id=r
 look:∀id b,G.look id=some b→C.disk.look id=b∧∀(i:Nat) (s:SlotA),C.slots[i]? = some s→s.has id=true→s.dirty=false
 last:∀id b,G.last id=some b→C.disk.lasting.getD id []=b∧(∀p∈C.disk.waiting,p.1≠id)∧∀(i:Nat) (s:SlotA),C.slots[i]? = some s→s.has id=true→s.dirty=false
 cost:C.cost≤G.cost
theorem Sim.rel{C C':CaA}(h:Sim C C'){G:GA}(k:CaRel C G):CaRel C' G :=
 ⟨h.blocks.trans k.blocks,h.size.trans k.size,λid r hr=>(h.vw id).trans (k.view id r hr),
  λid b hb=>by
   obtain⟨k1,k2⟩:=k.look id b hb;obtain⟨h1,h2,_⟩:=h.dirt id k2;exact⟨h1.trans k1,h2⟩,
  λid b hb=>by
   obtain⟨k1,k2,k3⟩:=k.last id b hb;obtain⟨_,h2,h3⟩:=h.dirt id k3;exact⟨by rw[h.lasting];exact k1,λp hp e=>k2 p (h3 p hp e) e,h2⟩,
  Nat.le_trans h.cost k.cost⟩
def upd{α:Type}(f:Nat→α)(i:Nat)(x:α):Nat→α:=λj=>if j=i then x else f j
theorem upd_self{α:Type}(f:Nat→α)(i:Nat)(x:α):upd f i x i=x:=by simp[upd]
theorem upd_ne{α:Type}(f:Nat→α){i j:Nat}(x:α)(h:j≠i):upd f i x j=f j:=by simp[upd,h]
def openO(o:Option (List UInt8))(id:Nat):Option (PageA ⊕ (List Int × Nat)):=o.map λb=>openAtP b id
def GA.put(G:GA)(p:PageA):GA:={ G with view:=upd G.view p.id.toNat (some (.inl p)),look:=upd G.look p.id.toNat none,last:=upd G.last p.id.toNat none,cost:=G.cost+1 }
def GA.drop(G:GA)(id:Nat):GA:={ G with view:=upd G.view id (openO (G.look id) id) }
def putC(C:CaA)(i:Nat)(p:PageA):CaA:={ C with slots:=C.slots.set i ⟨p,true,true,true,0⟩ }
theorem rel_put{C:CaA}{G:GA}(h:CaInv C)(k:CaRel C G){i:Nat}{s:SlotA}(hi:C.slots[i]? = some s)(p:PageA)(id:Nat)(hpi:p.id=(id:Int))(hid:id<C.disk.blocks)(hok:pgOk p C.disk.size)
  (hx:s.has id=true∨(s.full=false∧∀(j:Nat) (t:SlotA),C.slots[j]? = some t→t.has id=false)):CaInv (putC C i p)∧CaRel (putC C i p) (G.put p):=by
 have hoth:∀(j:Nat) (t:SlotA),C.slots[j]? = some t→j≠i→t.has id=false:=λj t hj hne=>by
  rcases hx with hx|⟨_,hx⟩
  ·cases hb:t.has id with
   | false=>rfl
   | true =>
    have h1:=has_iff.1 hx;have h2:=has_iff.1 hb;exact absurd (h.one j i t s hj hi h2.1 h1.1 (by rw[h1.2,h2.2])) hne
  ·exact hx j t hj
 have hself:SlotA.has ⟨p,true,true,true,0⟩ id=true:=has_iff.2 ⟨rfl,hpi⟩;have inv:CaInv (putC C i p) :=
  ⟨by simpa[putC] using h.n3,by simpa[putC] using h.n64,by simpa[putC] using h.hand,h.s256,h.s1024,h.b8,h.b256,h.lenL,h.len,h.off,h.lit,
   λj t ht hf=>by rcases set_cases ht with ⟨_,rfl⟩|⟨_,ht⟩;exact⟨by simp only[hpi];omega,by simp only[hpi];exact Int.ofNat_lt.2 hid,hok⟩;exact h.page j t ht hf,
   λj t ht=>by rcases set_cases ht with ⟨_,rfl⟩|⟨_,ht⟩;rfl;exact h.pins j t ht,
   λj k t t' ht ht' hf hf' he=>by
    rcases set_cases ht with ⟨ej,rfl⟩|⟨hj,ht⟩ <;> rcases set_cases ht' with ⟨ek,rfl⟩|⟨hk,ht'⟩
    ·rw[ej,ek]
    ·have:=hoth k t' ht' hk;rw[show t'.has id=true from has_iff.2 ⟨hf',by rw[← he];exact hpi⟩] at this;cases this
    ·have:=hoth j t ht hj;rw[show t.has id=true from has_iff.2 ⟨hf,by rw[he];exact hpi⟩] at this;cases this
    ·exact h.one j k t t' ht ht' hf hf' he,
   λj t ht hf hd=>by rcases set_cases ht with ⟨_,rfl⟩|⟨_,ht⟩;cases hd;exact h.clean j t ht hf hd⟩
 have hidn:p.id.toNat=id:=by omega
 have clean:∀id',id'≠id→(∀(j:Nat) (t:SlotA),C.slots[j]? = some t→t.has id'=true→t.dirty=false)→∀(j:Nat) (t:SlotA),(putC C i p).slots[j]? = some t→t.has id'=true→t.dirty=false:=λid' hne hc j t ht hh=>by
  rcases set_cases ht with ⟨_,rfl⟩|⟨_,ht⟩
  ·have:=(has_iff.1 hh).2;simp only[hpi] at this;omega
  ·exact hc j t ht hh
 refine⟨inv,k.blocks,k.size,λid' r hr=>?_,λid' b hb=>?_,λid' b hb=>?_,?_⟩
 ·unfold GA.put at hr;simp only[hidn] at hr;by_cases e:id'=id
  ·subst e;rw[upd_self] at hr;injection hr with hr;rw[← hr];exact inv.vw_at (i:=i) (s:=⟨p,true,true,true,0⟩) (set_self hi) hself
  ·rw[upd_ne _ _ e] at hr;rw[← k.view id' r hr];by_cases hx2:∃(j:Nat) (t:SlotA),C.slots[j]? = some t∧t.has id'=true
   ·obtain⟨j,t,hj,ht⟩:=hx2;rw[h.vw_at hj ht];have hne:j≠i:=by
     rintro rfl;rw[hi] at hj;injection hj with hj;subst hj;rcases hx with hx|⟨hx,_⟩
     ·have h1:=(has_iff.1 hx).2;have h2:=(has_iff.1 ht).2;omega
     ·rw[SlotA.has,hx] at ht;simp at ht
    exact inv.vw_at (i:=j) (s:=t) (set_other hne hj) ht
   ·have hn:∀(j:Nat) (t:SlotA),C.slots[j]? = some t→t.has id'=false:=λj t hj=>by
     cases hb:t.has id' with
     | false=>rfl
     | true=>exact absurd ⟨j,t,hj,hb⟩ hx2
    rw[vw_none hn];exact vw_none (λj t hj=>by
     rcases set_cases hj with ⟨_,rfl⟩|⟨_,hj⟩
     ·cases hb:SlotA.has ⟨p,true,true,true,0⟩ id' with
      | false=>rfl
      | true =>
       have:=(has_iff.1 hb).2;simp only[hpi] at this;omega
     ·exact hn j t hj)
 ·unfold GA.put at hb;simp only[hidn] at hb;by_cases e:id'=id
  ·subst e;rw[upd_self] at hb;cases hb
  ·rw[upd_ne _ _ e] at hb;obtain⟨k1,k2⟩:=k.look id' b hb;exact⟨k1,clean id' e k2⟩
 ·unfold GA.put at hb;simp only[hidn] at hb;by_cases e:id'=id
  ·subst e;rw[upd_self] at hb;cases hb
  ·rw[upd_ne _ _ e] at hb;obtain⟨k1,k2,k3⟩:=k.last id' b hb;exact⟨k1,k2,clean id' e k3⟩
 ·have hc:=k.cost;unfold CaA.cost at hc ⊢;have:=countP_set (·.wet) C.slots i ⟨p,true,true,true,0⟩ s hi;have e:SlotA.wet ⟨p,true,true,true,0⟩=true:=rfl;rw[e] at this;show C.disk.waiting.length+(C.slots.set i ⟨p,true,true,true,0⟩).countP (·.wet)≤G.cost+1;simp at this;split at this <;> omega
theorem inv_put{C:CaA}(h:CaInv C){i:Nat}{s:SlotA}(hi:C.slots[i]? = some s)(p:PageA)(id:Nat)(hpi:p.id=(id:Int))(hid:id<C.disk.blocks)(hok:pgOk p C.disk.size)
  (hx:s.has id=true∨(s.full=false∧∀(j:Nat) (t:SlotA),C.slots[j]? = some t→t.has id=false)):CaInv (putC C i p) :=
 (rel_put (G:=⟨C.disk.blocks,C.disk.size,λ_=>none,λ_=>none,λ_=>none,C.cost⟩) h ⟨rfl,rfl,(λ_ _ h=>by cases h),(λ_ _ h=>by cases h),(λ_ _ h=>by cases h),Nat.le_refl _⟩ hi p id hpi hid hok hx).1
theorem rel_drop{C:CaA}{G:GA}(h:CaInv C)(k:CaRel C G){i:Nat}{s:SlotA}{id:Nat}(hi:C.slots[i]? = some s)(hs:s.has id=true):CaInv { C with slots:=C.slots.set i slot0 }∧CaRel { C with slots:=C.slots.set i slot0 } (G.drop id):=by
 obtain⟨hf,hid⟩:=has_iff.1 hs;have inv:CaInv { C with slots:=C.slots.set i slot0 } :=
  ⟨by simpa using h.n3,by simpa using h.n64,by simpa using h.hand,h.s256,h.s1024,h.b8,h.b256,h.lenL,h.len,h.off,h.lit,
   λj t ht hf=>by rcases set_cases ht with ⟨_,rfl⟩|⟨_,ht⟩;exact absurd hf (by simp[slot0]);exact h.page j t ht hf,
   λj t ht=>by rcases set_cases ht with ⟨_,rfl⟩|⟨_,ht⟩;rfl;exact h.pins j t ht,
   λj k t t' ht ht' hf hf' he=>by
    rcases set_cases ht with ⟨rfl,rfl⟩|⟨hj,ht⟩
    ·exact absurd hf (by simp[slot0])
    ·rcases set_cases ht' with ⟨rfl,rfl⟩|⟨hk,ht'⟩
     ·exact absurd hf' (by simp[slot0])
     ·exact h.one j k t t' ht ht' hf hf' he,
   λj t ht hf hd=>by rcases set_cases ht with ⟨_,rfl⟩|⟨_,ht⟩;exact absurd hf (by simp[slot0]);exact h.clean j t ht hf hd⟩
 have clean:∀id',(∀(j:Nat) (t:SlotA),C.slots[j]? = some t→t.has id'=true→t.dirty=false)→∀(j:Nat) (t:SlotA),(C.slots.set i slot0)[j]? = some t→t.has id'=true→t.dirty=false:=λid' hc j t ht hh=>by
  rcases set_cases ht with ⟨_,rfl⟩|⟨_,ht⟩
  ·rfl
  ·exact hc j t ht hh
 refine⟨inv,k.blocks,k.size,λid' r hr=>?_,λid' b hb=>?_,λid' b hb=>?_,?_⟩
 ·unfold GA.drop at hr;simp only at hr;by_cases e:id'=id
  ·subst e;rw[upd_self] at hr;unfold openO at hr;obtain⟨b,hb,hr⟩:=Option.map_eq_some_iff.1 hr;rw[← hr,← (k.look id' b hb).1];exact vw_none (λj t hk=>by
     rcases set_cases hk with ⟨_,rfl⟩|⟨hne,hk⟩
     ·rfl
     ·cases hb:t.has id' with
      | false=>rfl
      | true =>
       have h2:=has_iff.1 hb;exact absurd (h.one j i t s hk hi h2.1 hf (by rw[h2.2,hid])) hne)
  ·rw[upd_ne _ _ e] at hr;rw[← k.view id' r hr];by_cases hx2:∃(j:Nat) (t:SlotA),C.slots[j]? = some t∧t.has id'=true
   ·obtain⟨j,t,hj,ht⟩:=hx2;rw[h.vw_at hj ht];have hne:j≠i:=by
     rintro rfl;rw[hi] at hj;injection hj with hj;subst hj;have h2:=(has_iff.1 ht).2;omega
    exact inv.vw_at (i:=j) (s:=t) (set_other hne hj) ht
   ·have hn:∀(j:Nat) (t:SlotA),C.slots[j]? = some t→t.has id'=false:=λj t hj=>by
     cases hb:t.has id' with
     | false=>rfl
     | true=>exact absurd ⟨j,t,hj,hb⟩ hx2
    rw[vw_none hn];exact vw_none (λj t hj=>by
     rcases set_cases hj with ⟨_,rfl⟩|⟨_,hj⟩
     ·rfl
     ·exact hn j t hj)
 ·obtain⟨k1,k2⟩:=k.look id' b hb;exact⟨k1,clean id' k2⟩
 ·obtain⟨k1,k2,k3⟩:=k.last id' b hb;exact⟨k1,k2,clean id' k3⟩
 ·have hc:=k.cost;unfold CaA.cost at hc ⊢;have:=countP_set (·.wet) C.slots i slot0 s hi;have e:slot0.wet=false:=rfl;rw[e] at this;show C.disk.waiting.length+(C.slots.set i slot0).countP (·.wet)≤G.cost;simp at this;split at this <;> omega
theorem inv_clear{C:CaA}(h:CaInv C){i:Nat}{s:SlotA}(_:C.slots[i]? = some s):CaInv { C with slots:=C.slots.set i slot0 } :=
 ⟨by simpa using h.n3,by simpa using h.n64,by simpa using h.hand,h.s256,h.s1024,h.b8,h.b256,h.lenL,h.len,h.off,h.lit,
   λj t ht hf=>by rcases set_cases ht with ⟨_,rfl⟩|⟨_,ht⟩;exact absurd hf (by simp[slot0]);exact h.page j t ht hf,
   λj t ht=>by rcases set_cases ht with ⟨_,rfl⟩|⟨_,ht⟩;rfl;exact h.pins j t ht,
   λj k t t' ht ht' hf hf' he=>by
    rcases set_cases ht with ⟨rfl,rfl⟩|⟨hj,ht⟩
    ·exact absurd hf (by simp[slot0])
    ·rcases set_cases ht' with ⟨rfl,rfl⟩|⟨hk,ht'⟩
     ·exact absurd hf' (by simp[slot0])
     ·exact h.one j k t t' ht ht' hf hf' he,
   λj t ht hf hd=>by rcases set_cases ht with ⟨_,rfl⟩|⟨_,ht⟩;exact absurd hf (by simp[slot0]);exact h.clean j t ht hf hd⟩
theorem rel_drop_no{C:CaA}{G:GA}(k:CaRel C G){id:Nat}(hn:∀(j:Nat) (t:SlotA),C.slots[j]? = some t→t.has id=false):CaRel C (G.drop id):=by
 refine⟨k.blocks,k.size,λid' r hr=>?_,k.look,k.last,k.cost⟩;unfold GA.drop at hr;simp only at hr;by_cases e:id'=id
 ·subst e;rw[upd_self] at hr;unfold openO at hr;obtain⟨b,hb,hr⟩:=Option.map_eq_some_iff.1 hr;rw[← hr,← (k.look id' b hb).1];exact vw_none hn
 ·rw[upd_ne _ _ e] at hr;exact k.view id' r hr
theorem rep_at{n j:Nat}{t:SlotA}(h:(List.replicate n slot0)[j]? = some t):t=slot0:=by
 rw[List.getElem?_replicate] at h;split at h
 ·injection h with h;exact h.symm
 ·cases h
theorem inv_empty(D:DiskA)(n:Nat)(h3:3≤n)(h64:n≤64)(s256:256≤D.size)(s1024:D.size≤1024)(b8:8≤D.blocks)(b256:D.blocks≤256)(lenL:D.lasting.length=D.blocks)
  (len:∀id:Nat,id<D.blocks→(D.look id).length=D.size) (off:D.off=false) (lit:D.lit=false):CaInv ⟨D,List.replicate n slot0,0⟩ :=
 ⟨by simpa using h3,by simpa using h64,by simp;omega,s256,s1024,b8,b256,lenL,len,off,lit,
  λj t ht hf=>by (rw[rep_at ht] at hf;cases hf),λj t ht=>by (rw[rep_at ht];rfl),
  λj k t t' ht _ hf _ _=>by (rw[rep_at ht] at hf;cases hf),λj t ht hf _=>by (rw[rep_at ht] at hf;cases hf)⟩
theorem rep_count(n:Nat):(List.replicate n slot0).countP (·.wet)=0:=by
 rw[List.countP_replicate];rfl
theorem rel_empty(D:DiskA)(n:Nat)(G:GA)(hb:D.blocks=G.blocks)(hs:D.size=G.size)(hv:∀id r,G.view id=some r→openAtP (D.look id) id=r)(hl:∀id b,G.look id=some b→D.look id=b)
  (ht:∀id b,G.last id=some b→D.lasting.getD id []=b∧∀p∈D.waiting,p.1≠id) (hc:D.waiting.length≤G.cost):CaRel ⟨D,List.replicate n slot0,0⟩ G :=
 ⟨hb,hs,λid r hr=>by rw[vw_none (λj t hj=>by rw[rep_at hj];rfl)];exact hv id r hr,
  λid b h=>⟨hl id b h,λj t hj hh=>by rw[rep_at hj];rfl⟩,λid b h=>⟨(ht id b h).1,(ht id b h).2,λj t hj hh=>by rw[rep_at hj];rfl⟩,
  by unfold CaA.cost;simp only[rep_count];omega⟩
theorem openAt_inl{b:List UInt8}{id:Int}{p:PageA}(h:openAtP b id=.inl p):pgOk p b.length∧p.id=id∧sealP p b.length=b:=by
 unfold openAtP at h;split at h
 ·cases h
 ·rename_i ho;split at h
  ·cases h
  ·rename_i hid;injection h with h;subst h;simp only[Bool.not_eq_false] at ho;unfold openB at ho;simp only[Bool.and_eq_true,decide_eq_true_eq] at ho;exact⟨⟨ho.1,readP_gen b⟩,by simpa using hid,ho.2⟩
theorem look_far{D:DiskA}{id:Nat}(hl:D.lasting.length=D.blocks)(hw:∀p∈D.waiting,p.1<D.blocks)(hid:D.blocks≤id):D.look id=[]:=by
 unfold DiskA.look;rw[lookW_none id _ (λp hp e=>by have:=hw p hp;omega)];simp[List.getD,List.getElem?_eq_none (by omega:D.lasting.length≤id)]
theorem settle_length:∀(w:List (Nat × List UInt8)) (l:List (List UInt8)),(settle l w).length=l.length
 | [],_=>rfl
 | (i,b) :: w,l=>by rw[settle,settle_length w,List.length_set]
theorem settle_get:∀(w:List (Nat × List UInt8)) (l:List (List UInt8)) (i:Nat),i<l.length→(settle l w).getD i []=(lookW i w).getD (l.getD i [])
 | [],l,i,_=>rfl
 | (j,b) :: w,l,i,hi=>by
  rw[settle,settle_get w (l.set j b) i (by rw[List.length_set];exact hi),lookW];cases lookW i w with
  | some c=>rfl
  | none =>
   by_cases e:j=i
   ·subst e;simp[List.getD,hi]
   ·simp[List.getD,List.getElem?_set_ne e,e]
def DiskA.flushed(D:DiskA):DiskA:={ D with lasting:=settle D.lasting D.waiting,waiting:=[],after:=RowKit.wrap64 (D.after-1),count:=RowKit.wrap64 (D.count+1) }
theorem flushed_look{D:DiskA}(hl:D.lasting.length=D.blocks)(hw:∀p∈D.waiting,p.1<D.blocks)(id:Nat):D.flushed.look id=D.look id:=by
 by_cases hid:id<D.blocks
 ·show (lookW id []).getD ((settle D.lasting D.waiting).getD id [])=_;rw[settle_get _ _ _ (by omega)];rfl
 ·rw[look_far hl hw (by omega),look_far (D:=D.flushed) (by show (settle _ _).length=_;rw[settle_length];exact hl) (λp hp=>by cases hp) (by show D.blocks≤id;omega)]
end
section
open Go.RowKit
abbrev PairB:=ByteArray × ByteArray
def rightFrom(last:ByteArray):List PairB→Bool
 | []=>true
 | p :: r=>keyB p.1 && !leS p.1 last && decide (p.2.size≤4096) && rightFrom p.1 r
def rightP(l:List PairB):Bool:=rightFrom ⟨#[]⟩ l
theorem rightFrom_drop(last:ByteArray)(l:List PairB)(i:Nat)(h:i<l.length) :
  rightFrom last (l.drop i)=(keyB l[i].1 && !leS l[i].1 last && decide (l[i].2.size≤4096) && rightFrom l[i].1 (l.drop (i+1))):=by
 rw[List.drop_eq_getElem_cons h];rfl
end
section
structure SupA where
 gen:Nat
 blocks:Nat
 size:Nat
 root:Nat
 keys:Nat
 deriving DecidableEq
def supOk(s:SupA):Bool:=decide (8≤s.blocks) && decide (s.blocks≤256) && decide (256≤s.size) && decide (s.size≤1024) && decide (s.keys≤2147483647) && decide (s.root=0∨2≤s.root∧s.root<s.blocks) && decide (s.root=0→s.keys=0)
theorem supOk_iff(s:SupA):supOk s=true ↔ 8≤s.blocks∧s.blocks≤256∧256≤s.size∧s.size≤1024∧s.keys≤2147483647∧(s.root=0∨2≤s.root∧s.root<s.blocks)∧(s.root=0→s.keys=0):=by
 unfold supOk;simp only[Bool.and_eq_true,decide_eq_true_eq];exact⟨λ⟨⟨⟨⟨⟨⟨a,b⟩,c⟩,d⟩,e⟩,f⟩,g⟩=>⟨a,b,c,d,e,f,g⟩,λ⟨a,b,c,d,e,f,g⟩=>⟨⟨⟨⟨⟨⟨a,b⟩,c⟩,d⟩,e⟩,f⟩,g⟩⟩
def supBody(s:SupA):List UInt8:=leB 4 s.blocks++leB 4 s.size++leB 4 s.root++leB 4 s.keys++leB 8 s.gen
def supPg(s:SupA)(i:Nat):PageA:=⟨1,i,s.gen,supBody s⟩
def supBlk(s:SupA)(i:Nat):List UInt8:=sealP (supPg s i) s.size
theorem supBody_length(s:SupA):(supBody s).length=24:=by simp[supBody,leB_length]
theorem supPg_right{s:SupA}(h:supOk s=true){i:Nat}(hi:i<2):pgCheck (supPg s i) s.size=none:=by
 obtain⟨a,b,c,d,e,f,g⟩:=(supOk_iff s).1 h;have hb:=supBody_length s;have h1:sizedB s.size=true:=by unfold sizedB;simp;omega
 have h2:kindB (supPg s i).kind=true:=by show kindB 1=true;decide
 unfold pgCheck;rw[h1,h2,if_neg (by simp),if_neg];simp only[supPg];rw[hb];simp;omega
theorem supBlk_length{s:SupA}(h:supOk s=true)(i:Nat):(supBlk s i).length=s.size:=by
 obtain⟨a,b,c,d,e,f,g⟩:=(supOk_iff s).1 h;exact sealP_length _ _ (by simp only[supPg,supBody_length];omega)
def saidS(p:PageA):SupA:=⟨p.gen,numAt p.body 0 4,numAt p.body 4 4,numAt p.body 8 4,numAt p.body 12 4⟩
def saidOk(p:PageA):Bool:=decide (p.body.length=24) && decide (numAt p.body 16 8=p.gen) && decide (p.kind=1) && supOk (saidS p)
def openS(l:List UInt8)(i:Nat):Option SupA:=match openAtP l i with
 | .inl p=>if saidOk p=true∧(saidS p).size=l.length then some (saidS p) else none
 | .inr _=>none
theorem sup_n0(s:SupA)(h:s.blocks<4294967296):numAt (supBody s) 0 4=s.blocks:=by
 have e:supBody s=[]++(leB 4 s.blocks++(leB 4 s.size++leB 4 s.root++leB 4 s.keys++leB 8 s.gen)):=by simp only[supBody,List.append_assoc,List.nil_append]
 rw[e];exact numAt_mid [] _ 4 s.blocks 0 rfl h
theorem sup_n4(s:SupA)(h:s.size<4294967296):numAt (supBody s) 4 4=s.size:=by
 have e:supBody s=leB 4 s.blocks++(leB 4 s.size++(leB 4 s.root++leB 4 s.keys++leB 8 s.gen)):=by simp only[supBody,List.append_assoc]
 rw[e];exact numAt_mid _ _ 4 s.size 4 (leB_length _ _) h
theorem sup_n8(s:SupA)(h:s.root<4294967296):numAt (supBody s) 8 4=s.root:=by
 have e:supBody s=(leB 4 s.blocks++leB 4 s.size)++(leB 4 s.root++(leB 4 s.keys++leB 8 s.gen)):=by simp only[supBody,List.append_assoc]
 rw[e];exact numAt_mid _ _ 4 s.root 8 (by rw[List.length_append,leB_length,leB_length]) h
theorem sup_n12(s:SupA)(h:s.keys<4294967296):numAt (supBody s) 12 4=s.keys:=by
 have e:supBody s=(leB 4 s.blocks++leB 4 s.size++leB 4 s.root)++(leB 4 s.keys++leB 8 s.gen):=by simp only[supBody,List.append_assoc]
 rw[e];exact numAt_mid _ _ 4 s.keys 12 (by rw[List.length_append,List.length_append,leB_length,leB_length,leB_length]) h
theorem sup_n16(s:SupA)(h:s.gen<18446744073709551616):numAt (supBody s) 16 8=s.gen:=by
 have e:supBody s=(leB 4 s.blocks++leB 4 s.size++leB 4 s.root++leB 4 s.keys)++(leB 8 s.gen++[]):=by simp only[supBody,List.append_assoc,List.append_nil]
 rw[e];exact numAt_mid _ _ 8 s.gen 16 (by rw[List.length_append,List.length_append,List.length_append,leB_length,leB_length,leB_length,leB_length]) h
theorem said_sup{s:SupA}(h:supOk s=true)(hg:s.gen<18446744073709551616)(i:Nat):saidS (supPg s i)=s∧saidOk (supPg s i)=true:=by
 obtain⟨a,b,c,d,e,f, -⟩:=(supOk_iff s).1 h;have hb:(supPg s i).body=supBody s:=rfl;have hs:saidS (supPg s i)=s:=by
  unfold saidS;rw[hb,sup_n0 s (by omega),sup_n4 s (by omega),sup_n8 s (by omega),sup_n12 s (by omega)];rfl
 refine⟨hs,?_⟩;unfold saidOk;rw[hs,h,hb,sup_n16 s hg,supBody_length];show (decide (24=24) && decide (s.gen=s.gen) && decide ((1:Int)=1) && true)=true;rw[decide_eq_true rfl,decide_eq_true rfl,decide_eq_true rfl];rfl
theorem openS_blk{s:SupA}(h:supOk s=true)(hg:s.gen<18446744073709551616){i:Nat}(hi:i<2):openS (supBlk s i) i=some s:=by
 obtain⟨h1,h2⟩:=said_sup h hg i;unfold openS;have:=seal_openAt (p:=supPg s i) (size:=s.size) (supPg_right h hi) hg;rw[show openAtP (supBlk s i) (i:Int)=.inl (supPg s i) from this];simp only;rw[h1,supBlk_length h,if_pos ⟨h2,rfl⟩]
theorem openS_ok{l:List UInt8}{i:Nat}{s:SupA}(h:openS l i=some s):supOk s=true∧s.gen<18446744073709551616∧s.size=l.length:=by
 unfold openS at h;split at h
 ·rename_i p hp;split at h
  ·rename_i hc;injection h with h;subst h;have hk:=hc.1;unfold saidOk at hk;simp only[Bool.and_eq_true] at hk;refine⟨hk.2,?_,hc.2⟩;unfold openAtP at hp;split at hp
   ·cases hp
   ·split at hp
    ·cases hp
    ·injection hp with hp;subst hp;exact readP_gen l
  ·cases h
 ·cases h
end
end Go.Proofs.YtdnbmdghmmpgcaaGreatDoor
