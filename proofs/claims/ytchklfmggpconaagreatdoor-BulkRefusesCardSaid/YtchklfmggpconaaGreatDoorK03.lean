import Derived.Test.YtchklfmggpconaaGreatDoorK02
namespace Go.Proofs.YtchklfmggpconaaGreatDoor
section
structure SlotA where
 page:PageA
 full:Bool
 dirty:Bool
 used:Bool
 pins:Nat
def slot0:SlotA:=⟨⟨0,0,0,[]⟩,false,false,false,0⟩
structure CaA where
 disk:DiskA
 slots:List SlotA
 hand:Nat
def SlotA.has(s:SlotA)(id:Nat):Bool:=s.full && decide (s.page.id=(id:Int))
def SlotA.wet(s:SlotA):Bool:=s.full && s.dirty
def CaA.vw(C:CaA)(id:Nat):PageA ⊕ (List Int × Nat) :=
 match C.slots.find? (·.has id) with
 | some s=>.inl s.page
 | none=>openAtP (C.disk.look id) id
def CaA.cost(C:CaA):Nat:=C.disk.waiting.length+C.slots.countP (·.wet)
def pgOk(p:PageA)(size:Nat):Prop:=pgCheck p size=none∧p.gen<18446744073709551616
structure CaInv(C:CaA):Prop where
 n3:3≤C.slots.length
 n64:C.slots.length≤64
 hand:C.hand<C.slots.length
 s256:256≤C.disk.size
 s1024:C.disk.size≤1024
 b8:8≤C.disk.blocks
 b256:C.disk.blocks≤256
 lenL:C.disk.lasting.length=C.disk.blocks
 len:∀id:Nat,id<C.disk.blocks→(C.disk.look id).length=C.disk.size
 off:C.disk.off=false
 lit:C.disk.lit=false
 page:∀(i:Nat) (s:SlotA),C.slots[i]? = some s→s.full=true→0≤s.page.id∧s.page.id<C.disk.blocks∧pgOk s.page C.disk.size
 pins:∀(i:Nat) (s:SlotA),C.slots[i]? = some s→s.pins=0
 one:∀(i j:Nat) (s t:SlotA),C.slots[i]? = some s→C.slots[j]? = some t→s.full=true→t.full=true→s.page.id=t.page.id→i=j
 clean:∀(i:Nat) (s:SlotA),C.slots[i]? = some s→s.full=true→s.dirty=false→openAtP (C.disk.look s.page.id.toNat) s.page.id=.inl s.page
theorem has_iff{s:SlotA}{id:Nat}:s.has id=true ↔ s.full=true∧s.page.id=(id:Int):=by simp[SlotA.has]
theorem CaInv.vw_at{C:CaA}(h:CaInv C){i:Nat}{s:SlotA}{id:Nat}(hi:C.slots[i]? = some s)(hs:s.has id=true):C.vw id=.inl s.page:=by
 unfold CaA.vw;cases hf:C.slots.find? (·.has id) with
 | none =>
  have:=List.find?_eq_none.1 hf s (List.mem_of_getElem? hi);exact absurd hs this
 | some t =>
  have ht:=List.find?_some hf;obtain⟨j,hj,e⟩:=List.getElem_of_mem (List.mem_of_find?_eq_some hf);have hj2:C.slots[j]? = some t:=by rw[← e];exact List.getElem?_eq_getElem hj
  have h1:=has_iff.1 hs;have h2:=has_iff.1 ht;have:=h.one i j s t hi hj2 h1.1 h2.1 (by rw[h1.2,h2.2]);subst this;rw[hi] at hj2;injection hj2 with hj2;rw[hj2]
theorem vw_none{C:CaA}{id:Nat}(h:∀(i:Nat) (s:SlotA),C.slots[i]? = some s→s.has id=false):C.vw id=openAtP (C.disk.look id) id:=by
 unfold CaA.vw;have:C.slots.find? (·.has id)=none:=List.find?_eq_none.2 (λs hs=>by
  obtain⟨j,hj,e⟩:=List.getElem_of_mem hs;have:=h j s (by rw[← e];exact List.getElem?_eq_getElem hj);rw[this];simp)
 rw[this]
structure Sim(C C':CaA):Prop where
 inv:CaInv C'
 blocks:C'.disk.blocks=C.disk.blocks
 size:C'.disk.size=C.disk.size
 lasting:C'.disk.lasting=C.disk.lasting
 vw:∀id:Nat,C'.vw id=C.vw id
 dirt:∀id:Nat,(∀(i:Nat) (s:SlotA),C.slots[i]? = some s→s.has id=true→s.dirty=false) →
  C'.disk.look id=C.disk.look id∧(∀(i:Nat) (s:SlotA),C'.slots[i]? = some s→s.has id=true→s.dirty=false)∧∀p∈C'.disk.waiting,p.1=id→p∈C.disk.waiting
 cost:C'.cost≤C.cost
theorem Sim.refl{C:CaA}(h:CaInv C):Sim C C:=⟨h,rfl,rfl,rfl,λ_=>rfl,λ_ h=>⟨rfl,h,λ_ h _=>h⟩,Nat.le_refl _⟩
theorem Sim.trans{C C1 C2:CaA}(h:Sim C C1)(k:Sim C1 C2):Sim C C2 :=
 ⟨k.inv,k.blocks.trans h.blocks,k.size.trans h.size,k.lasting.trans h.lasting,λid=>(k.vw id).trans (h.vw id),
  λid hd=>by
   obtain⟨h1,h2,h3⟩:=h.dirt id hd;obtain⟨k1,k2,k3⟩:=k.dirt id h2;exact⟨k1.trans h1,k2,λp hp e=>h3 p (k3 p hp e) e⟩,Nat.le_trans k.cost h.cost⟩
theorem set_cases{α:Type}{l:List α}{i j:Nat}{x y:α}(h:(l.set i x)[j]? = some y):(j=i∧y=x)∨(j≠i∧l[j]? = some y):=by
 by_cases e:j=i
 ·subst e;rw[List.getElem?_set] at h;simp at h;exact .inl ⟨rfl,h.2.symm⟩
 ·right
  rw[List.getElem?_set_ne (λe'=>e e'.symm)] at h;exact⟨e,h⟩
theorem set_self{α:Type}{l:List α}{i:Nat}{x y:α}(h:l[i]? = some y):(l.set i x)[i]? = some x:=by
 rw[List.getElem?_set_self (List.getElem?_eq_some_iff.1 h).1]
theorem set_other{α:Type}{l:List α}{i j:Nat}{x y:α}(e:j≠i)(h:l[j]? = some y):(l.set i x)[j]? = some y:=by
 rw[List.getElem?_set_ne (λe'=>e e'.symm)];exact h
theorem countP_set{α:Type}(f:α→Bool):∀(l:List α) (i:Nat) (x y:α),l[i]? = some y→(l.set i x).countP f+(if f y then 1 else 0)=l.countP f+(if f x then 1 else 0)
 | [],i,x,y,h=>by simp at h
 | a :: l,0,x,y,h=>by
  simp at h;subst h;simp only[List.set_cons_zero,List.countP_cons];omega
 | a :: l,i+1,x,y,h=>by
  have:=countP_set f l i x y (by simpa using h);simp only[List.set_cons_succ,List.countP_cons];omega
theorem sim_same{C:CaA}(h:CaInv C){i:Nat}{s:SlotA}(hi:C.slots[i]? = some s)(u:Bool):Sim C { C with slots:=C.slots.set i { s with used:=u } }:=by
 have hs:=(List.getElem?_eq_some_iff.1 hi).1;have inv:CaInv { C with slots:=C.slots.set i { s with used:=u } } :=
  ⟨by simpa using h.n3,by simpa using h.n64,by simpa using h.hand,h.s256,h.s1024,h.b8,h.b256,h.lenL,h.len,h.off,h.lit,
   λj t ht hf=>by rcases set_cases ht with ⟨_,rfl⟩|⟨_,ht⟩;exact h.page i s hi hf;exact h.page j t ht hf,
   λj t ht=>by rcases set_cases ht with ⟨_,rfl⟩|⟨_,ht⟩;exact h.pins i s hi;exact h.pins j t ht,
   λj k t t' ht ht' hf hf' he=>by
    rcases set_cases ht with ⟨ej,rfl⟩|⟨hj,ht⟩ <;> rcases set_cases ht' with ⟨ek,rfl⟩|⟨hk,ht'⟩
    ·rw[ej,ek]
    ·rw[ej];exact h.one i k s t' hi ht' hf hf' he
    ·rw[ek];exact h.one j i t s ht hi hf hf' he
    ·exact h.one j k t t' ht ht' hf hf' he,
   λj t ht hf hd=>by rcases set_cases ht with ⟨_,rfl⟩|⟨_,ht⟩;exact h.clean i s hi hf hd;exact h.clean j t ht hf hd⟩
 refine⟨inv,rfl,rfl,rfl,λid=>?_,λid hd=>⟨rfl,λj t ht hh=>?_,λp hp _=>hp⟩,?_⟩
 ·by_cases hx:∃(j:Nat) (t:SlotA),C.slots[j]? = some t∧t.has id=true
  ·obtain⟨j,t,hj,ht⟩:=hx;rw[h.vw_at hj ht];by_cases e:j=i
   ·subst e;rw[hi] at hj;injection hj with hj;subst hj;exact inv.vw_at (i:=j) (s:={ s with used:=u }) (set_self hi) ht
   ·exact inv.vw_at (i:=j) (s:=t) (set_other e hj) ht
  ·have hn:∀(j:Nat) (t:SlotA),C.slots[j]? = some t→t.has id=false:=λj t hj=>by
    cases hb:t.has id with
    | false=>rfl
    | true=>exact absurd ⟨j,t,hj,hb⟩ hx
   rw[vw_none hn];exact vw_none (λj t hj=>by
    rcases set_cases hj with ⟨_,rfl⟩|⟨_,hj⟩
    ·exact hn i s hi
    ·exact hn j t hj)
 ·rcases set_cases ht with ⟨_,rfl⟩|⟨_,ht⟩
  ·exact hd i s hi hh
  ·exact hd j t ht hh
 ·unfold CaA.cost;have:=countP_set (·.wet) C.slots i { s with used:=u } s hi;have e:({ s with used:=u }:SlotA).wet=s.wet:=rfl;rw[e] at this;show C.disk.waiting.length+(C.slots.set i { s with used:=u }).countP (·.wet)≤C.disk.waiting.length+C.slots.countP (·.wet);omega
theorem sim_hand{C:CaA}(h:CaInv C){k:Nat}(hk:k<C.slots.length):Sim C { C with hand:=k } :=
 ⟨⟨h.n3,h.n64,hk,h.s256,h.s1024,h.b8,h.b256,h.lenL,h.len,h.off,h.lit,h.page,h.pins,h.one,h.clean⟩,rfl,rfl,rfl,λ_=>rfl,λ_ hd=>⟨rfl,hd,λ_ hp _=>hp⟩,Nat.le_refl _⟩
theorem sim_clear{C:CaA}(h:CaInv C){i:Nat}{s:SlotA}(hi:C.slots[i]? = some s)(hw:s.wet=false):Sim C { C with slots:=C.slots.set i slot0 }:=by
 have inv:CaInv { C with slots:=C.slots.set i slot0 } :=
  ⟨by simpa using h.n3,by simpa using h.n64,by simpa using h.hand,h.s256,h.s1024,h.b8,h.b256,h.lenL,h.len,h.off,h.lit,
   λj t ht hf=>by rcases set_cases ht with ⟨_,rfl⟩|⟨_,ht⟩;exact absurd hf (by simp[slot0]);exact h.page j t ht hf,
   λj t ht=>by rcases set_cases ht with ⟨_,rfl⟩|⟨_,ht⟩;rfl;exact h.pins j t ht,
   λj k t t' ht ht' hf hf' he=>by
    rcases set_cases ht with ⟨rfl,rfl⟩|⟨hj,ht⟩
    ·exact absurd hf (by simp[slot0])
    ·rcases set_cases ht' with ⟨rfl,rfl⟩|⟨hk,ht'⟩
     ·exact absurd hf' (by simp[slot0])
     ·exact h.one j k t t' ht ht' hf hf' he,
   λj t ht hf hd=>by rcases set_cases ht with ⟨_,rfl⟩|⟨_,ht⟩;exact absurd hf (by simp[slot0]);exact h.clean j t ht hf hd⟩
 refine⟨inv,rfl,rfl,rfl,λid=>?_,λid hd=>⟨rfl,λj t ht hh=>?_,λp hp _=>hp⟩,?_⟩
 ·by_cases hx:∃(j:Nat) (t:SlotA),C.slots[j]? = some t∧t.has id=true
  ·obtain⟨j,t,hj,ht⟩:=hx;rw[h.vw_at hj ht];by_cases e:j=i
   ·subst e;rw[hi] at hj;injection hj with hj;subst hj;obtain⟨hf,hid⟩:=has_iff.1 ht;have hd:s.dirty=false:=by simpa[SlotA.wet,hf] using hw
    have hc:=h.clean j s hi hf hd;rw[hid,Int.toNat_natCast] at hc;rw[← hc];exact vw_none (λk t hk=>by
     rcases set_cases hk with ⟨_,rfl⟩|⟨hne,hk⟩
     ·rfl
     ·cases hb:t.has id with
      | false=>rfl
      | true =>
       have h2:=has_iff.1 hb;exact absurd (h.one k j t s hk hi h2.1 hf (by rw[h2.2,hid])) hne)
   ·exact inv.vw_at (i:=j) (s:=t) (set_other e hj) ht
  ·have hn:∀(j:Nat) (t:SlotA),C.slots[j]? = some t→t.has id=false:=λj t hj=>by
    cases hb:t.has id with
    | false=>rfl
    | true=>exact absurd ⟨j,t,hj,hb⟩ hx
   rw[vw_none hn];exact vw_none (λj t hj=>by
    rcases set_cases hj with ⟨_,rfl⟩|⟨_,hj⟩
    ·rfl
    ·exact hn j t hj)
 ·rcases set_cases ht with ⟨_,rfl⟩|⟨_,ht⟩
  ·rfl
  ·exact hd j t ht hh
 ·unfold CaA.cost;have:=countP_set (·.wet) C.slots i slot0 s hi;have e:slot0.wet=false:=rfl;rw[e] at this;show C.disk.waiting.length+(C.slots.set i slot0).countP (·.wet)≤C.disk.waiting.length+C.slots.countP (·.wet);simp at this;split at this <;> omega
theorem sim_load{C:CaA}(h:CaInv C){i:Nat}{s:SlotA}(hi:C.slots[i]? = some s)(hs:s.full=false)(id:Nat)(hid:id<C.disk.blocks)(hno:∀(j:Nat) (t:SlotA),C.slots[j]? = some t→t.has id=false)(p:PageA)
  (hp:openAtP (C.disk.look id) id=.inl p) (hpi:p.id=(id:Int)) (hok:pgOk p C.disk.size):Sim C { C with slots:=C.slots.set i ⟨p,true,false,true,0⟩ }:=by
 have inv:CaInv { C with slots:=C.slots.set i ⟨p,true,false,true,0⟩ } :=
  ⟨by simpa using h.n3,by simpa using h.n64,by simpa using h.hand,h.s256,h.s1024,h.b8,h.b256,h.lenL,h.len,h.off,h.lit,
   λj t ht hf=>by rcases set_cases ht with ⟨_,rfl⟩|⟨_,ht⟩;exact⟨by simp only[hpi];omega,by simp only[hpi];exact Int.ofNat_lt.2 hid,hok⟩;exact h.page j t ht hf,
   λj t ht=>by rcases set_cases ht with ⟨_,rfl⟩|⟨_,ht⟩;rfl;exact h.pins j t ht,
   λj k t t' ht ht' hf hf' he=>by
    rcases set_cases ht with ⟨ej,rfl⟩|⟨hj,ht⟩ <;> rcases set_cases ht' with ⟨ek,rfl⟩|⟨hk,ht'⟩
    ·rw[ej,ek]
    ·have:=hno k t' ht';rw[show t'.has id=true from has_iff.2 ⟨hf',by rw[← he];exact hpi⟩] at this;cases this
    ·have:=hno j t ht;rw[show t.has id=true from has_iff.2 ⟨hf,by rw[he];exact hpi⟩] at this;cases this
    ·exact h.one j k t t' ht ht' hf hf' he,
   λj t ht hf hd=>by rcases set_cases ht with ⟨_,rfl⟩|⟨_,ht⟩;(simp only[hpi,Int.toNat_natCast];exact hp);exact h.clean j t ht hf hd⟩
 refine⟨inv,rfl,rfl,rfl,λid'=>?_,λid' hd=>⟨rfl,λj t ht hh=>?_,λp hp _=>hp⟩,?_⟩
 ·by_cases hx:∃(j:Nat) (t:SlotA),C.slots[j]? = some t∧t.has id'=true
  ·obtain⟨j,t,hj,ht⟩:=hx;rw[h.vw_at hj ht];by_cases e:j=i
   ·subst e;rw[hi] at hj;injection hj with hj;subst hj;rw[SlotA.has,hs] at ht;simp at ht
   ·exact inv.vw_at (i:=j) (s:=t) (set_other e hj) ht
  ·have hn:∀(j:Nat) (t:SlotA),C.slots[j]? = some t→t.has id'=false:=λj t hj=>by
    cases hb:t.has id' with
    | false=>rfl
    | true=>exact absurd ⟨j,t,hj,hb⟩ hx
   rw[vw_none hn];by_cases e:id'=id
   ·subst e;rw[hp];exact inv.vw_at (i:=i) (s:=⟨p,true,false,true,0⟩) (set_self hi) (has_iff.2 ⟨rfl,hpi⟩)
   ·exact vw_none (λj t hj=>by
     rcases set_cases hj with ⟨_,rfl⟩|⟨_,hj⟩
     ·cases hb:SlotA.has ⟨p,true,false,true,0⟩ id' with
      | false=>rfl
      | true =>
       have:=(has_iff.1 hb).2;simp only[hpi] at this;omega
     ·exact hn j t hj)
 ·rcases set_cases ht with ⟨_,rfl⟩|⟨_,ht⟩
  ·rfl
  ·exact hd j t ht hh
 ·unfold CaA.cost;have:=countP_set (·.wet) C.slots i ⟨p,true,false,true,0⟩ s hi;have e:SlotA.wet ⟨p,true,false,true,0⟩=false:=rfl;rw[e] at this;show C.disk.waiting.length+(C.slots.set i ⟨p,true,false,true,0⟩).countP (·.wet)≤C.disk.waiting.length+C.slots.countP (·.wet);simp at this;split at this <;> omega
def DiskA.wrote(D:DiskA)(i:Nat)(b:List UInt8):DiskA:={ D with waiting:=D.waiting++[(i,b)],after:=RowKit.wrap64 (D.after-1),count:=RowKit.wrap64 (D.count+1) }
theorem look_wrote(D:DiskA)(i:Nat)(b:List UInt8)(j:Nat):(D.wrote i b).look j=if i=j then b else D.look j:=by
 unfold DiskA.look DiskA.wrote;simp only[lookW_append,lookW];by_cases e:i=j
 ·simp[e]
 ·simp[e]
def writeC(C:CaA)(i:Nat)(s:SlotA):CaA:={ C with disk:=C.disk.wrote s.page.id.toNat (sealP s.page C.disk.size),slots:=C.slots.set i { s with dirty:=false } }
theorem sim_write{C:CaA}(h:CaInv C){i:Nat}{s:SlotA}(hi:C.slots[i]? = some s)(hf:s.full=true)(hd:s.dirty=true):Sim C (writeC C i s):=by
 obtain⟨hp0,hp1,hok⟩:=h.page i s hi hf;obtain⟨id,hid⟩:∃id:Nat,s.page.id=(id:Int):=⟨s.page.id.toNat,by omega⟩;have hopen:=seal_openAt hok.1 hok.2;have hself:s.has id=true:=has_iff.2 ⟨hf,hid⟩;have uniq:∀(j:Nat) (t:SlotA),C.slots[j]? = some t→t.has id=true→j=i:=λj t hj ht=>by
  have h2:=has_iff.1 ht;exact h.one j i t s hj hi h2.1 hf (by rw[h2.2,hid])
 have look2:∀j,(writeC C i s).disk.look j=if id=j then sealP s.page C.disk.size else C.disk.look j:=λj=>by
  unfold writeC;simp only[hid,Int.toNat_natCast];exact look_wrote _ _ _ _
 have inv:CaInv (writeC C i s) :=
  ⟨by simpa[writeC] using h.n3,by simpa[writeC] using h.n64,by simpa[writeC] using h.hand,h.s256,h.s1024,h.b8,h.b256,h.lenL,λj hj=>by rw[look2];split;(exact sealP_length _ _ (by have:=pgCheck_none hok.1;omega));exact h.len j hj,h.off,h.lit,
   λj t ht hf=>by rcases set_cases ht with ⟨_,rfl⟩|⟨_,ht⟩;exact h.page i s hi hf;exact h.page j t ht hf,
   λj t ht=>by rcases set_cases ht with ⟨_,rfl⟩|⟨_,ht⟩;exact h.pins i s hi;exact h.pins j t ht,
   λj k t t' ht ht' hf hf' he=>by
    rcases set_cases ht with ⟨ej,rfl⟩|⟨hj,ht⟩ <;> rcases set_cases ht' with ⟨ek,rfl⟩|⟨hk,ht'⟩
    ·rw[ej,ek]
    ·rw[ej];exact h.one i k s t' hi ht' hf hf' he
    ·rw[ek];exact h.one j i t s ht hi hf hf' he
    ·exact h.one j k t t' ht ht' hf hf' he,
   λj t ht hft hdt=>by
    rw[look2];rcases set_cases ht with ⟨_,rfl⟩|⟨hne,ht⟩
    ·rw[if_pos (by simp only[hid];omega)];exact hopen
    ·obtain⟨q0,_,_⟩:=h.page j t ht hft;rw[if_neg (λe=>hne (uniq j t ht (has_iff.2 ⟨hft,by omega⟩)))];exact h.clean j t ht hft hdt⟩
 refine⟨inv,rfl,rfl,rfl,λid'=>?_,λid' hdd=>?_,?_⟩
 ·by_cases hx:∃(j:Nat) (t:SlotA),C.slots[j]? = some t∧t.has id'=true
  ·obtain⟨j,t,hj,ht⟩:=hx;rw[h.vw_at hj ht];by_cases e:j=i
   ·subst e;rw[hi] at hj;injection hj with hj;subst hj;exact inv.vw_at (i:=j) (s:={ s with dirty:=false }) (set_self hi) ht
   ·exact inv.vw_at (i:=j) (s:=t) (set_other e hj) ht
  ·have hn:∀(j:Nat) (t:SlotA),C.slots[j]? = some t→t.has id'=false:=λj t hj=>by
    cases hb:t.has id' with
    | false=>rfl
    | true=>exact absurd ⟨j,t,hj,hb⟩ hx
   have hne:id≠id':=λe=>by have:=hn i s hi;rw[← e,hself] at this;cases this
   rw[vw_none hn,vw_none (λj t hj=>by
    rcases set_cases hj with ⟨_,rfl⟩|⟨_,hj⟩
    ·exact hn i s hi
    ·exact hn j t hj),look2,if_neg hne]
 ·have hne:id≠id':=λe=>by have:=hdd i s hi (e ▸ hself);rw[hd] at this;cases this
  refine⟨by rw[look2,if_neg hne],λj t ht hh=>?_,λp hp e=>?_⟩
  ·rcases set_cases ht with ⟨_,rfl⟩|⟨_,ht⟩
   ·rfl
   ·exact hdd j t ht hh
  ·have:p∈C.disk.waiting++[(s.page.id.toNat,sealP s.page C.disk.size)]:=hp;rw[List.mem_append] at this;rcases this with hp|hp
   ·exact hp
   ·simp at hp;subst hp;simp only[hid,Int.toNat_natCast] at e;exact absurd e hne
 ·unfold CaA.cost;have:=countP_set (·.wet) C.slots i { s with dirty:=false } s hi;have e:SlotA.wet { s with dirty:=false }=false:=by simp[SlotA.wet]
  have e2:s.wet=true:=by simp[SlotA.wet,hf,hd]
  rw[e,e2] at this;have e3:(writeC C i s).disk.waiting.length=C.disk.waiting.length+1:=by simp[writeC,DiskA.wrote]
  rw[e3];show _+(C.slots.set i { s with dirty:=false }).countP _≤_;simp at this;omega
structure GA where
 blocks:Nat
 size:Nat
 view:Nat→Option (PageA ⊕ (List Int × Nat))
 look:Nat→Option (List UInt8)
 last:Nat→Option (List UInt8)
 cost:Nat
structure CaRel(C:CaA)(G:GA):Prop where
 blocks:C.disk.blocks=G.blocks
 size:C.disk.size=G.size
 view:∀id r,G.view id=some r→C.vw id=r
 look:∀id b,G.look id=some b→C.disk.look id=b∧∀(i:Nat) (s:SlotA),C.slots[i]? = some s→s.has id=true→s.dirty=false
 last:∀id b,G.last id=some b→C.disk.lasting.getD id []=b∧(∀p∈C.disk.waiting,p.1≠id)∧∀(i:Nat) (s:SlotA),C.slots[i]? = some s→s.has id=true→s.dirty=false
 cost:C.cost≤G.cost
theorem Sim.rel{C C':CaA}(h:Sim C C'){G:GA}(k:CaRel C G):CaRel C' G :=
 ⟨h.blocks.trans k.blocks,h.size.trans k.size,λid r hr=>(h.vw id).trans (k.view id r hr),
  λid b hb=>by
   obtain⟨k1,k2⟩:=k.look id b hb;obtain⟨h1,h2,_⟩:=h.dirt id k2;exact⟨h1.trans k1,h2⟩,
  λid b hb=>by
   obtain⟨k1,k2,k3⟩:=k.last id b hb;obtain⟨_,h2,h3⟩:=h.dirt id k3;exact⟨by rw[h.lasting];exact k1,λp hp e=>k2 p (h3 p hp e) e,h2⟩,
  Nat.le_trans h.cost k.cost⟩
def upd{α:Type}(f:Nat→α)(i:Nat)(x:α):Nat→α:=λj=>if j=i then x else f j
theorem upd_self{α:Type}(f:Nat→α)(i:Nat)(x:α):upd f i x i=x:=by simp[upd]
theorem upd_ne{α:Type}(f:Nat→α){i j:Nat}(x:α)(h:j≠i):upd f i x j=f j:=by simp[upd,h]
def openO(o:Option (List UInt8))(id:Nat):Option (PageA ⊕ (List Int × Nat)):=o.map λb=>openAtP b id
def GA.put(G:GA)(p:PageA):GA:={ G with view:=upd G.view p.id.toNat (some (.inl p)),look:=upd G.look p.id.toNat none,last:=upd G.last p.id.toNat none,cost:=G.cost+1 }
def GA.drop(G:GA)(id:Nat):GA:={ G with view:=upd G.view id (openO (G.look id) id) }
def putC(C:CaA)(i:Nat)(p:PageA):CaA:={ C with slots:=C.slots.set i ⟨p,true,true,true,0⟩ }
theorem rel_put{C:CaA}{G:GA}(h:CaInv C)(k:CaRel C G){i:Nat}{s:SlotA}(hi:C.slots[i]? = some s)(p:PageA)(id:Nat)(hpi:p.id=(id:Int))(hid:id<C.disk.blocks)(hok:pgOk p C.disk.size)
  (hx:s.has id=true∨(s.full=false∧∀(j:Nat) (t:SlotA),C.slots[j]? = some t→t.has id=false)):CaInv (putC C i p)∧CaRel (putC C i p) (G.put p):=by
 have hoth:∀(j:Nat) (t:SlotA),C.slots[j]? = some t→j≠i→t.has id=false:=λj t hj hne=>by
  rcases hx with hx|⟨_,hx⟩
  ·cases hb:t.has id with
   | false=>rfl
   | true =>
    have h1:=has_iff.1 hx;have h2:=has_iff.1 hb;exact absurd (h.one j i t s hj hi h2.1 h1.1 (by rw[h1.2,h2.2])) hne
  ·exact hx j t hj
 have hself:SlotA.has ⟨p,true,true,true,0⟩ id=true:=has_iff.2 ⟨rfl,hpi⟩;have inv:CaInv (putC C i p) :=
  ⟨by simpa[putC] using h.n3,by simpa[putC] using h.n64,by simpa[putC] using h.hand,h.s256,h.s1024,h.b8,h.b256,h.lenL,h.len,h.off,h.lit,
   λj t ht hf=>by rcases set_cases ht with ⟨_,rfl⟩|⟨_,ht⟩;exact⟨by simp only[hpi];omega,by simp only[hpi];exact Int.ofNat_lt.2 hid,hok⟩;exact h.page j t ht hf,
   λj t ht=>by rcases set_cases ht with ⟨_,rfl⟩|⟨_,ht⟩;rfl;exact h.pins j t ht,
   λj k t t' ht ht' hf hf' he=>by
    rcases set_cases ht with ⟨ej,rfl⟩|⟨hj,ht⟩ <;> rcases set_cases ht' with ⟨ek,rfl⟩|⟨hk,ht'⟩
    ·rw[ej,ek]
    ·have:=hoth k t' ht' hk;rw[show t'.has id=true from has_iff.2 ⟨hf',by rw[← he];exact hpi⟩] at this;cases this
    ·have:=hoth j t ht hj;rw[show t.has id=true from has_iff.2 ⟨hf,by rw[he];exact hpi⟩] at this;cases this
    ·exact h.one j k t t' ht ht' hf hf' he,
   λj t ht hf hd=>by rcases set_cases ht with ⟨_,rfl⟩|⟨_,ht⟩;cases hd;exact h.clean j t ht hf hd⟩
 have hidn:p.id.toNat=id:=by omega
 have clean:∀id',id'≠id→(∀(j:Nat) (t:SlotA),C.slots[j]? = some t→t.has id'=true→t.dirty=false)→∀(j:Nat) (t:SlotA),(putC C i p).slots[j]? = some t→t.has id'=true→t.dirty=false:=λid' hne hc j t ht hh=>by
  rcases set_cases ht with ⟨_,rfl⟩|⟨_,ht⟩
  ·have:=(has_iff.1 hh).2;simp only[hpi] at this;omega
  ·exact hc j t ht hh
 refine⟨inv,k.blocks,k.size,λid' r hr=>?_,λid' b hb=>?_,λid' b hb=>?_,?_⟩
 ·unfold GA.put at hr;simp only[hidn] at hr;by_cases e:id'=id
  ·subst e;rw[upd_self] at hr;injection hr with hr;rw[← hr];exact inv.vw_at (i:=i) (s:=⟨p,true,true,true,0⟩) (set_self hi) hself
  ·rw[upd_ne _ _ e] at hr;rw[← k.view id' r hr];by_cases hx2:∃(j:Nat) (t:SlotA),C.slots[j]? = some t∧t.has id'=true
   ·obtain⟨j,t,hj,ht⟩:=hx2;rw[h.vw_at hj ht];have hne:j≠i:=by
     rintro rfl;rw[hi] at hj;injection hj with hj;subst hj;rcases hx with hx|⟨hx,_⟩
     ·have h1:=(has_iff.1 hx).2;have h2:=(has_iff.1 ht).2;omega
     ·rw[SlotA.has,hx] at ht;simp at ht
    exact inv.vw_at (i:=j) (s:=t) (set_other hne hj) ht
   ·have hn:∀(j:Nat) (t:SlotA),C.slots[j]? = some t→t.has id'=false:=λj t hj=>by
     cases hb:t.has id' with
     | false=>rfl
     | true=>exact absurd ⟨j,t,hj,hb⟩ hx2
    rw[vw_none hn];exact vw_none (λj t hj=>by
     rcases set_cases hj with ⟨_,rfl⟩|⟨_,hj⟩
     ·cases hb:SlotA.has ⟨p,true,true,true,0⟩ id' with
      | false=>rfl
      | true =>
       have:=(has_iff.1 hb).2;simp only[hpi] at this;omega
     ·exact hn j t hj)
 ·unfold GA.put at hb;simp only[hidn] at hb;by_cases e:id'=id
  ·subst e;rw[upd_self] at hb;cases hb
  ·rw[upd_ne _ _ e] at hb;obtain⟨k1,k2⟩:=k.look id' b hb;exact⟨k1,clean id' e k2⟩
 ·unfold GA.put at hb;simp only[hidn] at hb;by_cases e:id'=id
  ·subst e;rw[upd_self] at hb;cases hb
  ·rw[upd_ne _ _ e] at hb;obtain⟨k1,k2,k3⟩:=k.last id' b hb;exact⟨k1,k2,clean id' e k3⟩
 ·have hc:=k.cost;unfold CaA.cost at hc ⊢;have:=countP_set (·.wet) C.slots i ⟨p,true,true,true,0⟩ s hi;have e:SlotA.wet ⟨p,true,true,true,0⟩=true:=rfl;rw[e] at this;show C.disk.waiting.length+(C.slots.set i ⟨p,true,true,true,0⟩).countP (·.wet)≤G.cost+1;simp at this;split at this <;> omega
theorem inv_put{C:CaA}(h:CaInv C){i:Nat}{s:SlotA}(hi:C.slots[i]? = some s)(p:PageA)(id:Nat)(hpi:p.id=(id:Int))(hid:id<C.disk.blocks)(hok:pgOk p C.disk.size)
  (hx:s.has id=true∨(s.full=false∧∀(j:Nat) (t:SlotA),C.slots[j]? = some t→t.has id=false)):CaInv (putC C i p) :=
 (rel_put (G:=⟨C.disk.blocks,C.disk.size,λ_=>none,λ_=>none,λ_=>none,C.cost⟩) h ⟨rfl,rfl,(λ_ _ h=>by cases h),(λ_ _ h=>by cases h),(λ_ _ h=>by cases h),Nat.le_refl _⟩ hi p id hpi hid hok hx).1
theorem rel_drop{C:CaA}{G:GA}(h:CaInv C)(k:CaRel C G){i:Nat}{s:SlotA}{id:Nat}(hi:C.slots[i]? = some s)(hs:s.has id=true):CaInv { C with slots:=C.slots.set i slot0 }∧CaRel { C with slots:=C.slots.set i slot0 } (G.drop id):=by
 obtain⟨hf,hid⟩:=has_iff.1 hs;have inv:CaInv { C with slots:=C.slots.set i slot0 } :=
  ⟨by simpa using h.n3,by simpa using h.n64,by simpa using h.hand,h.s256,h.s1024,h.b8,h.b256,h.lenL,h.len,h.off,h.lit,
   λj t ht hf=>by rcases set_cases ht with ⟨_,rfl⟩|⟨_,ht⟩;exact absurd hf (by simp[slot0]);exact h.page j t ht hf,
   λj t ht=>by rcases set_cases ht with ⟨_,rfl⟩|⟨_,ht⟩;rfl;exact h.pins j t ht,
   λj k t t' ht ht' hf hf' he=>by
    rcases set_cases ht with ⟨rfl,rfl⟩|⟨hj,ht⟩
    ·exact absurd hf (by simp[slot0])
    ·rcases set_cases ht' with ⟨rfl,rfl⟩|⟨hk,ht'⟩
     ·exact absurd hf' (by simp[slot0])
     ·exact h.one j k t t' ht ht' hf hf' he,
   λj t ht hf hd=>by rcases set_cases ht with ⟨_,rfl⟩|⟨_,ht⟩;exact absurd hf (by simp[slot0]);exact h.clean j t ht hf hd⟩
 have clean:∀id',(∀(j:Nat) (t:SlotA),C.slots[j]? = some t→t.has id'=true→t.dirty=false)→∀(j:Nat) (t:SlotA),(C.slots.set i slot0)[j]? = some t→t.has id'=true→t.dirty=false:=λid' hc j t ht hh=>by
  rcases set_cases ht with ⟨_,rfl⟩|⟨_,ht⟩
  ·rfl
  ·exact hc j t ht hh
 refine⟨inv,k.blocks,k.size,λid' r hr=>?_,λid' b hb=>?_,λid' b hb=>?_,?_⟩
 ·unfold GA.drop at hr;simp only at hr;by_cases e:id'=id
  ·subst e;rw[upd_self] at hr;unfold openO at hr;obtain⟨b,hb,hr⟩:=Option.map_eq_some_iff.1 hr;rw[← hr,← (k.look id' b hb).1];exact vw_none (λj t hk=>by
     rcases set_cases hk with ⟨_,rfl⟩|⟨hne,hk⟩
     ·rfl
     ·cases hb:t.has id' with
      | false=>rfl
      | true =>
       have h2:=has_iff.1 hb;exact absurd (h.one j i t s hk hi h2.1 hf (by rw[h2.2,hid])) hne)
  ·rw[upd_ne _ _ e] at hr;rw[← k.view id' r hr];by_cases hx2:∃(j:Nat) (t:SlotA),C.slots[j]? = some t∧t.has id'=true
   ·obtain⟨j,t,hj,ht⟩:=hx2;rw[h.vw_at hj ht];have hne:j≠i:=by
     rintro rfl;rw[hi] at hj;injection hj with hj;subst hj;have h2:=(has_iff.1 ht).2;omega
    exact inv.vw_at (i:=j) (s:=t) (set_other hne hj) ht
   ·have hn:∀(j:Nat) (t:SlotA),C.slots[j]? = some t→t.has id'=false:=λj t hj=>by
     cases hb:t.has id' with
     | false=>rfl
     | true=>exact absurd ⟨j,t,hj,hb⟩ hx2
    rw[vw_none hn];exact vw_none (λj t hj=>by
     rcases set_cases hj with ⟨_,rfl⟩|⟨_,hj⟩
     ·rfl
     ·exact hn j t hj)
 ·obtain⟨k1,k2⟩:=k.look id' b hb;exact⟨k1,clean id' k2⟩
 ·obtain⟨k1,k2,k3⟩:=k.last id' b hb;exact⟨k1,k2,clean id' k3⟩
 ·have hc:=k.cost;unfold CaA.cost at hc ⊢;have:=countP_set (·.wet) C.slots i slot0 s hi;have e:slot0.wet=false:=rfl;rw[e] at this;show C.disk.waiting.length+(C.slots.set i slot0).countP (·.wet)≤G.cost;simp at this;split at this <;> omega
theorem inv_clear{C:CaA}(h:CaInv C){i:Nat}{s:SlotA}(_:C.slots[i]? = some s):CaInv { C with slots:=C.slots.set i slot0 } :=
 ⟨by simpa using h.n3,by simpa using h.n64,by simpa using h.hand,h.s256,h.s1024,h.b8,h.b256,h.lenL,h.len,h.off,h.lit,
   λj t ht hf=>by rcases set_cases ht with ⟨_,rfl⟩|⟨_,ht⟩;exact absurd hf (by simp[slot0]);exact h.page j t ht hf,
   λj t ht=>by rcases set_cases ht with ⟨_,rfl⟩|⟨_,ht⟩;rfl;exact h.pins j t ht,
   λj k t t' ht ht' hf hf' he=>by
    rcases set_cases ht with ⟨rfl,rfl⟩|⟨hj,ht⟩
    ·exact absurd hf (by simp[slot0])
    ·rcases set_cases ht' with ⟨rfl,rfl⟩|⟨hk,ht'⟩
     ·exact absurd hf' (by simp[slot0])
     ·exact h.one j k t t' ht ht' hf hf' he,
   λj t ht hf hd=>by rcases set_cases ht with ⟨_,rfl⟩|⟨_,ht⟩;exact absurd hf (by simp[slot0]);exact h.clean j t ht hf hd⟩
theorem rel_drop_no{C:CaA}{G:GA}(k:CaRel C G){id:Nat}(hn:∀(j:Nat) (t:SlotA),C.slots[j]? = some t→t.has id=false):CaRel C (G.drop id):=by
 refine⟨k.blocks,k.size,λid' r hr=>?_,k.look,k.last,k.cost⟩;unfold GA.drop at hr;simp only at hr;by_cases e:id'=id
 ·subst e;rw[upd_self] at hr;unfold openO at hr;obtain⟨b,hb,hr⟩:=Option.map_eq_some_iff.1 hr;rw[← hr,← (k.look id' b hb).1];exact vw_none hn
 ·rw[upd_ne _ _ e] at hr;exact k.view id' r hr
theorem rep_at{n j:Nat}{t:SlotA}(h:(List.replicate n slot0)[j]? = some t):t=slot0:=by
 rw[List.getElem?_replicate] at h;split at h
 ·injection h with h;exact h.symm
 ·cases h
theorem inv_empty(D:DiskA)(n:Nat)(h3:3≤n)(h64:n≤64)(s256:256≤D.size)(s1024:D.size≤1024)(b8:8≤D.blocks)(b256:D.blocks≤256)(lenL:D.lasting.length=D.blocks)
  (len:∀id:Nat,id<D.blocks→(D.look id).length=D.size) (off:D.off=false) (lit:D.lit=false):CaInv ⟨D,List.replicate n slot0,0⟩ :=
 ⟨by simpa using h3,by simpa using h64,by simp;omega,s256,s1024,b8,b256,lenL,len,off,lit,
  λj t ht hf=>by (rw[rep_at ht] at hf;cases hf),λj t ht=>by (rw[rep_at ht];rfl),
  λj k t t' ht _ hf _ _=>by (rw[rep_at ht] at hf;cases hf),λj t ht hf _=>by (rw[rep_at ht] at hf;cases hf)⟩
theorem rep_count(n:Nat):(List.replicate n slot0).countP (·.wet)=0:=by
 rw[List.countP_replicate];rfl
theorem rel_empty(D:DiskA)(n:Nat)(G:GA)(hb:D.blocks=G.blocks)(hs:D.size=G.size)(hv:∀id r,G.view id=some r→openAtP (D.look id) id=r)(hl:∀id b,G.look id=some b→D.look id=b)
  (ht:∀id b,G.last id=some b→D.lasting.getD id []=b∧∀p∈D.waiting,p.1≠id) (hc:D.waiting.length≤G.cost):CaRel ⟨D,List.replicate n slot0,0⟩ G :=
 ⟨hb,hs,λid r hr=>by rw[vw_none (λj t hj=>by rw[rep_at hj];rfl)];exact hv id r hr,
  λid b h=>⟨hl id b h,λj t hj hh=>by rw[rep_at hj];rfl⟩,λid b h=>⟨(ht id b h).1,(ht id b h).2,λj t hj hh=>by rw[rep_at hj];rfl⟩,
  by unfold CaA.cost;simp only[rep_count];omega⟩
theorem openAt_inl{b:List UInt8}{id:Int}{p:PageA}(h:openAtP b id=.inl p):pgOk p b.length∧p.id=id∧sealP p b.length=b:=by
 unfold openAtP at h;split at h
 ·cases h
 ·rename_i ho;split at h
  ·cases h
  ·rename_i hid;injection h with h;subst h;simp only[Bool.not_eq_false] at ho;unfold openB at ho;simp only[Bool.and_eq_true,decide_eq_true_eq] at ho;exact⟨⟨ho.1,readP_gen b⟩,by simpa using hid,ho.2⟩
end
section
open Go.RowKit
def needN(n size:Int):Int:=if n<1∨size<256∨1024<size then 0 else (n-1) / (size-28)+1
theorem bl_irrefl:∀a:List UInt8,Op.bytesLess a a=false
 | []=>rfl
 | x :: a=>by simp[Op.bytesLess,bl_irrefl a]
theorem bl_trans:∀a b c:List UInt8,Op.bytesLess a b=true→Op.bytesLess b c=true→Op.bytesLess a c=true
 | _,_,[],_,h=>by cases ‹List UInt8› <;> simp[Op.bytesLess] at h
 | _,[],_ :: _,h,_=>by simp[Op.bytesLess] at h
 | [],_ :: _,_ :: _,_,_=>rfl
 | x :: a,y :: b,z :: c,h1,h2=>by
  simp only[Op.bytesLess,Bool.or_eq_true,Bool.and_eq_true,decide_eq_true_eq,beq_iff_eq] at h1 h2 ⊢;rcases h1 with h1|⟨rfl,h1⟩
  ·rcases h2 with h2|⟨rfl,h2⟩
   ·exact .inl (UInt8.lt_trans h1 h2)
   ·exact .inl h1
  ·rcases h2 with h2|⟨rfl,h2⟩
   ·exact .inl h2
   ·exact .inr ⟨rfl,bl_trans a b c h1 h2⟩
theorem bl_tri:∀a b:List UInt8,Op.bytesLess a b=true∨a=b∨Op.bytesLess b a=true
 | [],[]=>.inr (.inl rfl)
 | [],_ :: _=>.inl rfl
 | _ :: _,[]=>.inr (.inr rfl)
 | x :: a,y :: b=>by
  simp only[Op.bytesLess,Bool.or_eq_true,Bool.and_eq_true,decide_eq_true_eq,beq_iff_eq];rcases Nat.lt_trichotomy x.toNat y.toNat with h|h|h
  ·exact .inl (.inl h)
  ·have e:x=y:=UInt8.toNat_inj.1 h;subst e;rcases bl_tri a b with h|rfl|h
   ·exact .inl (.inr ⟨rfl,h⟩)
   ·exact .inr (.inl rfl)
   ·exact .inr (.inr (.inr ⟨rfl,h⟩))
  ·exact .inr (.inr (.inl h))
theorem ltS_irrefl(a:ByteArray):ltS a a=false:=bl_irrefl _
theorem ltS_trans{a b c:ByteArray}(h:ltS a b=true)(k:ltS b c=true):ltS a c=true:=bl_trans _ _ _ h k
theorem toList_inj{a b:ByteArray}(h:a.toList=b.toList):a=b:=by
 rw[ByteArray.toList_eq,ByteArray.toList_eq] at h;exact ByteArray.ext (Array.ext' h)
theorem ltS_tri(a b:ByteArray):ltS a b=true∨a=b∨ltS b a=true:=by
 rcases bl_tri a.toList b.toList with h|h|h
 ·exact .inl h
 ·exact .inr (.inl (toList_inj h))
 ·exact .inr (.inr h)
theorem ltS_asymm{a b:ByteArray}(h:ltS a b=true):ltS b a=false:=by
 cases hb:ltS b a with
 | false=>rfl
 | true=>have:=ltS_trans h hb;rw[ltS_irrefl] at this;cases this
theorem ltS_ne{a b:ByteArray}(h:ltS a b=true):a≠b:=λe=>by rw[e,ltS_irrefl] at h;cases h
theorem leS_iff(a b:ByteArray):leS a b=true ↔ ltS a b=true∨a=b:=by
 unfold leS ltS;rw[Bool.or_eq_true,beq_iff_eq];exact⟨λh=>h.imp id toList_inj,λh=>h.imp id (λe=>by rw[e])⟩
theorem not_ltS{a b:ByteArray}(h:ltS a b=false):ltS b a=true∨a=b:=by
 rcases ltS_tri a b with k|k|k
 ·rw[h] at k;cases k
 ·exact .inr k
 ·exact .inl k
abbrev PairS:=ByteArray × ByteArray
def SortedP(l:List PairS):Prop:=l.Pairwise λa b=>ltS a.1 b.1=true
def withP(key value:ByteArray)(over:Bool):List PairS→List PairS
 | []=>[(key,value)]
 | x :: l=>if ltS x.1 key then x :: withP key value over l
  else if x.1=key then (if over then (key,value) :: l else x :: l) else (key,value) :: x :: l
def findP(key:ByteArray)(l:List PairS):Option ByteArray:=(l.find? λx=>decide (x.1=key)).map (·.2)
theorem mem_withP{key value:ByteArray}{over:Bool}{y:PairS}:∀{l:List PairS},y∈withP key value over l→y=(key,value)∨y∈l
 | [],h=>by simp[withP] at h;exact .inl h
 | x :: l,h=>by
  unfold withP at h;split at h
  ·rcases List.mem_cons.1 h with rfl|h
   ·exact .inr List.mem_cons_self
   ·exact (mem_withP h).imp id (List.mem_cons_of_mem _)
  ·split at h
   ·split at h
    ·rcases List.mem_cons.1 h with rfl|h
     ·exact .inl rfl
     ·exact .inr (List.mem_cons_of_mem _ h)
    ·exact .inr h
   ·rcases List.mem_cons.1 h with rfl|h
    ·exact .inl rfl
    ·exact .inr h
theorem sorted_withP{key value:ByteArray}{over:Bool}:∀{l:List PairS},SortedP l→SortedP (withP key value over l)
 | [],_=>by unfold withP SortedP;exact List.pairwise_singleton _ _
 | x :: l,h=>by
  have h2:=List.pairwise_cons.1 h;unfold withP;by_cases h1:ltS x.1 key=true
  ·rw[if_pos h1];refine List.pairwise_cons.2 ⟨λy hy=>?_,sorted_withP h2.2⟩;rcases mem_withP hy with rfl|hy
   ·exact h1
   ·exact h2.1 y hy
  ·rw[if_neg h1];by_cases hk:x.1=key
   ·rw[if_pos hk];cases over with
    | true=>exact List.pairwise_cons.2 ⟨λy hy=>by have:=h2.1 y hy;rw[hk] at this;exact this,h2.2⟩
    | false=>exact h
   ·rw[if_neg hk];have h3:ltS key x.1=true:=(not_ltS (by simpa using h1)).resolve_right hk;refine List.pairwise_cons.2 ⟨λy hy=>?_,h⟩;rcases List.mem_cons.1 hy with rfl|hy
    ·exact h3
    ·exact ltS_trans h3 (h2.1 y hy)
theorem findP_cons(key:ByteArray)(x:PairS)(l:List PairS):findP key (x :: l)=if x.1=key then some x.2 else findP key l:=by
 unfold findP;rw[List.find?_cons];by_cases h:x.1=key
 ·simp[h]
 ·simp[h]
theorem findP_none{key:ByteArray}{l:List PairS}(h:∀x∈l,x.1≠key):findP key l=none:=by
 unfold findP;rw[List.find?_eq_none.2 (λx hx=>by simpa using h x hx)];rfl
theorem findP_append(key:ByteArray)(a b:List PairS):findP key (a++b)=(findP key a).or (findP key b):=by
 induction a with
 | nil=>simp[findP]
 | cons x a ih =>
  rw[List.cons_append,findP_cons,findP_cons,ih];by_cases h:x.1=key
  ·rw[if_pos h,if_pos h];rfl
  ·rw[if_neg h,if_neg h]
theorem findP_gt{key:ByteArray}{l:List PairS}(h:∀x∈l,ltS key x.1=true):findP key l=none:=findP_none (λx hx e=>ltS_ne (h x hx) e.symm)
theorem findP_with{key value k:ByteArray}{over:Bool}:∀{l:List PairS},SortedP l→findP k (withP key value over l)=if k=key then (match findP key l with|some v=>some (if over then value else v)|none=>some value) else findP k l
 | [],_=>by
  unfold withP;rw[findP_cons];by_cases h:k=key
  ·subst h;simp[findP]
  ·rw[if_neg (λe=>h e.symm),if_neg h]
 | x :: l,hs=>by
  have h2:=List.pairwise_cons.1 hs;unfold withP;by_cases h1:ltS x.1 key=true
  ·rw[if_pos h1,findP_cons,findP_with h2.2,findP_cons,findP_cons];have hne:=ltS_ne h1;by_cases h:k=key
   ·subst h;rw[if_neg hne,if_pos rfl,if_pos rfl,if_neg hne]
   ·rw[if_neg h,if_neg h]
  ·rw[if_neg h1];by_cases hk:x.1=key
   ·rw[if_pos hk];have hnl:findP key l=none:=findP_gt (λy hy=>by have:=h2.1 y hy;rw[hk] at this;exact this);cases over with
    | true =>
     simp only[if_true];rw[findP_cons];by_cases h:k=key
     ·subst h;rw[if_pos rfl,if_pos rfl,findP_cons,if_pos hk]
     ·rw[if_neg (λe=>h e.symm),if_neg h,findP_cons,if_neg (λe=>h (e.symm.trans hk))]
    | false =>
     simp only[Bool.false_eq_true,if_false];by_cases h:k=key
     ·subst h;rw[if_pos rfl,findP_cons,if_pos hk]
     ·rw[if_neg h]
   ·rw[if_neg hk];have h3:ltS key x.1=true:=(not_ltS (by simpa using h1)).resolve_right hk;have hn:findP key (x :: l)=none:=findP_gt (λy hy=>by
     rcases List.mem_cons.1 hy with rfl|hy
     ·exact h3
     ·exact ltS_trans h3 (h2.1 y hy))
    rw[findP_cons];by_cases h:k=key
    ·subst h;rw[if_pos rfl,if_pos rfl,hn]
    ·rw[if_neg (λe=>h e.symm),if_neg h]
end
section
def WthI(key value:ByteArray)(over:Bool)(l:List PairS)(i:Nat)(done:Bool)(out:List PairS):Prop :=
 out.length+(if done then 0 else 1)≤i+1∧out++(if done then l.drop i else withP key value over (l.drop i))=withP key value over l
section
variable {key value:ByteArray}{over:Bool}{l out:List PairS}{i:Nat}{x:PairS}
theorem WthI.start:WthI key value over l 0 false []:=⟨by simp,by simp⟩
theorem drop_of{α:Type}{l:List α}{i:Nat}{x:α}(h:l[i]? = some x):l.drop i=x :: l.drop (i+1):=by
 obtain⟨hi,rfl⟩:=List.getElem?_eq_some_iff.1 h;exact List.drop_eq_getElem_cons hi
theorem WthI.pass(h:WthI key value over l i true out)(hx:l[i]? = some x):WthI key value over l (i+1) true (out++[x]):=by
 obtain⟨h1,h2⟩:=h;rw[drop_of hx] at h2;exact⟨by simp at h1 ⊢;omega,by simpa using h2⟩
theorem WthI.lt(h:WthI key value over l i false out)(hx:l[i]? = some x)(hl:ltS x.1 key=true):WthI key value over l (i+1) false (out++[x]):=by
 obtain⟨h1,h2⟩:=h;rw[drop_of hx] at h2;simp only[withP,hl] at h2;exact⟨by simp at h1 ⊢;omega,by simpa using h2⟩
theorem WthI.gt(h:WthI key value over l i false out)(hx:l[i]? = some x)(hl:ltS x.1 key=false)(hk:x.1≠key):WthI key value over l (i+1) true (out++[(key,value)]++[x]):=by
 obtain⟨h1,h2⟩:=h;rw[drop_of hx] at h2;simp only[withP,hl,hk] at h2;exact⟨by simp at h1 ⊢;omega,by simpa using h2⟩
theorem WthI.eqO(h:WthI key value true l i false out)(hx:l[i]? = some x)(hk:x.1=key):WthI key value true l (i+1) true (out++[(key,value)]):=by
 obtain⟨h1,h2⟩:=h;rw[drop_of hx] at h2;simp only[withP,hk,ltS_irrefl] at h2;exact⟨by simp at h1 ⊢;omega,by simpa using h2⟩
theorem WthI.eqN(h:WthI key value false l i false out)(hx:l[i]? = some x)(hk:x.1=key):WthI key value false l (i+1) true (out++[x]):=by
 obtain⟨h1,h2⟩:=h;rw[drop_of hx] at h2;simp only[withP,hk,ltS_irrefl] at h2;exact⟨by simp at h1 ⊢;omega,by simpa using h2⟩
theorem WthI.done(h:WthI key value over l i true out)(hi:l.length≤i):out=withP key value over l:=by
 obtain⟨h1,h2⟩:=h;rw[List.drop_eq_nil_of_le hi] at h2;simpa using h2
theorem WthI.last(h:WthI key value over l i false out)(hi:l.length≤i):out++[(key,value)]=withP key value over l:=by
 obtain⟨h1,h2⟩:=h;rw[List.drop_eq_nil_of_le hi] at h2;simpa[withP] using h2
end
end
section
open Go.RowKit
structure ChV where
 key:ByteArray
 was:Bool
 is:Bool
 old:ByteArray
 new:ByteArray
def encCh(x:ChV):List Value:=[.string x.key,.bool x.was,.bool x.is,.string x.old,.string x.new]
def emS:ByteArray:=⟨#[]⟩
def delC(x:PairS):ChV:=⟨x.1,true,false,x.2,emS⟩
def insC(y:PairS):ChV:=⟨y.1,false,true,emS,y.2⟩
def chgC(x y:PairS):ChV:=⟨x.1,true,true,x.2,y.2⟩
def turnC(c:ChV):ChV:=⟨c.key,c.is,c.was,c.new,c.old⟩
def diffP:List PairS→List PairS→List ChV
 | [],ys=>ys.map insC
 | x :: xs,[]=>delC x :: diffP xs []
 | x :: xs,y :: ys =>
  if ltS x.1 y.1=true then delC x :: diffP xs (y :: ys)
  else if ltS y.1 x.1=true then insC y :: diffP (x :: xs) ys
  else if x.2=y.2 then diffP xs ys else chgC x y :: diffP xs ys
termination_by xs ys=>xs.length+ys.length
def docO(k:ByteArray)(o n:Option ByteArray):List ChV :=
 if o.isSome=n.isSome∧o.getD emS=n.getD emS then [] else [⟨k,o.isSome,n.isSome,o.getD emS,n.getD emS⟩]
def docC(a b:List PairS)(k:ByteArray):List ChV:=docO k (findP k a) (findP k b)
def keysD(a b:List PairS):List PairS:=b.foldl (λk y=>withP y.1 emS true k) a
def docDiff(a b:List PairS):List ChV:=(keysD a b).flatMap λx=>docC a b x.1
theorem keysD_sorted:∀(b:List PairS) {a:List PairS},SortedP a→SortedP (keysD a b)
 | [],_,h=>h
 | _ :: b,_,h=>keysD_sorted b (sorted_withP h)
theorem mem_fst_with{key value:ByteArray}{over:Bool}{l:List PairS}(hs:SortedP l)(k:ByteArray):k∈(withP key value over l).map (·.1) ↔ k=key∨k∈l.map (·.1):=by
 have hf:∀(q:List PairS),k∈q.map (·.1) ↔ findP k q≠none:=by
  intro q;induction q with
  | nil=>simp[findP]
  | cons x q ih =>
   rw[List.map_cons,List.mem_cons,findP_cons,ih];by_cases h:x.1=k
   ·rw[if_pos h];exact⟨λ_ h=>by simp at h,λ_=>.inl h.symm⟩
   ·rw[if_neg h];exact⟨λh1=>h1.resolve_left (λe=>h e.symm),.inr⟩
 rw[hf,hf,findP_with hs];by_cases h:k=key
 ·rw[if_pos h];refine⟨λ_=>.inl h,λ_=>?_⟩;cases findP key l <;> simp
 ·rw[if_neg h];exact⟨.inr,λh1=>h1.resolve_left h⟩
theorem mem_keysD:∀(b:List PairS) {a:List PairS},SortedP a→∀k,k∈(keysD a b).map (·.1) ↔ k∈a.map (·.1)∨k∈b.map (·.1)
 | [],a,_,k=>by simp[keysD]
 | y :: b,a,h,k=>by
  have:=mem_keysD b (sorted_withP (key:=y.1) (value:=emS) (over:=true) h) k;rw[show keysD a (y :: b)=keysD (withP y.1 emS true a) b from rfl,this,mem_fst_with h,List.map_cons,List.mem_cons];constructor
  ·rintro ((h|h)|h)
   ·exact .inr (.inl h)
   ·exact .inl h
   ·exact .inr (.inr h)
  ·rintro (h|h|h)
   ·exact .inl (.inr h)
   ·exact .inl (.inl h)
   ·exact .inr h
def SortedK(l:List ByteArray):Prop:=l.Pairwise λa b=>ltS a b=true
theorem SortedK.head{l:List ByteArray}(h:SortedK l){m:ByteArray}(hm:m∈l)(hl:∀k∈l,k=m∨ltS m k=true):∃r,l=m :: r∧SortedK r∧∀k∈r,ltS m k=true:=by
 cases l with
 | nil=>simp at hm
 | cons x r =>
  obtain⟨h1,h2⟩:=List.pairwise_cons.1 h;rcases hl x List.mem_cons_self with e|e
  ·subst e;exact⟨r,rfl,h2,h1⟩
  ·rcases List.mem_cons.1 hm with e2|e2
   ·subst e2;exact⟨r,rfl,h2,h1⟩
   ·have:=h1 m e2;rw[ltS_asymm e] at this;cases this
theorem SortedP.cons{x:PairS}{l:List PairS}(h:SortedP (x :: l)):(∀y∈l,ltS x.1 y.1=true)∧SortedP l:=List.pairwise_cons.1 h
theorem flat_congr{α β:Type}{f g:α→List β}:∀{l:List α},(∀x∈l,f x=g x)→l.flatMap f=l.flatMap g
 | [],_=>rfl
 | x :: l,h=>by rw[List.flatMap_cons,List.flatMap_cons,h x List.mem_cons_self,flat_congr (λy hy=>h y (List.mem_cons_of_mem _ hy))]
theorem findP_tail{x:PairS}{l:List PairS}{k:ByteArray}(h:ltS x.1 k=true):findP k (x :: l)=findP k l:=by
 rw[findP_cons,if_neg (ltS_ne h)]
theorem findP_head(x:PairS)(l:List PairS):findP x.1 (x :: l)=some x.2:=by rw[findP_cons,if_pos rfl]
theorem doc_diff:∀(a b:List PairS) (K:List ByteArray),SortedP a→SortedP b→SortedK K→(∀k,k∈K ↔ k∈a.map (·.1)∨k∈b.map (·.1))→K.flatMap (docC a b)=diffP a b:=by
 intro a b;induction hn:a.length+b.length using Nat.strongRecOn generalizing a b with
 | _ n ih =>
 subst hn;intro K ha hb hK hm;have gt1:∀{x:PairS} {l:List PairS},SortedP (x :: l)→∀k∈(x :: l).map (·.1),k=x.1∨ltS x.1 k=true:=by
  intro x l h k hk;rw[List.map_cons,List.mem_cons] at hk;rcases hk with e|hk
  ·exact .inl e
  ·obtain⟨y,hy,rfl⟩:=List.mem_map.1 hk;exact .inr (h.cons.1 y hy)
 have nin:∀{m:ByteArray} {l:List PairS},(∀y∈l,ltS m y.1=true)→m ∉ l.map (·.1):=by
  intro m l h hk;obtain⟨y,hy,e⟩:=List.mem_map.1 hk;exact ltS_ne (h y hy) e.symm
 match a,b with
 | [],[] =>
  have:K=[]:=by
   cases K with
   | nil=>rfl
   | cons k r=>have:=(hm k).1 List.mem_cons_self;simp at this
  subst this;simp[diffP]
 | [],y :: ys =>
  obtain⟨r,rfl,hr,hg⟩:=hK.head (m:=y.1) ((hm y.1).2 (.inr (by simp))) (λk hk=>by
   rcases (hm k).1 hk with h|h
   ·simp at h
   ·exact gt1 hb k h)
  have hys:=hb.cons;rw[List.flatMap_cons];have h1:docC [] (y :: ys) y.1=[insC y]:=by
   unfold docC docO;rw[findP_head];simp[findP,insC]
  have h2:r.flatMap (docC [] (y :: ys))=r.flatMap (docC [] ys):=flat_congr (λk hk=>by unfold docC;rw[findP_tail (hg k hk)]);rw[h1,h2,ih _ (by simp) [] ys rfl r List.Pairwise.nil hys.2 hr (λk=>?_)]
  ·simp[diffP]
  ·have hmk:=hm k;simp only[List.map_nil,List.not_mem_nil,false_or,List.map_cons,List.mem_cons] at hmk ⊢;constructor
   ·intro h;exact (hmk.1 (.inr h)).resolve_left (λe=>ltS_ne (hg k h) e.symm)
   ·intro h;refine (hmk.2 (.inr h)).resolve_left (λe=>nin hys.1 (e ▸ h))
 | x :: xs,[] =>
  obtain⟨r,rfl,hr,hg⟩:=hK.head (m:=x.1) ((hm x.1).2 (.inl (by simp))) (λk hk=>by
   rcases (hm k).1 hk with h|h
   ·exact gt1 ha k h
   ·simp at h)
  have hxs:=ha.cons;rw[List.flatMap_cons];have h1:docC (x :: xs) [] x.1=[delC x]:=by
   unfold docC docO;rw[findP_head];simp[findP,delC]
  have h2:r.flatMap (docC (x :: xs) [])=r.flatMap (docC xs []):=flat_congr (λk hk=>by unfold docC;rw[findP_tail (hg k hk)]);rw[h1,h2,ih _ (by simp) xs [] rfl r hxs.2 List.Pairwise.nil hr (λk=>?_)]
  ·simp[diffP]
  ·have hmk:=hm k;simp only[List.map_nil,List.not_mem_nil,or_false,List.map_cons,List.mem_cons] at hmk ⊢;constructor
   ·intro h;exact (hmk.1 (.inr h)).resolve_left (λe=>ltS_ne (hg k h) e.symm)
   ·intro h;refine (hmk.2 (.inr h)).resolve_left (λe=>nin hxs.1 (e ▸ h))
 | x :: xs,y :: ys =>
  have hxs:=ha.cons;have hys:=hb.cons;by_cases h1:ltS x.1 y.1=true
  ·have hyx:∀z∈y :: ys,ltS x.1 z.1=true:=by
    intro z hz;rcases List.mem_cons.1 hz with rfl|hz
    ·exact h1
    ·exact ltS_trans h1 (hys.1 z hz)
   obtain⟨r,rfl,hr,hg⟩:=hK.head (m:=x.1) ((hm x.1).2 (.inl (by simp))) (λk hk=>by
    rcases (hm k).1 hk with h|h
    ·exact gt1 ha k h
    ·obtain⟨z,hz,rfl⟩:=List.mem_map.1 h;exact .inr (hyx z hz))
   rw[List.flatMap_cons];have e1:docC (x :: xs) (y :: ys) x.1=[delC x]:=by
    unfold docC docO;rw[findP_head,findP_gt hyx];simp[delC]
   have e2:r.flatMap (docC (x :: xs) (y :: ys))=r.flatMap (docC xs (y :: ys)):=flat_congr (λk hk=>by unfold docC;rw[findP_tail (hg k hk)]);rw[e1,e2,ih _ (by simp) xs (y :: ys) rfl r hxs.2 hb hr (λk=>?_),diffP,if_pos h1]
   ·rfl
   ·have hmk:=hm k;rw[List.map_cons (l:=xs),List.mem_cons,List.mem_cons] at hmk;constructor
    ·intro h;rcases hmk.1 (.inr h) with (e|h2)|h2
     ·exact absurd e.symm (ltS_ne (hg k h))
     ·exact .inl h2
     ·exact .inr h2
    ·intro h;refine (hmk.2 (h.imp .inr id)).resolve_left (λe=>?_);rcases h with h|h
     ·exact nin hxs.1 (e ▸ h)
     ·exact nin hyx (e ▸ h)
  ·by_cases h2:ltS y.1 x.1=true
   ·have hxy:∀z∈x :: xs,ltS y.1 z.1=true:=by
     intro z hz;rcases List.mem_cons.1 hz with rfl|hz
     ·exact h2
     ·exact ltS_trans h2 (hxs.1 z hz)
    obtain⟨r,rfl,hr,hg⟩:=hK.head (m:=y.1) ((hm y.1).2 (.inr (by simp))) (λk hk=>by
     rcases (hm k).1 hk with h|h
     ·obtain⟨z,hz,rfl⟩:=List.mem_map.1 h;exact .inr (hxy z hz)
     ·exact gt1 hb k h)
    rw[List.flatMap_cons];have e1:docC (x :: xs) (y :: ys) y.1=[insC y]:=by
     unfold docC docO;rw[findP_head,findP_gt hxy];simp[insC]
    have e2:r.flatMap (docC (x :: xs) (y :: ys))=r.flatMap (docC (x :: xs) ys):=flat_congr (λk hk=>by unfold docC;rw[findP_tail (x:=y) (hg k hk)]);rw[e1,e2,ih _ (by simp) (x :: xs) ys rfl r ha hys.2 hr (λk=>?_),diffP,if_neg h1,if_pos h2]
    ·rfl
    ·have hmk:=hm k;rw[List.map_cons (l:=ys),List.mem_cons,List.mem_cons] at hmk;constructor
     ·intro h;rcases hmk.1 (.inr h) with h2|e|h2
      ·exact .inl h2
      ·exact absurd e.symm (ltS_ne (hg k h))
      ·exact .inr h2
     ·intro h;refine (hmk.2 (h.imp id .inr)).resolve_left (λe=>?_);rcases h with h|h
      ·exact nin hxy (e ▸ h)
      ·exact nin hys.1 (e ▸ h)
   ·have hxy:x.1=y.1:=by
     rcases ltS_tri x.1 y.1 with h|h|h
     ·exact absurd h h1
     ·exact h
     ·exact absurd h h2
    obtain⟨r,rfl,hr,hg⟩:=hK.head (m:=x.1) ((hm x.1).2 (.inl (by simp))) (λk hk=>by
     rcases (hm k).1 hk with h|h
     ·exact gt1 ha k h
     ·have:=gt1 hb k h;rw[← hxy] at this;exact this)
    rw[List.flatMap_cons];have e1:docC (x :: xs) (y :: ys) x.1=if x.2=y.2 then [] else [chgC x y]:=by
     unfold docC docO;rw[findP_head,hxy,findP_head];by_cases e:x.2=y.2
     ·rw[if_pos ⟨rfl,e⟩,if_pos e]
     ·rw[if_neg (λh=>e h.2),if_neg e];simp[chgC,hxy]
    have e2:r.flatMap (docC (x :: xs) (y :: ys))=r.flatMap (docC xs ys):=flat_congr (λk hk=>by unfold docC;rw[findP_tail (hg k hk),findP_tail (x:=y) (hxy ▸ hg k hk)]);rw[e1,e2,ih _ (by simp;omega) xs ys rfl r hxs.2 hys.2 hr (λk=>?_),diffP,if_neg h1,if_neg h2]
    ·split <;> rfl
    ·have hmk:=hm k;rw[List.map_cons,List.map_cons,List.mem_cons,List.mem_cons,List.mem_cons,← hxy] at hmk;constructor
     ·intro h;have hne:¬ k=x.1:=λe=>ltS_ne (hg k h) e.symm
      rcases hmk.1 (.inr h) with (e|h2)|e|h2
      ·exact absurd e hne
      ·exact .inl h2
      ·exact absurd e hne
      ·exact .inr h2
     ·intro h;refine (hmk.2 (h.imp .inr .inr)).resolve_left (λe=>?_);rcases h with h|h
      ·exact nin hxs.1 (e ▸ h)
      ·exact nin (m:=x.1) (l:=ys) (λz hz=>hxy ▸ hys.1 z hz) (e ▸ h)
theorem docDiff_eq{a b:List PairS}(ha:SortedP a)(hb:SortedP b):docDiff a b=diffP a b:=by
 have hs:=keysD_sorted b ha;have hk:SortedK ((keysD a b).map (·.1)):=List.pairwise_map.2 hs;rw[← doc_diff a b _ ha hb hk (mem_keysD b ha),List.flatMap_map];rfl
theorem diffP_nil:∀(a:List PairS),diffP a []=a.map delC
 | []=>by simp[diffP]
 | x :: xs=>by rw[diffP,diffP_nil xs];rfl
theorem turn_diff:∀(a b:List PairS),(diffP a b).map turnC=diffP b a:=by
 intro a b;induction hn:a.length+b.length using Nat.strongRecOn generalizing a b with
 | _ n ih =>
 subst hn;match a,b with
 | [],ys=>rw[diffP_nil,diffP,List.map_map];rfl
 | x :: xs,[]=>rw[diffP_nil,List.map_map];simp only[diffP];rfl
 | x :: xs,y :: ys =>
  rw[diffP,diffP];by_cases h1:ltS x.1 y.1=true
  ·rw[if_pos h1,if_neg (by rw[ltS_asymm h1];simp),if_pos h1,List.map_cons,ih _ (by simp) xs (y :: ys) rfl];rfl
  ·by_cases h2:ltS y.1 x.1=true
   ·rw[if_neg h1,if_pos h2,if_pos h2,List.map_cons,ih _ (by simp) (x :: xs) ys rfl];rfl
   ·have hxy:x.1=y.1:=by
     rcases ltS_tri x.1 y.1 with h|h|h
     ·exact absurd h h1
     ·exact h
     ·exact absurd h h2
    rw[if_neg h1,if_neg h2,if_neg h2,if_neg h1];by_cases e:x.2=y.2
    ·rw[if_pos e,if_pos e.symm,ih _ (by simp;omega) xs ys rfl]
    ·rw[if_neg e,if_neg (λh=>e h.symm),List.map_cons,ih _ (by simp;omega) xs ys rfl];simp[turnC,chgC,hxy]
theorem diff_self:∀(a:List PairS),diffP a a=[]
 | []=>by simp[diffP]
 | x :: xs=>by
  have h:=ltS_irrefl x.1;rw[diffP,if_neg (by rw[h];simp),if_neg (by rw[h];simp),if_pos rfl,diff_self xs]
theorem diff_len:∀(a b:List PairS),(diffP a b).length≤a.length+b.length:=by
 intro a b;induction hn:a.length+b.length using Nat.strongRecOn generalizing a b with
 | _ n ih =>
 subst hn;match a,b with
 | [],ys=>simp[diffP]
 | x :: xs,[]=>rw[diffP_nil];simp
 | x :: xs,y :: ys =>
  rw[diffP];have i1:=ih _ (by simp) xs (y :: ys) rfl;have i2:=ih _ (by simp) (x :: xs) ys rfl;have i3:=ih _ (by simp;omega) xs ys rfl;simp only[List.length_cons] at i1 i2 i3 ⊢;split
  ·rw[List.length_cons];omega
  ·split
   ·rw[List.length_cons];omega
   ·split
    ·omega
    ·rw[List.length_cons];omega
theorem diff_step(a b:List PairS):diffP a b =
  match a,b with
  | [],[]=>[]
  | [],y :: ys=>insC y :: diffP [] ys
  | x :: xs,[]=>delC x :: diffP xs []
  | x :: xs,y :: ys=>if ltS x.1 y.1=true then delC x :: diffP xs (y :: ys) else if ltS y.1 x.1=true then insC y :: diffP (x :: xs) ys else (if x.2=y.2 then [] else [chgC x y])++diffP xs ys:=by
 match a,b with
 | [],[]=>simp[diffP]
 | [],y :: ys=>simp[diffP]
 | x :: xs,[]=>rw[diffP]
 | x :: xs,y :: ys =>
  rw[diffP];simp only;split
  ·rfl
  ·split
   ·rfl
   ·split <;> rfl
end
end Go.Proofs.YtchklfmggpconaaGreatDoor
