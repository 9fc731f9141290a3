import Derived.Test.YteabpacpngaoaaaGreatDoorC02
namespace Go.Proofs.YteabpacpngaoaaaGreatDoor
section
structure zQa where
 disk:Nat
 low:Nat
 blk:Nat->List UInt8
abbrev zW:=Inhabited zQa
def vQ[zW]:Nat:=(default:zQa).low
def zGT[zW]:Nat:=(default:zQa).disk
def zCM[zW]:Nat->List UInt8:=(default:zQa).blk
abbrev zFD[zW](i:Nat)(b:List UInt8):zW:=⟨⟨zGT,vQ,λj=>if j=i then b else zCM j⟩⟩
structure zS where
 page:zX
 full:Bool
 dirty:Bool
 used:Bool
 pins:Nat
def qM:zS:=⟨⟨0,0,0,[]⟩,false,false,false,0⟩
structure qJ where
 disk:zI
 slots:List zS
 hand:Nat
def zS.has(s:zS)(id:Nat):Bool:=s.full && decide (s.page.id=(id:Int))
def zS.wet(s:zS):Bool:=s.full && s.dirty
def qJ.vw(C:qJ)(id:Nat):zX ⊕ (List Int × Nat) :=
 match C.slots.find? (·.has id) with
 | some s=>.inl s.page
 | none=>zQ (C.disk.look id) id
def qJ.cost(C:qJ):Nat:=C.disk.waiting.length+C.slots.countP (·.wet)
def zJj(p:zX)(size:Nat):Prop:=yY p size=none/\p.gen<18446744073709551616
structure yI[zW](C:qJ):Prop where
 n3:3<=C.slots.length
 n64:C.slots.length<=64
 hand:C.hand<C.slots.length
 s256:256<=C.disk.size
 s1024:C.disk.size<=1024
 b8:8<=C.disk.blocks
 b256:C.disk.blocks<=256
 lenL:C.disk.lasting.length=C.disk.blocks
 len:∀id:Nat,id<C.disk.blocks->(C.disk.look id).length=C.disk.size
 off:C.disk.off=false
 lit:C.disk.lit=false
 page:∀(i:Nat) (s:zS),C.slots[i]? = some s->s.full=true->(vQ:Int)<=s.page.id/\s.page.id<C.disk.blocks/\zJj s.page C.disk.size
 pins:∀(i:Nat) (s:zS),C.slots[i]? = some s->s.pins=0
 one:∀(i j:Nat) (s t:zS),C.slots[i]? = some s->C.slots[j]? = some t->s.full=true->t.full=true->s.page.id=t.page.id->i=j
 clean:∀(i:Nat) (s:zS),C.slots[i]? = some s->s.full=true->s.dirty=false->zQ (C.disk.look s.page.id.toNat) s.page.id=.inl s.page
theorem yO{s:zS}{id:Nat}:s.has id=true ↔ s.full=true/\s.page.id=(id:Int):=by simp[zS.has]
theorem yI.vw_at[zW]{C:qJ}(h:yI C){i:Nat}{s:zS}{id:Nat}(hi:C.slots[i]? = some s)(hs:s.has id=true):C.vw id=.inl s.page:=by
 unfold qJ.vw;cases hf:C.slots.find? (·.has id) with
 | none =>
  have:=List.find?_eq_none.1 hf s (List.mem_of_getElem? hi);exact absurd hs this
 | some t =>
  have ht:=List.find?_some hf;obtain⟨j,hj,e⟩:=List.getElem_of_mem (List.mem_of_find?_eq_some hf);have hj2:C.slots[j]? = some t:=by rw[<- e];exact List.getElem?_eq_getElem hj
  have h1:=yO.1 hs;have h2:=yO.1 ht;have:=h.one i j s t hi hj2 h1.1 h2.1 (by rw[h1.2,h2.2]);subst this;rw[hi] at hj2;injection hj2 with hj2;rw[hj2]
theorem zAK{C:qJ}{id:Nat}(h:∀(i:Nat) (s:zS),C.slots[i]? = some s->s.has id=false):C.vw id=zQ (C.disk.look id) id:=by
 unfold qJ.vw;have:C.slots.find? (·.has id)=none:=List.find?_eq_none.2 (λs hs=>by
  obtain⟨j,hj,e⟩:=List.getElem_of_mem hs;have:=h j s (by rw[<- e];exact List.getElem?_eq_getElem hj);rw[this];simp)
 rw[this]
structure Sim[zW](C C':qJ):Prop where
 inv:yI C'
 blocks:C'.disk.blocks=C.disk.blocks
 size:C'.disk.size=C.disk.size
 lasting:C'.disk.lasting=C.disk.lasting
 vw:∀id:Nat,C'.vw id=C.vw id
 dirt:∀id:Nat,(∀(i:Nat) (s:zS),C.slots[i]? = some s->s.has id=true->s.dirty=false) ->
  C'.disk.look id=C.disk.look id/\(∀(i:Nat) (s:zS),C'.slots[i]? = some s->s.has id=true->s.dirty=false)/\∀p∈C'.disk.waiting,p.1=id->p∈C.disk.waiting
 cost:C'.cost<=C.cost
theorem Sim.refl[zW]{C:qJ}(h:yI C):Sim C C:=⟨h,rfl,rfl,rfl,λ_=>rfl,λ_ h=>⟨rfl,h,λ_ h _=>h⟩,Nat.le_refl _⟩
theorem Sim.trans[zW]{C C1 C2:qJ}(h:Sim C C1)(k:Sim C1 C2):Sim C C2 :=
 ⟨k.inv,k.blocks.trans h.blocks,k.size.trans h.size,k.lasting.trans h.lasting,λid=>(k.vw id).trans (h.vw id),
  λid hd=>by
   obtain⟨h1,h2,h3⟩:=h.dirt id hd;obtain⟨k1,k2,k3⟩:=k.dirt id h2;exact⟨k1.trans h1,k2,λp hp e=>h3 p (k3 p hp e) e⟩,Nat.le_trans k.cost h.cost⟩
theorem zK{α:Type}{l:List α}{i j:Nat}{x y:α}(h:(l.set i x)[j]? = some y):(j=i/\y=x)\/(j≠i/\l[j]? = some y):=by
 by_cases e:j=i
 .subst e;rw[List.getElem?_set] at h;simp at h;exact .inl ⟨rfl,h.2.symm⟩
 .right
  rw[List.getElem?_set_ne (λe'=>e e'.symm)] at h;exact⟨e,h⟩
theorem zCN{α:Type}{l:List α}{i:Nat}{x y:α}(h:l[i]? = some y):(l.set i x)[i]? = some x:=by
 rw[List.getElem?_set_self (List.getElem?_eq_some_iff.1 h).1]
theorem set_other{α:Type}{l:List α}{i j:Nat}{x y:α}(e:j≠i)(h:l[j]? = some y):(l.set i x)[j]? = some y:=by
 rw[List.getElem?_set_ne (λe'=>e e'.symm)];exact h
theorem zAh{α:Type}(f:α->Bool):∀(l:List α) (i:Nat) (x y:α),l[i]? = some y->(l.set i x).countP f+(if f y then 1 else 0)=l.countP f+(if f x then 1 else 0)
 | [],i,x,y,h=>by simp at h
 | a :: l,0,x,y,h=>by
  simp at h;subst h;simp only[List.set_cons_zero,List.countP_cons];omega
 | a :: l,i+1,x,y,h=>by
  have:=zAh f l i x y (by simpa using h);simp only[List.set_cons_succ,List.countP_cons];omega
theorem zKZ[zW]{C:qJ}(h:yI C){i:Nat}{s:zS}(hi:C.slots[i]? = some s)(u:Bool):Sim C { C with slots:=C.slots.set i { s with used:=u } }:=by
 have hs:=(List.getElem?_eq_some_iff.1 hi).1;have inv:yI { C with slots:=C.slots.set i { s with used:=u } } :=
  ⟨by simpa using h.n3,by simpa using h.n64,by simpa using h.hand,h.s256,h.s1024,h.b8,h.b256,h.lenL,h.len,h.off,h.lit,
   λj t ht hf=>by rcases zK ht with ⟨_,rfl⟩|⟨_,ht⟩;exact h.page i s hi hf;exact h.page j t ht hf,
   λj t ht=>by rcases zK ht with ⟨_,rfl⟩|⟨_,ht⟩;exact h.pins i s hi;exact h.pins j t ht,
   λj k t t' ht ht' hf hf' he=>by
    rcases zK ht with ⟨ej,rfl⟩|⟨hj,ht⟩ <;> rcases zK ht' with ⟨ek,rfl⟩|⟨hk,ht'⟩
    .rw[ej,ek]
    .rw[ej];exact h.one i k s t' hi ht' hf hf' he
    .rw[ek];exact h.one j i t s ht hi hf hf' he
    .exact h.one j k t t' ht ht' hf hf' he,
   λj t ht hf hd=>by rcases zK ht with ⟨_,rfl⟩|⟨_,ht⟩;exact h.clean i s hi hf hd;exact h.clean j t ht hf hd⟩
 refine⟨inv,rfl,rfl,rfl,λid=>?_,λid hd=>⟨rfl,λj t ht hh=>?_,λp hp _=>hp⟩,?_⟩
 .by_cases hx:∃(j:Nat) (t:zS),C.slots[j]? = some t/\t.has id=true
  .obtain⟨j,t,hj,ht⟩:=hx;rw[h.vw_at hj ht];by_cases e:j=i
   .subst e;rw[hi] at hj;injection hj with hj;subst hj;exact inv.vw_at (i:=j) (s:={ s with used:=u }) (zCN hi) ht
   .exact inv.vw_at (i:=j) (s:=t) (set_other e hj) ht
  .have hn:∀(j:Nat) (t:zS),C.slots[j]? = some t->t.has id=false:=λj t hj=>by
    cases hb:t.has id with
    | false=>rfl
    | true=>exact absurd ⟨j,t,hj,hb⟩ hx
   rw[zAK hn];exact zAK (λj t hj=>by
    rcases zK hj with ⟨_,rfl⟩|⟨_,hj⟩
    .exact hn i s hi
    .exact hn j t hj)
 .rcases zK ht with ⟨_,rfl⟩|⟨_,ht⟩
  .exact hd i s hi hh
  .exact hd j t ht hh
 .unfold qJ.cost;have:=zAh (·.wet) C.slots i { s with used:=u } s hi;have e:({ s with used:=u }:zS).wet=s.wet:=rfl;rw[e] at this;show C.disk.waiting.length+(C.slots.set i { s with used:=u }).countP (·.wet)<=C.disk.waiting.length+C.slots.countP (·.wet);omega
theorem zPF[zW]{C:qJ}(h:yI C){k:Nat}(hk:k<C.slots.length):Sim C { C with hand:=k } :=
 ⟨⟨h.n3,h.n64,hk,h.s256,h.s1024,h.b8,h.b256,h.lenL,h.len,h.off,h.lit,h.page,h.pins,h.one,h.clean⟩,rfl,rfl,rfl,λ_=>rfl,λ_ hd=>⟨rfl,hd,λ_ hp _=>hp⟩,Nat.le_refl _⟩
theorem zIv[zW]{C:qJ}(h:yI C){i:Nat}{s:zS}(hi:C.slots[i]? = some s)(hw:s.wet=false):Sim C { C with slots:=C.slots.set i qM }:=by
 have inv:yI { C with slots:=C.slots.set i qM } :=
  ⟨by simpa using h.n3,by simpa using h.n64,by simpa using h.hand,h.s256,h.s1024,h.b8,h.b256,h.lenL,h.len,h.off,h.lit,
   λj t ht hf=>by rcases zK ht with ⟨_,rfl⟩|⟨_,ht⟩;exact absurd hf (by simp[qM]);exact h.page j t ht hf,
   λj t ht=>by rcases zK ht with ⟨_,rfl⟩|⟨_,ht⟩;rfl;exact h.pins j t ht,
   λj k t t' ht ht' hf hf' he=>by
    rcases zK ht with ⟨rfl,rfl⟩|⟨hj,ht⟩
    .exact absurd hf (by simp[qM])
    .rcases zK ht' with ⟨rfl,rfl⟩|⟨hk,ht'⟩
     .exact absurd hf' (by simp[qM])
     .exact h.one j k t t' ht ht' hf hf' he,
   λj t ht hf hd=>by rcases zK ht with ⟨_,rfl⟩|⟨_,ht⟩;exact absurd hf (by simp[qM]);exact h.clean j t ht hf hd⟩
 refine⟨inv,rfl,rfl,rfl,λid=>?_,λid hd=>⟨rfl,λj t ht hh=>?_,λp hp _=>hp⟩,?_⟩
 .by_cases hx:∃(j:Nat) (t:zS),C.slots[j]? = some t/\t.has id=true
  .obtain⟨j,t,hj,ht⟩:=hx;rw[h.vw_at hj ht];by_cases e:j=i
   .subst e;rw[hi] at hj;injection hj with hj;subst hj;obtain⟨hf,hid⟩:=yO.1 ht;have hd:s.dirty=false:=by simpa[zS.wet,hf] using hw
    have hc:=h.clean j s hi hf hd;rw[hid,Int.toNat_natCast] at hc;rw[<- hc];exact zAK (λk t hk=>by
     rcases zK hk with ⟨_,rfl⟩|⟨hne,hk⟩
     .rfl
     .cases hb:t.has id with
      | false=>rfl
      | true =>
       have h2:=yO.1 hb;exact absurd (h.one k j t s hk hi h2.1 hf (by rw[h2.2,hid])) hne)
   .exact inv.vw_at (i:=j) (s:=t) (set_other e hj) ht
  .have hn:∀(j:Nat) (t:zS),C.slots[j]? = some t->t.has id=false:=λj t hj=>by
    cases hb:t.has id with
    | false=>rfl
    | true=>exact absurd ⟨j,t,hj,hb⟩ hx
   rw[zAK hn];exact zAK (λj t hj=>by
    rcases zK hj with ⟨_,rfl⟩|⟨_,hj⟩
    .rfl
    .exact hn j t hj)
 .rcases zK ht with ⟨_,rfl⟩|⟨_,ht⟩
  .rfl
  .exact hd j t ht hh
 .unfold qJ.cost;have:=zAh (·.wet) C.slots i qM s hi;have e:qM.wet=false:=rfl;rw[e] at this;show C.disk.waiting.length+(C.slots.set i qM).countP (·.wet)<=C.disk.waiting.length+C.slots.countP (·.wet);simp at this;split at this <;> omega
theorem zPG[zW]{C:qJ}(h:yI C){i:Nat}{s:zS}(hi:C.slots[i]? = some s)(hs:s.full=false)(id:Nat)(hid:id<C.disk.blocks)(hlo:vQ<=id)(hno:∀(j:Nat) (t:zS),C.slots[j]? = some t->t.has id=false)(p:zX)
  (hp:zQ (C.disk.look id) id=.inl p) (hpi:p.id=(id:Int)) (hok:zJj p C.disk.size):Sim C { C with slots:=C.slots.set i ⟨p,true,false,true,0⟩ }:=by
 have inv:yI { C with slots:=C.slots.set i ⟨p,true,false,true,0⟩ } :=
  ⟨by simpa using h.n3,by simpa using h.n64,by simpa using h.hand,h.s256,h.s1024,h.b8,h.b256,h.lenL,h.len,h.off,h.lit,
   λj t ht hf=>by rcases zK ht with ⟨_,rfl⟩|⟨_,ht⟩;exact⟨by simp only[hpi];omega,by simp only[hpi];exact Int.ofNat_lt.2 hid,hok⟩;exact h.page j t ht hf,
   λj t ht=>by rcases zK ht with ⟨_,rfl⟩|⟨_,ht⟩;rfl;exact h.pins j t ht,
   λj k t t' ht ht' hf hf' he=>by
    rcases zK ht with ⟨ej,rfl⟩|⟨hj,ht⟩ <;> rcases zK ht' with ⟨ek,rfl⟩|⟨hk,ht'⟩
    .rw[ej,ek]
    .have:=hno k t' ht';rw[show t'.has id=true from yO.2 ⟨hf',by rw[<- he];exact hpi⟩] at this;cases this
    .have:=hno j t ht;rw[show t.has id=true from yO.2 ⟨hf,by rw[he];exact hpi⟩] at this;cases this
    .exact h.one j k t t' ht ht' hf hf' he,
   λj t ht hf hd=>by rcases zK ht with ⟨_,rfl⟩|⟨_,ht⟩;(simp only[hpi,Int.toNat_natCast];exact hp);exact h.clean j t ht hf hd⟩
 refine⟨inv,rfl,rfl,rfl,λid'=>?_,λid' hd=>⟨rfl,λj t ht hh=>?_,λp hp _=>hp⟩,?_⟩
 .by_cases hx:∃(j:Nat) (t:zS),C.slots[j]? = some t/\t.has id'=true
  .obtain⟨j,t,hj,ht⟩:=hx;rw[h.vw_at hj ht];by_cases e:j=i
   .subst e;rw[hi] at hj;injection hj with hj;subst hj;rw[zS.has,hs] at ht;simp at ht
   .exact inv.vw_at (i:=j) (s:=t) (set_other e hj) ht
  .have hn:∀(j:Nat) (t:zS),C.slots[j]? = some t->t.has id'=false:=λj t hj=>by
    cases hb:t.has id' with
    | false=>rfl
    | true=>exact absurd ⟨j,t,hj,hb⟩ hx
   rw[zAK hn];by_cases e:id'=id
   .subst e;rw[hp];exact inv.vw_at (i:=i) (s:=⟨p,true,false,true,0⟩) (zCN hi) (yO.2 ⟨rfl,hpi⟩)
   .exact zAK (λj t hj=>by
     rcases zK hj with ⟨_,rfl⟩|⟨_,hj⟩
     .cases hb:zS.has ⟨p,true,false,true,0⟩ id' with
      | false=>rfl
      | true =>
       have:=(yO.1 hb).2;simp only[hpi] at this;omega
     .exact hn j t hj)
 .rcases zK ht with ⟨_,rfl⟩|⟨_,ht⟩
  .rfl
  .exact hd j t ht hh
 .unfold qJ.cost;have:=zAh (·.wet) C.slots i ⟨p,true,false,true,0⟩ s hi;have e:zS.wet ⟨p,true,false,true,0⟩=false:=rfl;rw[e] at this;show C.disk.waiting.length+(C.slots.set i ⟨p,true,false,true,0⟩).countP (·.wet)<=C.disk.waiting.length+C.slots.countP (·.wet);simp at this;split at this <;> omega
def zI.wrote(D:zI)(i:Nat)(b:List UInt8):zI:={ D with waiting:=D.waiting++[(i,b)],after:=RowKit.wrap64 (D.after-1),count:=RowKit.wrap64 (D.count+1) }
theorem jN(D:zI)(i:Nat)(b:List UInt8)(j:Nat):(D.wrote i b).look j=if i=j then b else D.look j:=by
 unfold zI.look zI.wrote;simp only[zFV,zBR];by_cases e:i=j
 .simp[e]
 .simp[e]
def zA8(C:qJ)(i:Nat)(s:zS):qJ:={ C with disk:=C.disk.wrote s.page.id.toNat (vH s.page C.disk.size),slots:=C.slots.set i { s with dirty:=false } }
theorem zNr[zW]{C:qJ}(h:yI C){i:Nat}{s:zS}(hi:C.slots[i]? = some s)(hf:s.full=true)(hd:s.dirty=true):Sim C (zA8 C i s):=by
 obtain⟨hp0,hp1,hok⟩:=h.page i s hi hf;obtain⟨id,hid⟩:∃id:Nat,s.page.id=(id:Int):=⟨s.page.id.toNat,by omega⟩;have hopen:=zCL hok.1 hok.2;have hself:s.has id=true:=yO.2 ⟨hf,hid⟩;have uniq:∀(j:Nat) (t:zS),C.slots[j]? = some t->t.has id=true->j=i:=λj t hj ht=>by
  have h2:=yO.1 ht;exact h.one j i t s hj hi h2.1 hf (by rw[h2.2,hid])
 have look2:∀j,(zA8 C i s).disk.look j=if id=j then vH s.page C.disk.size else C.disk.look j:=λj=>by
  unfold zA8;simp only[hid,Int.toNat_natCast];exact jN _ _ _ _
 have inv:yI (zA8 C i s) :=
  ⟨by simpa[zA8] using h.n3,by simpa[zA8] using h.n64,by simpa[zA8] using h.hand,h.s256,h.s1024,h.b8,h.b256,h.lenL,λj hj=>by rw[look2];split;(exact jW _ _ (by have:=yZ hok.1;omega));exact h.len j hj,h.off,h.lit,
   λj t ht hf=>by rcases zK ht with ⟨_,rfl⟩|⟨_,ht⟩;exact h.page i s hi hf;exact h.page j t ht hf,
   λj t ht=>by rcases zK ht with ⟨_,rfl⟩|⟨_,ht⟩;exact h.pins i s hi;exact h.pins j t ht,
   λj k t t' ht ht' hf hf' he=>by
    rcases zK ht with ⟨ej,rfl⟩|⟨hj,ht⟩ <;> rcases zK ht' with ⟨ek,rfl⟩|⟨hk,ht'⟩
    .rw[ej,ek]
    .rw[ej];exact h.one i k s t' hi ht' hf hf' he
    .rw[ek];exact h.one j i t s ht hi hf hf' he
    .exact h.one j k t t' ht ht' hf hf' he,
   λj t ht hft hdt=>by
    rw[look2];rcases zK ht with ⟨_,rfl⟩|⟨hne,ht⟩
    .rw[if_pos (by simp only[hid];omega)];exact hopen
    .obtain⟨q0,_,_⟩:=h.page j t ht hft;rw[if_neg (λe=>hne (uniq j t ht (yO.2 ⟨hft,by omega⟩)))];exact h.clean j t ht hft hdt⟩
 refine⟨inv,rfl,rfl,rfl,λid'=>?_,λid' hdd=>?_,?_⟩
 .by_cases hx:∃(j:Nat) (t:zS),C.slots[j]? = some t/\t.has id'=true
  .obtain⟨j,t,hj,ht⟩:=hx;rw[h.vw_at hj ht];by_cases e:j=i
   .subst e;rw[hi] at hj;injection hj with hj;subst hj;exact inv.vw_at (i:=j) (s:={ s with dirty:=false }) (zCN hi) ht
   .exact inv.vw_at (i:=j) (s:=t) (set_other e hj) ht
  .have hn:∀(j:Nat) (t:zS),C.slots[j]? = some t->t.has id'=false:=λj t hj=>by
    cases hb:t.has id' with
    | false=>rfl
    | true=>exact absurd ⟨j,t,hj,hb⟩ hx
   have hne:id≠id':=λe=>by have:=hn i s hi;rw[<- e,hself] at this;cases this
   rw[zAK hn,zAK (λj t hj=>by
    rcases zK hj with ⟨_,rfl⟩|⟨_,hj⟩
    .exact hn i s hi
    .exact hn j t hj),look2,if_neg hne]
 .have hne:id≠id':=λe=>by have:=hdd i s hi (e ▸ hself);rw[hd] at this;cases this
  refine⟨by rw[look2,if_neg hne],λj t ht hh=>?_,λp hp e=>?_⟩
  .rcases zK ht with ⟨_,rfl⟩|⟨_,ht⟩
   .rfl
   .exact hdd j t ht hh
  .have:p∈C.disk.waiting++[(s.page.id.toNat,vH s.page C.disk.size)]:=hp;rw[List.mem_append] at this;rcases this with hp|hp
   .exact hp
   .simp at hp;subst hp;simp only[hid,Int.toNat_natCast] at e;exact absurd e hne
 .unfold qJ.cost;have:=zAh (·.wet) C.slots i { s with dirty:=false } s hi;have e:zS.wet { s with dirty:=false }=false:=by simp[zS.wet]
  have e2:s.wet=true:=by simp[zS.wet,hf,hd]
  rw[e,e2] at this;have e3:(zA8 C i s).disk.waiting.length=C.disk.waiting.length+1:=by simp[zA8,zI.wrote]
  rw[e3];show _+(C.slots.set i { s with dirty:=false }).countP _<=_;simp at this;omega
structure GA where
 blocks:Nat
 size:Nat
 view:Nat->Option (zX ⊕ (List Int × Nat))
 look:Nat->Option (List UInt8)
 last:Nat->Option (List UInt8)
 cost:Nat
structure qW[zW](C:qJ)(G:GA):Prop where
 blocks:C.disk.blocks=G.blocks
 size:C.disk.size=G.size
 view:∀id r,G.view id=some r->C.vw id=r
 look:∀id b,(G.look id=some b\/(id<vQ/\b=zCM id))->C.disk.look id=b/\∀(i:Nat) (s:zS),C.slots[i]? = some s->s.has id=true->s.dirty=false
 last:∀id b,G.last id=some b->C.disk.lasting.getD id []=b/\(∀p∈C.disk.waiting,p.1≠id)/\∀(i:Nat) (s:zS),C.slots[i]? = some s->s.has id=true->s.dirty=false
 cost:C.cost<=G.cost
 low:∀id,id<vQ->G.view id=none/\G.look id=none/\G.last id=none
theorem Sim.rel[zW]{C C':qJ}(h:Sim C C'){G:GA}(k:qW C G):qW C' G :=
 ⟨h.blocks.trans k.blocks,h.size.trans k.size,λid r hr=>(h.vw id).trans (k.view id r hr),
  λid b hb=>by
   obtain⟨k1,k2⟩:=k.look id b hb;obtain⟨h1,h2,_⟩:=h.dirt id k2;exact⟨h1.trans k1,h2⟩,
  λid b hb=>by
   obtain⟨k1,k2,k3⟩:=k.last id b hb;obtain⟨_,h2,h3⟩:=h.dirt id k3;exact⟨by rw[h.lasting];exact k1,λp hp e=>k2 p (h3 p hp e) e,h2⟩,
  Nat.le_trans h.cost k.cost,k.low⟩
def upd{α:Type}(f:Nat->α)(i:Nat)(x:α):Nat->α:=λj=>if j=i then x else f j
theorem zDc{α:Type}(f:Nat->α)(i:Nat)(x:α):upd f i x i=x:=by simp[upd]
theorem zDS{α:Type}(f:Nat->α){i j:Nat}(x:α)(h:j≠i):upd f i x j=f j:=by simp[upd,h]
def zHM(o:Option (List UInt8))(id:Nat):Option (zX ⊕ (List Int × Nat)):=o.map λb=>zQ b id
def GA.put(G:GA)(p:zX):GA:={ G with view:=upd G.view p.id.toNat (some (.inl p)),look:=upd G.look p.id.toNat none,last:=upd G.last p.id.toNat none,cost:=G.cost+1 }
def GA.drop(G:GA)(id:Nat):GA:={ G with view:=upd G.view id (zHM (G.look id) id) }
def GA.flushC(G:GA):GA:={ G with look:=λid=>match G.view id with|some (.inl p)=>some (vH p G.size)|_=>G.look id }
def GA.flushD(G:GA):GA:={ G with last:=G.look }
def zJk(C:qJ)(i:Nat)(p:zX):qJ:={ C with slots:=C.slots.set i ⟨p,true,true,true,0⟩ }
theorem zNI[zW]{C:qJ}(h:yI C){i:Nat}{s:zS}(hi:C.slots[i]? = some s)(p:zX)(id:Nat)(hpi:p.id=(id:Int))(hid:id<C.disk.blocks)(hlo:vQ<=id)(hok:zJj p C.disk.size)
  (hx:s.has id=true\/(s.full=false/\∀(j:Nat) (t:zS),C.slots[j]? = some t->t.has id=false)):yI (zJk C i p):=by
 have hoth:∀(j:Nat) (t:zS),C.slots[j]? = some t->j≠i->t.has id=false:=λj t hj hne=>by
  rcases hx with hx|⟨_,hx⟩
  .cases hb:t.has id with
   | false=>rfl
   | true =>
    have h1:=yO.1 hx;have h2:=yO.1 hb;exact absurd (h.one j i t s hj hi h2.1 h1.1 (by rw[h1.2,h2.2])) hne
  .exact hx j t hj
 exact⟨by simpa[zJk] using h.n3,by simpa[zJk] using h.n64,by simpa[zJk] using h.hand,h.s256,h.s1024,h.b8,h.b256,h.lenL,h.len,h.off,h.lit,
   λj t ht hf=>by rcases zK ht with ⟨_,rfl⟩|⟨_,ht⟩;exact⟨by simp only[hpi];omega,by simp only[hpi];exact Int.ofNat_lt.2 hid,hok⟩;exact h.page j t ht hf,
   λj t ht=>by rcases zK ht with ⟨_,rfl⟩|⟨_,ht⟩;rfl;exact h.pins j t ht,
   λj k t t' ht ht' hf hf' he=>by
    rcases zK ht with ⟨ej,rfl⟩|⟨hj,ht⟩ <;> rcases zK ht' with ⟨ek,rfl⟩|⟨hk,ht'⟩
    .rw[ej,ek]
    .have:=hoth k t' ht' hk;rw[show t'.has id=true from yO.2 ⟨hf',by rw[<- he];exact hpi⟩] at this;cases this
    .have:=hoth j t ht hj;rw[show t.has id=true from yO.2 ⟨hf,by rw[he];exact hpi⟩] at this;cases this
    .exact h.one j k t t' ht ht' hf hf' he,
   λj t ht hf hd=>by rcases zK ht with ⟨_,rfl⟩|⟨_,ht⟩;cases hd;exact h.clean j t ht hf hd⟩
theorem zQb[zW]{C:qJ}{G:GA}(h:yI C)(k:qW C G){i:Nat}{s:zS}(hi:C.slots[i]? = some s)(p:zX)(id:Nat)(hpi:p.id=(id:Int))(hid:id<C.disk.blocks)(hlo:vQ<=id)(hok:zJj p C.disk.size)
  (hx:s.has id=true\/(s.full=false/\∀(j:Nat) (t:zS),C.slots[j]? = some t->t.has id=false)):yI (zJk C i p)/\qW (zJk C i p) (G.put p):=by
 have hoth:∀(j:Nat) (t:zS),C.slots[j]? = some t->j≠i->t.has id=false:=λj t hj hne=>by
  rcases hx with hx|⟨_,hx⟩
  .cases hb:t.has id with
   | false=>rfl
   | true =>
    have h1:=yO.1 hx;have h2:=yO.1 hb;exact absurd (h.one j i t s hj hi h2.1 h1.1 (by rw[h1.2,h2.2])) hne
  .exact hx j t hj
 have hself:zS.has ⟨p,true,true,true,0⟩ id=true:=yO.2 ⟨rfl,hpi⟩;have inv:yI (zJk C i p):=zNI h hi p id hpi hid hlo hok hx;have hidn:p.id.toNat=id:=by omega
 have clean:∀id',id'≠id->(∀(j:Nat) (t:zS),C.slots[j]? = some t->t.has id'=true->t.dirty=false)->∀(j:Nat) (t:zS),(zJk C i p).slots[j]? = some t->t.has id'=true->t.dirty=false:=λid' hne hc j t ht hh=>by
  rcases zK ht with ⟨_,rfl⟩|⟨_,ht⟩
  .have:=(yO.1 hh).2;simp only[hpi] at this;omega
  .exact hc j t ht hh
 refine⟨inv,k.blocks,k.size,λid' r hr=>?_,λid' b hb=>?_,λid' b hb=>?_,?_,λid' h'=>by
  obtain⟨a1,a2,a3⟩:=k.low id' h';have e:id'≠p.id.toNat:=by omega
  exact⟨(zDS _ _ e).trans a1,(zDS _ _ e).trans a2,(zDS _ _ e).trans a3⟩⟩
 .unfold GA.put at hr;simp only[hidn] at hr;by_cases e:id'=id
  .subst e;rw[zDc] at hr;injection hr with hr;rw[<- hr];exact inv.vw_at (i:=i) (s:=⟨p,true,true,true,0⟩) (zCN hi) hself
  .rw[zDS _ _ e] at hr;rw[<- k.view id' r hr];by_cases hx2:∃(j:Nat) (t:zS),C.slots[j]? = some t/\t.has id'=true
   .obtain⟨j,t,hj,ht⟩:=hx2;rw[h.vw_at hj ht];have hne:j≠i:=by
     rintro rfl;rw[hi] at hj;injection hj with hj;subst hj;rcases hx with hx|⟨hx,_⟩
     .have h1:=(yO.1 hx).2;have h2:=(yO.1 ht).2;omega
     .rw[zS.has,hx] at ht;simp at ht
    exact inv.vw_at (i:=j) (s:=t) (set_other hne hj) ht
   .have hn:∀(j:Nat) (t:zS),C.slots[j]? = some t->t.has id'=false:=λj t hj=>by
     cases hb:t.has id' with
     | false=>rfl
     | true=>exact absurd ⟨j,t,hj,hb⟩ hx2
    rw[zAK hn];exact zAK (λj t hj=>by
     rcases zK hj with ⟨_,rfl⟩|⟨_,hj⟩
     .cases hb:zS.has ⟨p,true,true,true,0⟩ id' with
      | false=>rfl
      | true =>
       have:=(yO.1 hb).2;simp only[hpi] at this;omega
     .exact hn j t hj)
 .have hb2:id'≠id/\(G.look id'=some b\/(id'<vQ/\b=zCM id')):=by
   rcases hb with hb|hb
   .unfold GA.put at hb;simp only[hidn] at hb;by_cases e:id'=id
    .subst e;rw[zDc] at hb;cases hb
    .rw[zDS _ _ e] at hb;exact⟨e,.inl hb⟩
   .exact⟨by omega,.inr hb⟩
  obtain⟨k1,k2⟩:=k.look id' b hb2.2;exact⟨k1,clean id' hb2.1 k2⟩
 .unfold GA.put at hb;simp only[hidn] at hb;by_cases e:id'=id
  .subst e;rw[zDc] at hb;cases hb
  .rw[zDS _ _ e] at hb;obtain⟨k1,k2,k3⟩:=k.last id' b hb;exact⟨k1,k2,clean id' e k3⟩
 .have hc:=k.cost;unfold qJ.cost at hc ⊢;have:=zAh (·.wet) C.slots i ⟨p,true,true,true,0⟩ s hi;have e:zS.wet ⟨p,true,true,true,0⟩=true:=rfl;rw[e] at this;show C.disk.waiting.length+(C.slots.set i ⟨p,true,true,true,0⟩).countP (·.wet)<=G.cost+1;simp at this;split at this <;> omega
theorem qW.drop_low[zW]{C:qJ}{G:GA}(k:qW C G)(id:Nat):∀id',id'<vQ->(G.drop id).view id'=none/\G.look id'=none/\G.last id'=none:=λid' h'=>by
 obtain⟨a1,a2,a3⟩:=k.low id' h';refine⟨?_,a2,a3⟩;unfold GA.drop;simp only;by_cases e:id'=id
 .rw[e,zDc,<- e,a2];rfl
 .rw[zDS _ _ e];exact a1
theorem zPH[zW]{C:qJ}{G:GA}(h:yI C)(k:qW C G){i:Nat}{s:zS}{id:Nat}(hi:C.slots[i]? = some s)(hs:s.has id=true):yI { C with slots:=C.slots.set i qM }/\qW { C with slots:=C.slots.set i qM } (G.drop id):=by
 obtain⟨hf,hid⟩:=yO.1 hs;have inv:yI { C with slots:=C.slots.set i qM } :=
  ⟨by simpa using h.n3,by simpa using h.n64,by simpa using h.hand,h.s256,h.s1024,h.b8,h.b256,h.lenL,h.len,h.off,h.lit,
   λj t ht hf=>by rcases zK ht with ⟨_,rfl⟩|⟨_,ht⟩;exact absurd hf (by simp[qM]);exact h.page j t ht hf,
   λj t ht=>by rcases zK ht with ⟨_,rfl⟩|⟨_,ht⟩;rfl;exact h.pins j t ht,
   λj k t t' ht ht' hf hf' he=>by
    rcases zK ht with ⟨rfl,rfl⟩|⟨hj,ht⟩
    .exact absurd hf (by simp[qM])
    .rcases zK ht' with ⟨rfl,rfl⟩|⟨hk,ht'⟩
     .exact absurd hf' (by simp[qM])
     .exact h.one j k t t' ht ht' hf hf' he,
   λj t ht hf hd=>by rcases zK ht with ⟨_,rfl⟩|⟨_,ht⟩;exact absurd hf (by simp[qM]);exact h.clean j t ht hf hd⟩
 have clean:∀id',(∀(j:Nat) (t:zS),C.slots[j]? = some t->t.has id'=true->t.dirty=false)->∀(j:Nat) (t:zS),(C.slots.set i qM)[j]? = some t->t.has id'=true->t.dirty=false:=λid' hc j t ht hh=>by
  rcases zK ht with ⟨_,rfl⟩|⟨_,ht⟩
  .rfl
  .exact hc j t ht hh
 refine⟨inv,k.blocks,k.size,λid' r hr=>?_,λid' b hb=>?_,λid' b hb=>?_,?_,k.drop_low id⟩
 .unfold GA.drop at hr;simp only at hr;by_cases e:id'=id
  .subst e;rw[zDc] at hr;unfold zHM at hr;obtain⟨b,hb,hr⟩:=Option.map_eq_some_iff.1 hr;rw[<- hr,<- (k.look id' b (.inl hb)).1];exact zAK (λj t hk=>by
     rcases zK hk with ⟨_,rfl⟩|⟨hne,hk⟩
     .rfl
     .cases hb:t.has id' with
      | false=>rfl
      | true =>
       have h2:=yO.1 hb;exact absurd (h.one j i t s hk hi h2.1 hf (by rw[h2.2,hid])) hne)
  .rw[zDS _ _ e] at hr;rw[<- k.view id' r hr];by_cases hx2:∃(j:Nat) (t:zS),C.slots[j]? = some t/\t.has id'=true
   .obtain⟨j,t,hj,ht⟩:=hx2;rw[h.vw_at hj ht];have hne:j≠i:=by
     rintro rfl;rw[hi] at hj;injection hj with hj;subst hj;have h2:=(yO.1 ht).2;omega
    exact inv.vw_at (i:=j) (s:=t) (set_other hne hj) ht
   .have hn:∀(j:Nat) (t:zS),C.slots[j]? = some t->t.has id'=false:=λj t hj=>by
     cases hb:t.has id' with
     | false=>rfl
     | true=>exact absurd ⟨j,t,hj,hb⟩ hx2
    rw[zAK hn];exact zAK (λj t hj=>by
     rcases zK hj with ⟨_,rfl⟩|⟨_,hj⟩
     .rfl
     .exact hn j t hj)
 .obtain⟨k1,k2⟩:=k.look id' b hb;exact⟨k1,clean id' k2⟩
 .obtain⟨k1,k2,k3⟩:=k.last id' b hb;exact⟨k1,k2,clean id' k3⟩
 .have hc:=k.cost;unfold qJ.cost at hc ⊢;have:=zAh (·.wet) C.slots i qM s hi;have e:qM.wet=false:=rfl;rw[e] at this;show C.disk.waiting.length+(C.slots.set i qM).countP (·.wet)<=G.cost;simp at this;split at this <;> omega
theorem zNs[zW]{C:qJ}(h:yI C){i:Nat}{s:zS}(_:C.slots[i]? = some s):yI { C with slots:=C.slots.set i qM } :=
 ⟨by simpa using h.n3,by simpa using h.n64,by simpa using h.hand,h.s256,h.s1024,h.b8,h.b256,h.lenL,h.len,h.off,h.lit,
   λj t ht hf=>by rcases zK ht with ⟨_,rfl⟩|⟨_,ht⟩;exact absurd hf (by simp[qM]);exact h.page j t ht hf,
   λj t ht=>by rcases zK ht with ⟨_,rfl⟩|⟨_,ht⟩;rfl;exact h.pins j t ht,
   λj k t t' ht ht' hf hf' he=>by
    rcases zK ht with ⟨rfl,rfl⟩|⟨hj,ht⟩
    .exact absurd hf (by simp[qM])
    .rcases zK ht' with ⟨rfl,rfl⟩|⟨hk,ht'⟩
     .exact absurd hf' (by simp[qM])
     .exact h.one j k t t' ht ht' hf hf' he,
   λj t ht hf hd=>by rcases zK ht with ⟨_,rfl⟩|⟨_,ht⟩;exact absurd hf (by simp[qM]);exact h.clean j t ht hf hd⟩
theorem zKa[zW]{C:qJ}{G:GA}(k:qW C G){id:Nat}(hn:∀(j:Nat) (t:zS),C.slots[j]? = some t->t.has id=false):qW C (G.drop id):=by
 refine⟨k.blocks,k.size,λid' r hr=>?_,k.look,k.last,k.cost,k.drop_low id⟩;unfold GA.drop at hr;simp only at hr;by_cases e:id'=id
 .subst e;rw[zDc] at hr;unfold zHM at hr;obtain⟨b,hb,hr⟩:=Option.map_eq_some_iff.1 hr;rw[<- hr,<- (k.look id' b (.inl hb)).1];exact zAK hn
 .rw[zDS _ _ e] at hr;exact k.view id' r hr
theorem zDm{n j:Nat}{t:zS}(h:(List.replicate n qM)[j]? = some t):t=qM:=by
 rw[List.getElem?_replicate] at h;split at h
 .injection h with h;exact h.symm
 .cases h
theorem zNt[zW](D:zI)(n:Nat)(h3:3<=n)(h64:n<=64)(s256:256<=D.size)(s1024:D.size<=1024)(b8:8<=D.blocks)(b256:D.blocks<=256)(lenL:D.lasting.length=D.blocks)
  (len:∀id:Nat,id<D.blocks->(D.look id).length=D.size) (off:D.off=false) (lit:D.lit=false):yI ⟨D,List.replicate n qM,0⟩ :=
 ⟨by simpa using h3,by simpa using h64,by simp;omega,s256,s1024,b8,b256,lenL,len,off,lit,
  λj t ht hf=>by (rw[zDm ht] at hf;cases hf),λj t ht=>by (rw[zDm ht];rfl),
  λj k t t' ht _ hf _ _=>by (rw[zDm ht] at hf;cases hf),λj t ht hf _=>by (rw[zDm ht] at hf;cases hf)⟩
theorem zNu(n:Nat):(List.replicate n qM).countP (·.wet)=0:=by
 rw[List.countP_replicate];rfl
theorem zNv[zW](D:zI)(n:Nat)(G:GA)(hb:D.blocks=G.blocks)(hs:D.size=G.size)(hv:∀id r,G.view id=some r->zQ (D.look id) id=r)(hl:∀id b,(G.look id=some b\/(id<vQ/\b=zCM id))->D.look id=b)
  (ht:∀id b,G.last id=some b->D.lasting.getD id []=b/\∀p∈D.waiting,p.1≠id) (hc:D.waiting.length<=G.cost) (hlo:∀id,id<vQ->G.view id=none/\G.look id=none/\G.last id=none):qW ⟨D,List.replicate n qM,0⟩ G :=
 ⟨hb,hs,λid r hr=>by rw[zAK (λj t hj=>by rw[zDm hj];rfl)];exact hv id r hr,
  λid b h=>⟨hl id b h,λj t hj hh=>by rw[zDm hj];rfl⟩,λid b h=>⟨(ht id b h).1,(ht id b h).2,λj t hj hh=>by rw[zDm hj];rfl⟩,
  by unfold qJ.cost;simp only[zNu];omega,hlo⟩
theorem zFE{b:List UInt8}{id:Int}{p:zX}(h:zQ b id=.inl p):zJj p b.length/\p.id=id/\vH p b.length=b:=by
 unfold zQ at h;split at h
 .cases h
 .rename_i ho;split at h
  .cases h
  .rename_i hid;injection h with h;subst h;simp only[Bool.not_eq_false] at ho;unfold zBO at ho;simp only[Bool.and_eq_true,decide_eq_true_eq] at ho;exact⟨⟨ho.1,zEk b⟩,by simpa using hid,ho.2⟩
theorem zL5(id:Int)(p:zX):zQ [] id ≠ .inl p:=by
 intro h;have:=(yZ (zFE h).1.1).1;simp at this
theorem zHN{D:zI}{id:Nat}(hl:D.lasting.length=D.blocks)(hw:∀p∈D.waiting,p.1<D.blocks)(hid:D.blocks<=id):D.look id=[]:=by
 unfold zI.look;rw[zDl id _ (λp hp e=>by have:=hw p hp;omega)];simp[List.getD,List.getElem?_eq_none (by omega:D.lasting.length<=id)]
theorem zL6[zW]{C:qJ}{G:GA}(h:yI C)(hw:∀p∈C.disk.waiting,p.1<C.disk.blocks)(k:qW C G)(hc:∀(j:Nat) (t:zS),C.slots[j]? = some t->t.wet=false):qW C G.flushC:=by
 have hcl:∀id,∀(j:Nat) (t:zS),C.slots[j]? = some t->t.has id=true->t.dirty=false:=λid j t hj hh=>by
  have:=hc j t hj;simpa[zS.wet,(yO.1 hh).1] using this
 refine⟨k.blocks,k.size,k.view,λid b hb=>⟨?_,hcl id⟩,k.last,k.cost,λid h'=>by obtain⟨a1,a2,a3⟩:=k.low id h';exact⟨a1,by unfold GA.flushC;simp only;rw[a1];exact a2,a3⟩⟩;rcases hb with hb|hb
 case inr=>exact (k.look id b (.inr hb)).1
 unfold GA.flushC at hb;simp only at hb;split at hb
 .rename_i p hp;injection hb with hb;have hv:=k.view id _ hp;have hop:zQ (C.disk.look id) id=.inl p:=by
   by_cases hx2:∃(j:Nat) (t:zS),C.slots[j]? = some t/\t.has id=true
   .obtain⟨j,t,hj,ht⟩:=hx2;rw[h.vw_at hj ht] at hv;injection hv with hv;have:=h.clean j t hj (yO.1 ht).1 (hcl id j t hj ht);rw[(yO.1 ht).2,hv] at this;simpa using this
   .rw[<- hv];exact (zAK (λj t hj=>by
     cases hb:t.has id with
     | false=>rfl
     | true=>exact absurd ⟨j,t,hj,hb⟩ hx2)).symm
  by_cases hid:id<C.disk.blocks
  .have:=(zFE hop).2.2;rw[h.len id hid,k.size] at this;rw[<- hb,this]
  .rw[zHN h.lenL hw (by omega)] at hop;exact absurd hop (zL5 _ _)
 .exact (k.look id b (.inl hb)).1
theorem zAv:∀(w:List (Nat × List UInt8)) (l:List (List UInt8)),(settle l w).length=l.length
 | [],_=>rfl
 | (i,b) :: w,l=>by rw[settle,zAv w,List.length_set]
theorem zHO:∀(w:List (Nat × List UInt8)) (l:List (List UInt8)) (i:Nat),i<l.length->(settle l w).getD i []=(zBR i w).getD (l.getD i [])
 | [],l,i,_=>rfl
 | (j,b) :: w,l,i,hi=>by
  rw[settle,zHO w (l.set j b) i (by rw[List.length_set];exact hi),zBR];cases zBR i w with
  | some c=>rfl
  | none =>
   by_cases e:j=i
   .subst e;simp[List.getD,hi]
   .simp[List.getD,List.getElem?_set_ne e,e]
def zI.flushed(D:zI):zI:={ D with lasting:=settle D.lasting D.waiting,waiting:=[],after:=RowKit.wrap64 (D.after-1),count:=RowKit.wrap64 (D.count+1) }
theorem zDn{D:zI}(hl:D.lasting.length=D.blocks)(hw:∀p∈D.waiting,p.1<D.blocks)(id:Nat):D.flushed.look id=D.look id:=by
 by_cases hid:id<D.blocks
 .show (zBR id []).getD ((settle D.lasting D.waiting).getD id [])=_;rw[zHO _ _ _ (by omega)];rfl
 .rw[zHN hl hw (by omega),zHN (D:=D.flushed) (by show (settle _ _).length=_;rw[zAv];exact hl) (λp hp=>by cases hp) (by show D.blocks<=id;omega)]
def zDE(C:qJ):qJ:={ C with disk:=C.disk.flushed }
theorem zQc{C:qJ}{D:zI}(h:∀id,D.look id=C.disk.look id)(id:Nat):qJ.vw { C with disk:=D } id=C.vw id:=by
 unfold qJ.vw;simp only[h]
theorem zHP[zW]{C:qJ}{G:GA}(h:yI C)(hw:∀p∈C.disk.waiting,p.1<C.disk.blocks)(k:qW C G):yI (zDE C)/\qW (zDE C) G.flushD:=by
 have hk:∀id,(zDE C).disk.look id=C.disk.look id:=λid=>zDn h.lenL hw id
 refine⟨⟨h.n3,h.n64,h.hand,h.s256,h.s1024,h.b8,h.b256,by show (settle _ _).length=_;rw[zAv];exact h.lenL,λid hid=>by rw[hk];exact h.len id hid,h.off,h.lit,h.page,h.pins,h.one,
  λj t hj hf hd=>by rw[hk];exact h.clean j t hj hf hd⟩,k.blocks,k.size,λid r hr=>?_,λid b hb=>?_,λid b hb=>?_,?_,λid h'=>by obtain⟨a1,a2,_⟩:=k.low id h';exact⟨a1,a2,a2⟩⟩
 .rw[<- k.view id r hr];exact zQc hk id
 .rw[hk];exact k.look id b hb
 .obtain⟨k1,k2⟩:=k.look id b (.inl hb);refine⟨?_,(λp hp=>by cases hp),k2⟩;have hkk:=hk id;rw[k1] at hkk;exact hkk
 .have:=k.cost;unfold qJ.cost at this ⊢;show (0:Nat)+C.slots.countP (·.wet)<=G.cost;omega
theorem zG8[zW]{C:qJ}(h:yI C){at_:Nat}(hat:at_<vQ)(b:List UInt8)(hb:b.length=C.disk.size):yI { C with disk:=C.disk.wrote at_ b }:=by
 have lk:∀j,at_≠j->(C.disk.wrote at_ b).look j=C.disk.look j:=λj hj=>by rw[jN,if_neg hj]
 exact⟨h.n3,h.n64,h.hand,h.s256,h.s1024,h.b8,h.b256,h.lenL,λj hj=>by
   show ((C.disk.wrote at_ b).look j).length=_;rw[jN];split
   .exact hb
   .exact h.len j hj,h.off,h.lit,h.page,h.pins,h.one,λi s hi hf hd=>by
   show zQ ((C.disk.wrote at_ b).look _) _=_;have:=(h.page i s hi hf).1;rw[lk _ (by omega)];exact h.clean i s hi hf hd⟩
theorem yI.gho{i j:zW}(e : @vQ i = @vQ j){C:qJ}(h : @yI i C) : @yI j C:=by
 obtain⟨a1,a2,a3,a4,a5,a6,a7,a8,a9,a10,a11,a12,a13,a14,a15⟩:=h;exact @yI.mk j C a1 a2 a3 a4 a5 a6 a7 a8 a9 a10 a11 (λk s a b=>by rw[<- e];exact a12 k s a b) a13 a14 a15
theorem zJl[i:zW]{C:qJ}{G:GA}(h:yI C)(k:qW C G){at_:Nat}(hat:at_<vQ)(b:List UInt8) :
  @qW (zFD at_ b) { C with disk:=C.disk.wrote at_ b } { G with cost:=G.cost+1 }:=by
 have lk:∀j,at_≠j->(C.disk.wrote at_ b).look j=C.disk.look j:=λj hj=>by rw[jN,if_neg hj]
 have ne:∀id,(G.view id≠none\/G.look id≠none\/G.last id≠none)->at_≠id:=λid hid e=>by
  obtain⟨a1,a2,a3⟩:=k.low id (e ▸ hat);rcases hid with hid|hid|hid
  .exact hid a1
  .exact hid a2
  .exact hid a3
 refine @qW.mk (zFD at_ b) _ _ k.blocks k.size (λid r hr=>?_) (λid c hc=>?_) (λid c hc=>?_) ?_ k.low
 .have hn:=ne id (.inl (by rw[show G.view id=some r from hr];simp));rw[<- k.view id r hr];unfold qJ.vw;simp only[lk id hn]
 .by_cases e:at_=id
  .subst e;refine⟨?_,λj t hj ht=>?_⟩
   .rcases hc with hc|⟨_,hc⟩
    .exact absurd (show G.look at_=some c from hc) (by rw[(k.low at_ hat).2.1];simp)
    .show (C.disk.wrote at_ b).look at_=c
     rw[jN,if_pos rfl,hc];show b=if at_=at_ then b else _
     rw[if_pos rfl]
   .obtain⟨h1,h2⟩:=yO.1 ht;have:=(h.page j t hj h1).1;omega
  .have hc2:G.look id=some c\/(id<vQ/\c=zCM id):=by
    rcases hc with hc|⟨h1,h2⟩
    .exact .inl hc
    .exact .inr ⟨h1,h2.trans (if_neg (λe2=>e e2.symm))⟩
   obtain⟨k1,k2⟩:=k.look id c hc2;exact⟨(lk id e).trans k1,k2⟩
 .have hn:=ne id (.inr (.inr (by rw[show G.last id=some c from hc];simp)));obtain⟨k1,k2,k3⟩:=k.last id c hc;refine⟨k1,λp hp e=>?_,k3⟩;have hp:p∈C.disk.waiting++[(at_,b)]:=hp;rcases List.mem_append.1 hp with hp|hp
  .exact k2 p hp e
  .rw[List.mem_singleton.1 hp] at e;exact hn e
 .have:=k.cost;unfold qJ.cost at this ⊢;show (C.disk.waiting++[(at_,b)]).length+C.slots.countP (·.wet)<=G.cost+1;rw[List.length_append];simp only[List.length_cons,List.length_nil];omega
end
section
open Go.RowKit
def zC3(n size:Int):Int:=if n<1\/size<256\/1024<size then 0 else (n-1) / (size-28)+1
end
section
structure yM where
 gen:Nat
 blocks:Nat
 size:Nat
 root:Nat
 keys:Nat
 deriving DecidableEq
def zBP(s:yM):Bool:=decide (8<=s.blocks) && decide (s.blocks<=256) && decide (256<=s.size) && decide (s.size<=1024) && decide (s.keys<=2147483647) && decide (s.root=0\/2<=s.root/\s.root<s.blocks) && decide (s.root=0->s.keys=0)
theorem zAZ(s:yM):zBP s=true ↔ 8<=s.blocks/\s.blocks<=256/\256<=s.size/\s.size<=1024/\s.keys<=2147483647/\(s.root=0\/2<=s.root/\s.root<s.blocks)/\(s.root=0->s.keys=0):=by
 unfold zBP;simp only[Bool.and_eq_true,decide_eq_true_eq];exact⟨λ⟨⟨⟨⟨⟨⟨a,b⟩,c⟩,d⟩,e⟩,f⟩,g⟩=>⟨a,b,c,d,e,f,g⟩,λ⟨a,b,c,d,e,f,g⟩=>⟨⟨⟨⟨⟨⟨a,b⟩,c⟩,d⟩,e⟩,f⟩,g⟩⟩
def vV(s:yM):List UInt8:=yD 4 s.blocks++yD 4 s.size++yD 4 s.root++yD 4 s.keys++yD 8 s.gen
def zCO(s:yM)(i:Nat):zX:=⟨1,i,s.gen,vV s⟩
def yJ(s:yM)(i:Nat):List UInt8:=vH (zCO s i) s.size
theorem zBe(s:yM):(vV s).length=24:=by simp[vV,zD]
theorem zEP{s:yM}(h:zBP s=true){i:Nat}(hi:i<2):yY (zCO s i) s.size=none:=by
 obtain⟨a,b,c,d,e,f,g⟩:=(zAZ s).1 h;have hb:=zBe s;have h1:zAX s.size=true:=by unfold zAX;simp;omega
 have h2:zC1 (zCO s i).kind=true:=by show zC1 1=true;decide
 unfold yY;rw[h1,h2,if_neg (by simp),if_neg];simp only[zCO];rw[hb];simp;omega
theorem zAV{s:yM}(h:zBP s=true)(i:Nat):(yJ s i).length=s.size:=by
 obtain⟨a,b,c,d,e,f,g⟩:=(zAZ s).1 h;exact jW _ _ (by simp only[zCO,zBe];omega)
def zEQ(p:zX):yM:=⟨p.gen,qG p.body 0 4,qG p.body 4 4,qG p.body 8 4,qG p.body 12 4⟩
def zF4(p:zX):Bool:=decide (p.body.length=24) && decide (qG p.body 16 8=p.gen) && decide (p.kind=1) && zBP (zEQ p)
def openS(l:List UInt8)(i:Nat):Option yM:=match zQ l i with
 | .inl p=>if zF4 p=true/\(zEQ p).size=l.length then some (zEQ p) else none
 | .inr _=>none
theorem zRV(s:yM)(h:s.blocks<4294967296):qG (vV s) 0 4=s.blocks:=by
 have e:vV s=[]++(yD 4 s.blocks++(yD 4 s.size++yD 4 s.root++yD 4 s.keys++yD 8 s.gen)):=by simp only[vV,List.append_assoc,List.nil_append]
 rw[e];exact zAY [] _ 4 s.blocks 0 rfl h
theorem zRW(s:yM)(h:s.size<4294967296):qG (vV s) 4 4=s.size:=by
 have e:vV s=yD 4 s.blocks++(yD 4 s.size++(yD 4 s.root++yD 4 s.keys++yD 8 s.gen)):=by simp only[vV,List.append_assoc]
 rw[e];exact zAY _ _ 4 s.size 4 (zD _ _) h
theorem zRX(s:yM)(h:s.root<4294967296):qG (vV s) 8 4=s.root:=by
 have e:vV s=(yD 4 s.blocks++yD 4 s.size)++(yD 4 s.root++(yD 4 s.keys++yD 8 s.gen)):=by simp only[vV,List.append_assoc]
 rw[e];exact zAY _ _ 4 s.root 8 (by rw[List.length_append,zD,zD]) h
theorem zQd(s:yM)(h:s.keys<4294967296):qG (vV s) 12 4=s.keys:=by
 have e:vV s=(yD 4 s.blocks++yD 4 s.size++yD 4 s.root)++(yD 4 s.keys++yD 8 s.gen):=by simp only[vV,List.append_assoc]
 rw[e];exact zAY _ _ 4 s.keys 12 (by rw[List.length_append,List.length_append,zD,zD,zD]) h
theorem zQe(s:yM)(h:s.gen<18446744073709551616):qG (vV s) 16 8=s.gen:=by
 have e:vV s=(yD 4 s.blocks++yD 4 s.size++yD 4 s.root++yD 4 s.keys)++(yD 8 s.gen++[]):=by simp only[vV,List.append_assoc,List.append_nil]
 rw[e];exact zAY _ _ 8 s.gen 16 (by rw[List.length_append,List.length_append,List.length_append,zD,zD,zD,zD]) h
theorem zPI{s:yM}(h:zBP s=true)(hg:s.gen<18446744073709551616)(i:Nat):zEQ (zCO s i)=s/\zF4 (zCO s i)=true:=by
 obtain⟨a,b,c,d,e,f, -⟩:=(zAZ s).1 h;have hb:(zCO s i).body=vV s:=rfl;have hs:zEQ (zCO s i)=s:=by
  unfold zEQ;rw[hb,zRV s (by omega),zRW s (by omega),zRX s (by omega),zQd s (by omega)];rfl
 refine⟨hs,?_⟩;unfold zF4;rw[hs,h,hb,zQe s hg,zBe];show (decide (24=24) && decide (s.gen=s.gen) && decide ((1:Int)=1) && true)=true;rw[decide_eq_true rfl,decide_eq_true rfl,decide_eq_true rfl];rfl
theorem zEl{s:yM}(h:zBP s=true)(hg:s.gen<18446744073709551616){i:Nat}(hi:i<2):openS (yJ s i) i=some s:=by
 obtain⟨h1,h2⟩:=zPI h hg i;unfold openS;have:=zCL (p:=zCO s i) (size:=s.size) (zEP h hi) hg;rw[show zQ (yJ s i) (i:Int)=.inl (zCO s i) from this];simp only;rw[h1,zAV h,if_pos ⟨h2,rfl⟩]
theorem zPJ{l:List UInt8}{i:Nat}{s:yM}(h:openS l i=some s):zBP s=true/\s.gen<18446744073709551616/\s.size=l.length:=by
 unfold openS at h;split at h
 .rename_i p hp;split at h
  .rename_i hc;injection h with h;subst h;have hk:=hc.1;unfold zF4 at hk;simp only[Bool.and_eq_true] at hk;refine⟨hk.2,?_,hc.2⟩;unfold zQ at hp;split at hp
   .cases hp
   .split at hp
    .cases hp
    .injection hp with hp;subst hp;exact zEk l
  .cases h
 .cases h
structure vF where
 gen:Nat
 blocks:Nat
 used:List Nat
 deriving DecidableEq
def zAa(m:vF):Bool:=decide (8<=m.blocks) && decide (m.blocks<=256) && decide (6<=m.used.length) && decide (m.used.take 6=[0,1,2,3,4,5]) && decide (m.used.Pairwise (· < ·)) && decide (∀n∈m.used,n<m.blocks)
theorem jC(m:vF):zAa m=true ↔ 8<=m.blocks/\m.blocks<=256/\6<=m.used.length/\m.used.take 6=[0,1,2,3,4,5]/\m.used.Pairwise (· < ·)/\∀n∈m.used,n<m.blocks:=by
 unfold zAa;simp only[Bool.and_eq_true,decide_eq_true_eq];exact⟨λ⟨⟨⟨⟨⟨a,b⟩,c⟩,d⟩,e⟩,f⟩=>⟨a,b,c,d,e,f⟩,λ⟨a,b,c,d,e,f⟩=>⟨⟨⟨⟨⟨a,b⟩,c⟩,d⟩,e⟩,f⟩⟩
def orB(l:List UInt8)(q:Nat):List UInt8:=l.set (q / 8) (UInt8.ofNat ((l.getD (q / 8) 0).toNat ||| 2 ^ (q % 8)))
theorem zFF(l:List UInt8)(q:Nat):(orB l q).length=l.length:=by simp[orB]
theorem zQf(l:List UInt8)(q p:Nat)(hq:q<8 * l.length):zA4 (orB l q) p=(zA4 l p || decide (p=q)):=by
 unfold zA4 orB;by_cases hj:p / 8=q / 8
 .have hl:q / 8<l.length:=by omega
  rw[hj];have e1:(l.set (q / 8) (UInt8.ofNat ((l.getD (q / 8) 0).toNat ||| 2 ^ (q % 8)))).getD (q / 8) 0=UInt8.ofNat ((l.getD (q / 8) 0).toNat ||| 2 ^ (q % 8)):=by
   simp[List.getD,hl]
  have h2:(2:Nat) ^ (q % 8)<2 ^ 8:=Nat.pow_lt_pow_right (by omega) (by omega);rw[e1,UInt8.toNat_ofNat',Nat.mod_eq_of_lt (Nat.or_lt_two_pow (n:=8) (l.getD (q / 8) 0).toNat_lt h2),Nat.testBit_or];congr 1
  rw[Nat.testBit_two_pow];simp;omega
 .have e1:(l.set (q / 8) (UInt8.ofNat ((l.getD (q / 8) 0).toNat ||| 2 ^ (q % 8)))).getD (p / 8) 0=l.getD (p / 8) 0:=by
   simp only[List.getD];rw[List.getElem?_set_ne (λe=>hj e.symm)]
  rw[e1];have:p≠q:=λe=>hj (by rw[e])
  simp[this]
def zCg(blocks:Nat)(used:List Nat):List UInt8:=used.foldl orB (List.replicate ((blocks+7) / 8) 0)
theorem zEC:∀(u:List Nat) (l:List UInt8),(u.foldl orB l).length=l.length
 | [],_=>rfl
 | q :: u,l=>by rw[List.foldl_cons,zEC u,zFF]
theorem zFW:∀(u:List Nat) (l:List UInt8) (p:Nat),(∀q∈u,q<8 * l.length)->zA4 (u.foldl orB l) p=(zA4 l p || decide (p∈u))
 | [],l,p,_=>by simp
 | q :: u,l,p,h=>by
  rw[List.foldl_cons,zFW u (orB l q) p (λx hx=>by rw[zFF];exact h x (List.mem_cons_of_mem _ hx)),zQf l q p (h q List.mem_cons_self),Bool.or_assoc];congr 1
  by_cases e:p=q <;> simp[e]
theorem zJn(b:Nat)(u:List Nat):(zCg b u).length=(b+7) / 8:=by rw[zCg,zEC,List.length_replicate]
theorem zGU(n p:Nat):zA4 (List.replicate n 0) p=false:=by
 unfold zA4;have:(List.replicate n (0:UInt8)).getD (p / 8) 0=0:=by
  rw[List.getD_eq_getElem?_getD,List.getElem?_replicate];split <;> rfl
 rw[this];simp
theorem zNw{b:Nat}{u:List Nat}(h:∀n∈u,n<b)(p:Nat):zA4 (zCg b u) p=decide (p∈u):=by
 rw[zCg,zFW u _ p (λq hq=>by rw[List.length_replicate];have:=h q hq;omega),zGU,Bool.false_or]
def qT(m:vF):List UInt8:=yD 4 m.blocks++yD 4 m.used.length++zCg m.blocks m.used
def zBf(m:vF)(i:Nat):zX:=⟨5,i,m.gen,qT m⟩
def yF(m:vF)(i size:Nat):List UInt8:=vH (zBf m i) size
def place(gen k:Nat):Nat:=2+2 * (gen % 2)+k
def jX(gen i:Nat):Bool:=decide (i=place gen 0) || decide (i=place gen 1)
theorem zA9(m:vF):(qT m).length=8+(m.blocks+7) / 8:=by
 simp only[qT,List.length_append,zD,zJn]
theorem zER{m:vF}(h:zAa m=true){i size:Nat}(hi:i<6)(h1:256<=size)(h2:size<=1024):yY (zBf m i) size=none:=by
 obtain⟨a,b,c,d,e,f⟩:=(jC m).1 h;have hb:=zA9 m;have h1':zAX size=true:=by unfold zAX;simp;omega
 have h2':zC1 (zBf m i).kind=true:=by show zC1 5=true;decide
 unfold yY;rw[h1',h2',if_neg (by simp),if_neg];simp only[zBf];rw[hb];simp;omega
theorem vG{m:vF}(h:zAa m=true)(i:Nat){size:Nat}(h1:256<=size):(yF m i size).length=size:=by
 obtain⟨a,b,c,d,e,f⟩:=(jC m).1 h;exact jW _ _ (by simp only[zBf,zA9];omega)
def zGV(p:zX):vF :=
 if p.body.length<4\/256<qG p.body 0 4 then ⟨0,0,[]⟩
 else ⟨p.gen,qG p.body 0 4,(List.range (qG p.body 0 4)).filter λi=>decide (8+i / 8<p.body.length) && (p.body.getD (8+i / 8) 0).toNat.testBit (i % 8)⟩
def zJo(b:List UInt8)(n:Nat):List Nat:=(List.range n).filter λi=>decide (8+i / 8<b.length) && (b.getD (8+i / 8) 0).toNat.testBit (i % 8)
theorem zIw(p:zX)(h1:4<=p.body.length)(h2:qG p.body 0 4<=256):zGV p=⟨p.gen,qG p.body 0 4,zJo p.body (qG p.body 0 4)⟩:=by
 unfold zGV;rw[if_neg (by omega)];rfl
theorem zHQ:∀(u:List Nat) (b:Nat),u.Pairwise (· < ·)->(∀n∈u,n<b)->(List.range b).filter (λi=>decide (i∈u))=u:=by
 intro u b hs hb;have hp:((List.range b).filter (λi=>decide (i∈u))).Pairwise (· < ·):=List.Pairwise.filter _ List.pairwise_lt_range;refine List.Perm.eq_of_pairwise (le:=λa b=>a<b) (λa b _ _ h1 h2=>by omega) hp hs ?_;refine (List.perm_ext_iff_of_nodup (hp.imp (λh e=>by omega)) (hs.imp (λh e=>by omega))).2 (λx=>?_);simp only[List.mem_filter,List.mem_range,decide_eq_true_eq];exact⟨λh=>h.2,λh=>⟨hb x h,h⟩⟩
theorem zPK{m:vF}(h:zAa m=true)(i:Nat):zGV (zBf m i)=m:=by
 obtain⟨a,b,c,d,e,f⟩:=(jC m).1 h;have hlen:m.used.length<=256:=by
  have h1:m.used=(List.range m.blocks).filter (λi=>decide (i∈m.used)):=(zHQ _ _ e f).symm;have:=List.length_filter_le (λi=>decide (i∈m.used)) (List.range m.blocks);rw[<- h1,List.length_range] at this;omega
 have n0:qG (qT m) 0 4=m.blocks:=by
  have:qT m=[]++(yD 4 m.blocks++(yD 4 m.used.length++zCg m.blocks m.used)):=by simp[qT]
  rw[this,zAY [] _ 4 m.blocks 0 rfl (by have:(256:Nat) ^ 4=4294967296:=(by decide);omega)]
 have hl:=zA9 m;rw[zIw (zBf m i) (by show 4<=(qT m).length;omega) (by show qG (qT m) 0 4<=256;omega)];show (⟨m.gen,qG (qT m) 0 4,zJo (qT m) (qG (qT m) 0 4)⟩:vF)=m;rw[n0];have hu:zJo (qT m) m.blocks=m.used:=by
  unfold zJo;refine Eq.trans ?_ (zHQ _ _ e f);refine List.filter_congr (λx hx=>?_);have hxb:=List.mem_range.1 hx;have hb:=zNw f x;unfold zA4 at hb;have hg:(qT m).getD (8+x / 8) 0=(zCg m.blocks m.used).getD (x / 8) 0:=by
   rw[List.getD_eq_getElem?_getD,List.getD_eq_getElem?_getD,qT,List.getElem?_append_right (by simp[zD])];simp[zD]
  rw[hg,hb,hl,decide_eq_true (by omega),Bool.true_and]
 rw[hu]
end
end Go.Proofs.YteabpacpngaoaaaGreatDoor
