import Derived.Test.YtchklfmggpconaaGreatDoorK02
namespace Go.Proofs.YtchklfmggpconaaGreatDoor
section
structure zT where
 page:yN
 full:Bool
 dirty:Bool
 used:Bool
 pins:Nat
def qT:zT:=⟨⟨0,0,0,[]⟩,false,false,false,0⟩
structure CaA where
 disk:yL
 slots:List zT
 hand:Nat
def zT.has(s:zT)(id:Nat):Bool:=s.full && decide (s.page.id=(id:Int))
def zT.wet(s:zT):Bool:=s.full && s.dirty
def CaA.vw(C:CaA)(id:Nat):yN ⊕ (List Int × Nat) :=
 match C.slots.find? (·.has id) with
 | some s=>.inl s.page
 | none=>jB (C.disk.look id) id
def CaA.cost(C:CaA):Nat:=C.disk.waiting.length+C.slots.countP (·.wet)
def zJW(p:yN)(size:Nat):Prop:=vE p size=none/\p.gen<18446744073709551616
structure vP(C:CaA):Prop where
 n3:3<=C.slots.length
 n64:C.slots.length<=64
 hand:C.hand<C.slots.length
 s256:256<=C.disk.size
 s1024:C.disk.size<=1024
 b8:8<=C.disk.blocks
 b256:C.disk.blocks<=256
 lenL:C.disk.lasting.length=C.disk.blocks
 len:∀id:Nat,id<C.disk.blocks->(C.disk.look id).length=C.disk.size
 off:C.disk.off=false
 lit:C.disk.lit=false
 page:∀(i:Nat) (s:zT),C.slots[i]? = some s->s.full=true->0<=s.page.id/\s.page.id<C.disk.blocks/\zJW s.page C.disk.size
 pins:∀(i:Nat) (s:zT),C.slots[i]? = some s->s.pins=0
 one:∀(i j:Nat) (s t:zT),C.slots[i]? = some s->C.slots[j]? = some t->s.full=true->t.full=true->s.page.id=t.page.id->i=j
 clean:∀(i:Nat) (s:zT),C.slots[i]? = some s->s.full=true->s.dirty=false->jB (C.disk.look s.page.id.toNat) s.page.id=.inl s.page
theorem qE{s:zT}{id:Nat}:s.has id=true ↔ s.full=true/\s.page.id=(id:Int):=by simp[zT.has]
theorem vP.vw_at{C:CaA}(h:vP C){i:Nat}{s:zT}{id:Nat}(hi:C.slots[i]? = some s)(hs:s.has id=true):C.vw id=.inl s.page:=by
 unfold CaA.vw;cases hf:C.slots.find? (·.has id) with
 | none =>
  have:=List.find?_eq_none.1 hf s (wM hi);exact absurd hs this
 | some t =>
  have ht:=List.find?_some hf;obtain⟨j,hj,e⟩:=wQ (List.mem_of_find?_eq_some hf);have hj2:C.slots[j]? = some t:=by rw[<- e];exact uA hj
  have h1:=qE.1 hs;have h2:=qE.1 ht;have:=h.one i j s t hi hj2 h1.1 h2.1 (by rw[h1.2,h2.2]);subst this;rw[hi] at hj2;injection hj2 with hj2;rw[hj2]
theorem zAM{C:CaA}{id:Nat}(h:∀(i:Nat) (s:zT),C.slots[i]? = some s->s.has id=false):C.vw id=jB (C.disk.look id) id:=by
 unfold CaA.vw;have:C.slots.find? (·.has id)=none:=List.find?_eq_none.2 (λs hs=>by
  obtain⟨j,hj,e⟩:=wQ hs;have:=h j s (by rw[<- e];exact uA hj);rw[this];simp)
 rw[this]
structure Sim(C C':CaA):Prop where
 inv:vP C'
 blocks:C'.disk.blocks=C.disk.blocks
 size:C'.disk.size=C.disk.size
 lasting:C'.disk.lasting=C.disk.lasting
 vw:∀id:Nat,C'.vw id=C.vw id
 dirt:∀id:Nat,(∀(i:Nat) (s:zT),C.slots[i]? = some s->s.has id=true->s.dirty=false) ->
  C'.disk.look id=C.disk.look id/\(∀(i:Nat) (s:zT),C'.slots[i]? = some s->s.has id=true->s.dirty=false)/\∀p∈C'.disk.waiting,p.1=id->p∈C.disk.waiting
 cost:C'.cost<=C.cost
theorem Sim.refl{C:CaA}(h:vP C):Sim C C:=⟨h,rfl,rfl,rfl,λ_=>rfl,λ_ h=>⟨rfl,h,λ_ h _=>h⟩,uJ _⟩
theorem Sim.trans{C C1 C2:CaA}(h:Sim C C1)(k:Sim C1 C2):Sim C C2 :=
 ⟨k.inv,k.blocks.trans h.blocks,k.size.trans h.size,k.lasting.trans h.lasting,λid=>(k.vw id).trans (h.vw id),
  λid hd=>by
   obtain⟨h1,h2,h3⟩:=h.dirt id hd;obtain⟨k1,k2,k3⟩:=k.dirt id h2;exact⟨k1.trans h1,k2,λp hp e=>h3 p (k3 p hp e) e⟩,uM k.cost h.cost⟩
theorem zN{α:Type}{l:List α}{i j:Nat}{x y:α}(h:(l.set i x)[j]? = some y):(j=i/\y=x)\/(j≠i/\l[j]? = some y):=by
 by_cases e:j=i
 .subst e;rw[List.getElem?_set] at h;simp at h;exact .inl ⟨rfl,h.2.symm⟩
 .right
  rw[wP (λe'=>e e'.symm)] at h;exact⟨e,h⟩
theorem zB8{α:Type}{l:List α}{i:Nat}{x y:α}(h:l[i]? = some y):(l.set i x)[i]? = some x:=by
 rw[tF (uB.1 h).1]
theorem set_other{α:Type}{l:List α}{i j:Nat}{x y:α}(e:j≠i)(h:l[j]? = some y):(l.set i x)[j]? = some y:=by
 rw[wP (λe'=>e e'.symm)];exact h
theorem zAg{α:Type}(f:α->Bool):∀(l:List α) (i:Nat) (x y:α),l[i]? = some y->(l.set i x).countP f+(if f y then 1 else 0)=l.countP f+(if f x then 1 else 0)
 | [],i,x,y,h=>by simp at h
 | a :: l,0,x,y,h=>by
  simp at h;subst h;simp only[nW,List.countP_cons];omega
 | a :: l,i+1,x,y,h=>by
  have:=zAg f l i x y (by simpa using h);simp only[List.set_cons_succ,List.countP_cons];omega
theorem zKP{C:CaA}(h:vP C){i:Nat}{s:zT}(hi:C.slots[i]? = some s)(u:Bool):Sim C { C with slots:=C.slots.set i { s with used:=u } }:=by
 have hs:=(uB.1 hi).1;have inv:vP { C with slots:=C.slots.set i { s with used:=u } } :=
  ⟨by simpa using h.n3,by simpa using h.n64,by simpa using h.hand,h.s256,h.s1024,h.b8,h.b256,h.lenL,h.len,h.off,h.lit,
   λj t ht hf=>by rcases zN ht with ⟨_,rfl⟩|⟨_,ht⟩;exact h.page i s hi hf;exact h.page j t ht hf,
   λj t ht=>by rcases zN ht with ⟨_,rfl⟩|⟨_,ht⟩;exact h.pins i s hi;exact h.pins j t ht,
   λj k t t' ht ht' hf hf' he=>by
    rcases zN ht with ⟨ej,rfl⟩|⟨hj,ht⟩ <;> rcases zN ht' with ⟨ek,rfl⟩|⟨hk,ht'⟩
    .rw[ej,ek]
    .rw[ej];exact h.one i k s t' hi ht' hf hf' he
    .rw[ek];exact h.one j i t s ht hi hf hf' he
    .exact h.one j k t t' ht ht' hf hf' he,
   λj t ht hf hd=>by rcases zN ht with ⟨_,rfl⟩|⟨_,ht⟩;exact h.clean i s hi hf hd;exact h.clean j t ht hf hd⟩
 refine⟨inv,rfl,rfl,rfl,λid=>?_,λid hd=>⟨rfl,λj t ht hh=>?_,λp hp _=>hp⟩,?_⟩
 .by_cases hx:∃(j:Nat) (t:zT),C.slots[j]? = some t/\t.has id=true
  .obtain⟨j,t,hj,ht⟩:=hx;rw[h.vw_at hj ht];by_cases e:j=i
   .subst e;rw[hi] at hj;injection hj with hj;subst hj;exact inv.vw_at (i:=j) (s:={ s with used:=u }) (zB8 hi) ht
   .exact inv.vw_at (i:=j) (s:=t) (set_other e hj) ht
  .have hn:∀(j:Nat) (t:zT),C.slots[j]? = some t->t.has id=false:=λj t hj=>by
    cases hb:t.has id with
    | false=>rfl
    | true=>exact absurd ⟨j,t,hj,hb⟩ hx
   rw[zAM hn];exact zAM (λj t hj=>by
    rcases zN hj with ⟨_,rfl⟩|⟨_,hj⟩
    .exact hn i s hi
    .exact hn j t hj)
 .rcases zN ht with ⟨_,rfl⟩|⟨_,ht⟩
  .exact hd i s hi hh
  .exact hd j t ht hh
 .unfold CaA.cost;have:=zAg (·.wet) C.slots i { s with used:=u } s hi;have e:({ s with used:=u }:zT).wet=s.wet:=rfl;rw[e] at this;show C.disk.waiting.length+(C.slots.set i { s with used:=u }).countP (·.wet)<=C.disk.waiting.length+C.slots.countP (·.wet);omega
theorem zPW{C:CaA}(h:vP C){k:Nat}(hk:k<C.slots.length):Sim C { C with hand:=k } :=
 ⟨⟨h.n3,h.n64,hk,h.s256,h.s1024,h.b8,h.b256,h.lenL,h.len,h.off,h.lit,h.page,h.pins,h.one,h.clean⟩,rfl,rfl,rfl,λ_=>rfl,λ_ hd=>⟨rfl,hd,λ_ hp _=>hp⟩,uJ _⟩
theorem zIc{C:CaA}(h:vP C){i:Nat}{s:zT}(hi:C.slots[i]? = some s)(hw:s.wet=false):Sim C { C with slots:=C.slots.set i qT }:=by
 have inv:vP { C with slots:=C.slots.set i qT } :=
  ⟨by simpa using h.n3,by simpa using h.n64,by simpa using h.hand,h.s256,h.s1024,h.b8,h.b256,h.lenL,h.len,h.off,h.lit,
   λj t ht hf=>by rcases zN ht with ⟨_,rfl⟩|⟨_,ht⟩;exact absurd hf (by simp[qT]);exact h.page j t ht hf,
   λj t ht=>by rcases zN ht with ⟨_,rfl⟩|⟨_,ht⟩;rfl;exact h.pins j t ht,
   λj k t t' ht ht' hf hf' he=>by
    rcases zN ht with ⟨rfl,rfl⟩|⟨hj,ht⟩
    .exact absurd hf (by simp[qT])
    .rcases zN ht' with ⟨rfl,rfl⟩|⟨hk,ht'⟩
     .exact absurd hf' (by simp[qT])
     .exact h.one j k t t' ht ht' hf hf' he,
   λj t ht hf hd=>by rcases zN ht with ⟨_,rfl⟩|⟨_,ht⟩;exact absurd hf (by simp[qT]);exact h.clean j t ht hf hd⟩
 refine⟨inv,rfl,rfl,rfl,λid=>?_,λid hd=>⟨rfl,λj t ht hh=>?_,λp hp _=>hp⟩,?_⟩
 .by_cases hx:∃(j:Nat) (t:zT),C.slots[j]? = some t/\t.has id=true
  .obtain⟨j,t,hj,ht⟩:=hx;rw[h.vw_at hj ht];by_cases e:j=i
   .subst e;rw[hi] at hj;injection hj with hj;subst hj;obtain⟨hf,hid⟩:=qE.1 ht;have hd:s.dirty=false:=by simpa[zT.wet,hf] using hw
    have hc:=h.clean j s hi hf hd;rw[hid,uL] at hc;rw[<- hc];exact zAM (λk t hk=>by
     rcases zN hk with ⟨_,rfl⟩|⟨hne,hk⟩
     .rfl
     .cases hb:t.has id with
      | false=>rfl
      | true =>
       have h2:=qE.1 hb;exact absurd (h.one k j t s hk hi h2.1 hf (by rw[h2.2,hid])) hne)
   .exact inv.vw_at (i:=j) (s:=t) (set_other e hj) ht
  .have hn:∀(j:Nat) (t:zT),C.slots[j]? = some t->t.has id=false:=λj t hj=>by
    cases hb:t.has id with
    | false=>rfl
    | true=>exact absurd ⟨j,t,hj,hb⟩ hx
   rw[zAM hn];exact zAM (λj t hj=>by
    rcases zN hj with ⟨_,rfl⟩|⟨_,hj⟩
    .rfl
    .exact hn j t hj)
 .rcases zN ht with ⟨_,rfl⟩|⟨_,ht⟩
  .rfl
  .exact hd j t ht hh
 .unfold CaA.cost;have:=zAg (·.wet) C.slots i qT s hi;have e:qT.wet=false:=rfl;rw[e] at this;show C.disk.waiting.length+(C.slots.set i qT).countP (·.wet)<=C.disk.waiting.length+C.slots.countP (·.wet);simp at this;split at this <;> omega
theorem zPX{C:CaA}(h:vP C){i:Nat}{s:zT}(hi:C.slots[i]? = some s)(hs:s.full=false)(id:Nat)(hid:id<C.disk.blocks)(hno:∀(j:Nat) (t:zT),C.slots[j]? = some t->t.has id=false)(p:yN)
  (hp:jB (C.disk.look id) id=.inl p) (hpi:p.id=(id:Int)) (hok:zJW p C.disk.size):Sim C { C with slots:=C.slots.set i ⟨p,true,false,true,0⟩ }:=by
 have inv:vP { C with slots:=C.slots.set i ⟨p,true,false,true,0⟩ } :=
  ⟨by simpa using h.n3,by simpa using h.n64,by simpa using h.hand,h.s256,h.s1024,h.b8,h.b256,h.lenL,h.len,h.off,h.lit,
   λj t ht hf=>by rcases zN ht with ⟨_,rfl⟩|⟨_,ht⟩;exact⟨by simp only[hpi];omega,by simp only[hpi];exact Int.ofNat_lt.2 hid,hok⟩;exact h.page j t ht hf,
   λj t ht=>by rcases zN ht with ⟨_,rfl⟩|⟨_,ht⟩;rfl;exact h.pins j t ht,
   λj k t t' ht ht' hf hf' he=>by
    rcases zN ht with ⟨ej,rfl⟩|⟨hj,ht⟩ <;> rcases zN ht' with ⟨ek,rfl⟩|⟨hk,ht'⟩
    .rw[ej,ek]
    .have:=hno k t' ht';rw[show t'.has id=true from qE.2 ⟨hf',by rw[<- he];exact hpi⟩] at this;cases this
    .have:=hno j t ht;rw[show t.has id=true from qE.2 ⟨hf,by rw[he];exact hpi⟩] at this;cases this
    .exact h.one j k t t' ht ht' hf hf' he,
   λj t ht hf hd=>by rcases zN ht with ⟨_,rfl⟩|⟨_,ht⟩;(simp only[hpi,uL];exact hp);exact h.clean j t ht hf hd⟩
 refine⟨inv,rfl,rfl,rfl,λid'=>?_,λid' hd=>⟨rfl,λj t ht hh=>?_,λp hp _=>hp⟩,?_⟩
 .by_cases hx:∃(j:Nat) (t:zT),C.slots[j]? = some t/\t.has id'=true
  .obtain⟨j,t,hj,ht⟩:=hx;rw[h.vw_at hj ht];by_cases e:j=i
   .subst e;rw[hi] at hj;injection hj with hj;subst hj;rw[zT.has,hs] at ht;simp at ht
   .exact inv.vw_at (i:=j) (s:=t) (set_other e hj) ht
  .have hn:∀(j:Nat) (t:zT),C.slots[j]? = some t->t.has id'=false:=λj t hj=>by
    cases hb:t.has id' with
    | false=>rfl
    | true=>exact absurd ⟨j,t,hj,hb⟩ hx
   rw[zAM hn];by_cases e:id'=id
   .subst e;rw[hp];exact inv.vw_at (i:=i) (s:=⟨p,true,false,true,0⟩) (zB8 hi) (qE.2 ⟨rfl,hpi⟩)
   .exact zAM (λj t hj=>by
     rcases zN hj with ⟨_,rfl⟩|⟨_,hj⟩
     .cases hb:zT.has ⟨p,true,false,true,0⟩ id' with
      | false=>rfl
      | true =>
       have:=(qE.1 hb).2;simp only[hpi] at this;omega
     .exact hn j t hj)
 .rcases zN ht with ⟨_,rfl⟩|⟨_,ht⟩
  .rfl
  .exact hd j t ht hh
 .unfold CaA.cost;have:=zAg (·.wet) C.slots i ⟨p,true,false,true,0⟩ s hi;have e:zT.wet ⟨p,true,false,true,0⟩=false:=rfl;rw[e] at this;show C.disk.waiting.length+(C.slots.set i ⟨p,true,false,true,0⟩).countP (·.wet)<=C.disk.waiting.length+C.slots.countP (·.wet);simp at this;split at this <;> omega
def yL.wrote(D:yL)(i:Nat)(b:List UInt8):yL:={ D with waiting:=D.waiting++[(i,b)],after:=RowKit.wrap64 (D.after-1),count:=RowKit.wrap64 (D.count+1) }
theorem zL9(D:yL)(i:Nat)(b:List UInt8)(j:Nat):(D.wrote i b).look j=if i=j then b else D.look j:=by
 unfold yL.look yL.wrote;simp only[zFW,zB7];by_cases e:i=j
 .simp[e]
 .simp[e]
def zAw(C:CaA)(i:Nat)(s:zT):CaA:={ C with disk:=C.disk.wrote s.page.id.toNat (zBP s.page C.disk.size),slots:=C.slots.set i { s with dirty:=false } }
theorem zOC{C:CaA}(h:vP C){i:Nat}{s:zT}(hi:C.slots[i]? = some s)(hf:s.full=true)(hd:s.dirty=true):Sim C (zAw C i s):=by
 obtain⟨hp0,hp1,hok⟩:=h.page i s hi hf;obtain⟨id,hid⟩:∃id:Nat,s.page.id=(id:Int):=⟨s.page.id.toNat,by omega⟩;have hopen:=zKK hok.1 hok.2;have hself:s.has id=true:=qE.2 ⟨hf,hid⟩;have uniq:∀(j:Nat) (t:zT),C.slots[j]? = some t->t.has id=true->j=i:=λj t hj ht=>by
  have h2:=qE.1 ht;exact h.one j i t s hj hi h2.1 hf (by rw[h2.2,hid])
 have look2:∀j,(zAw C i s).disk.look j=if id=j then zBP s.page C.disk.size else C.disk.look j:=λj=>by
  unfold zAw;simp only[hid,uL];exact zL9 _ _ _ _
 have inv:vP (zAw C i s) :=
  ⟨by simpa[zAw] using h.n3,by simpa[zAw] using h.n64,by simpa[zAw] using h.hand,h.s256,h.s1024,h.b8,h.b256,h.lenL,λj hj=>by rw[look2];split;(exact zA3 _ _ (by have:=jA hok.1;omega));exact h.len j hj,h.off,h.lit,
   λj t ht hf=>by rcases zN ht with ⟨_,rfl⟩|⟨_,ht⟩;exact h.page i s hi hf;exact h.page j t ht hf,
   λj t ht=>by rcases zN ht with ⟨_,rfl⟩|⟨_,ht⟩;exact h.pins i s hi;exact h.pins j t ht,
   λj k t t' ht ht' hf hf' he=>by
    rcases zN ht with ⟨ej,rfl⟩|⟨hj,ht⟩ <;> rcases zN ht' with ⟨ek,rfl⟩|⟨hk,ht'⟩
    .rw[ej,ek]
    .rw[ej];exact h.one i k s t' hi ht' hf hf' he
    .rw[ek];exact h.one j i t s ht hi hf hf' he
    .exact h.one j k t t' ht ht' hf hf' he,
   λj t ht hft hdt=>by
    rw[look2];rcases zN ht with ⟨_,rfl⟩|⟨hne,ht⟩
    .rw[if_pos (by simp only[hid];omega)];exact hopen
    .obtain⟨q0,_,_⟩:=h.page j t ht hft;rw[if_neg (λe=>hne (uniq j t ht (qE.2 ⟨hft,by omega⟩)))];exact h.clean j t ht hft hdt⟩
 refine⟨inv,rfl,rfl,rfl,λid'=>?_,λid' hdd=>?_,?_⟩
 .by_cases hx:∃(j:Nat) (t:zT),C.slots[j]? = some t/\t.has id'=true
  .obtain⟨j,t,hj,ht⟩:=hx;rw[h.vw_at hj ht];by_cases e:j=i
   .subst e;rw[hi] at hj;injection hj with hj;subst hj;exact inv.vw_at (i:=j) (s:={ s with dirty:=false }) (zB8 hi) ht
   .exact inv.vw_at (i:=j) (s:=t) (set_other e hj) ht
  .have hn:∀(j:Nat) (t:zT),C.slots[j]? = some t->t.has id'=false:=λj t hj=>by
    cases hb:t.has id' with
    | false=>rfl
    | true=>exact absurd ⟨j,t,hj,hb⟩ hx
   have hne:id≠id':=λe=>by have:=hn i s hi;rw[<- e,hself] at this;cases this
   rw[zAM hn,zAM (λj t hj=>by
    rcases zN hj with ⟨_,rfl⟩|⟨_,hj⟩
    .exact hn i s hi
    .exact hn j t hj),look2,if_neg hne]
 .have hne:id≠id':=λe=>by have:=hdd i s hi (e ▸ hself);rw[hd] at this;cases this
  refine⟨by rw[look2,if_neg hne],λj t ht hh=>?_,λp hp e=>?_⟩
  .rcases zN ht with ⟨_,rfl⟩|⟨_,ht⟩
   .rfl
   .exact hdd j t ht hh
  .have:p∈C.disk.waiting++[(s.page.id.toNat,zBP s.page C.disk.size)]:=hp;rw[uG] at this;rcases this with hp|hp
   .exact hp
   .simp at hp;subst hp;simp only[hid,uL] at e;exact absurd e hne
 .unfold CaA.cost;have:=zAg (·.wet) C.slots i { s with dirty:=false } s hi;have e:zT.wet { s with dirty:=false }=false:=by simp[zT.wet]
  have e2:s.wet=true:=by simp[zT.wet,hf,hd]
  rw[e,e2] at this;have e3:(zAw C i s).disk.waiting.length=C.disk.waiting.length+1:=by simp[zAw,yL.wrote]
  rw[e3];show _+(C.slots.set i { s with dirty:=false }).countP _<=_;simp at this;omega
structure GA where
 blocks:Nat
 size:Nat
 view:Nat->Option (yN ⊕ (List Int × Nat))
 look:Nat->Option (List UInt8)
 last:Nat->Option (List UInt8)
 cost:Nat
structure zBn(C:CaA)(G:GA):Prop where
 blocks:C.disk.blocks=G.blocks
 size:C.disk.size=G.size
 view:∀id r,G.view id=some r->C.vw id=r
 look:∀id b,G.look id=some b->C.disk.look id=b/\∀(i:Nat) (s:zT),C.slots[i]? = some s->s.has id=true->s.dirty=false
 last:∀id b,G.last id=some b->C.disk.lasting.getD id []=b/\(∀p∈C.disk.waiting,p.1≠id)/\∀(i:Nat) (s:zT),C.slots[i]? = some s->s.has id=true->s.dirty=false
 cost:C.cost<=G.cost
theorem Sim.rel{C C':CaA}(h:Sim C C'){G:GA}(k:zBn C G):zBn C' G :=
 ⟨h.blocks.trans k.blocks,h.size.trans k.size,λid r hr=>(h.vw id).trans (k.view id r hr),
  λid b hb=>by
   obtain⟨k1,k2⟩:=k.look id b hb;obtain⟨h1,h2,_⟩:=h.dirt id k2;exact⟨h1.trans k1,h2⟩,
  λid b hb=>by
   obtain⟨k1,k2,k3⟩:=k.last id b hb;obtain⟨_,h2,h3⟩:=h.dirt id k3;exact⟨by rw[h.lasting];exact k1,λp hp e=>k2 p (h3 p hp e) e,h2⟩,
  uM h.cost k.cost⟩
def upd{α:Type}(f:Nat->α)(i:Nat)(x:α):Nat->α:=λj=>if j=i then x else f j
theorem zD0{α:Type}(f:Nat->α)(i:Nat)(x:α):upd f i x i=x:=by simp[upd]
theorem zF7{α:Type}(f:Nat->α){i j:Nat}(x:α)(h:j≠i):upd f i x j=f j:=by simp[upd,h]
def zHJ(o:Option (List UInt8))(id:Nat):Option (yN ⊕ (List Int × Nat)):=o.map λb=>jB b id
def GA.put(G:GA)(p:yN):GA:={ G with view:=upd G.view p.id.toNat (some (.inl p)),look:=upd G.look p.id.toNat none,last:=upd G.last p.id.toNat none,cost:=G.cost+1 }
def GA.drop(G:GA)(id:Nat):GA:={ G with view:=upd G.view id (zHJ (G.look id) id) }
def zJX(C:CaA)(i:Nat)(p:yN):CaA:={ C with slots:=C.slots.set i ⟨p,true,true,true,0⟩ }
theorem zNR{C:CaA}{G:GA}(h:vP C)(k:zBn C G){i:Nat}{s:zT}(hi:C.slots[i]? = some s)(p:yN)(id:Nat)(hpi:p.id=(id:Int))(hid:id<C.disk.blocks)(hok:zJW p C.disk.size)
  (hx:s.has id=true\/(s.full=false/\∀(j:Nat) (t:zT),C.slots[j]? = some t->t.has id=false)):vP (zJX C i p)/\zBn (zJX C i p) (G.put p):=by
 have hoth:∀(j:Nat) (t:zT),C.slots[j]? = some t->j≠i->t.has id=false:=λj t hj hne=>by
  rcases hx with hx|⟨_,hx⟩
  .cases hb:t.has id with
   | false=>rfl
   | true =>
    have h1:=qE.1 hx;have h2:=qE.1 hb;exact absurd (h.one j i t s hj hi h2.1 h1.1 (by rw[h1.2,h2.2])) hne
  .exact hx j t hj
 have hself:zT.has ⟨p,true,true,true,0⟩ id=true:=qE.2 ⟨rfl,hpi⟩;have inv:vP (zJX C i p) :=
  ⟨by simpa[zJX] using h.n3,by simpa[zJX] using h.n64,by simpa[zJX] using h.hand,h.s256,h.s1024,h.b8,h.b256,h.lenL,h.len,h.off,h.lit,
   λj t ht hf=>by rcases zN ht with ⟨_,rfl⟩|⟨_,ht⟩;exact⟨by simp only[hpi];omega,by simp only[hpi];exact Int.ofNat_lt.2 hid,hok⟩;exact h.page j t ht hf,
   λj t ht=>by rcases zN ht with ⟨_,rfl⟩|⟨_,ht⟩;rfl;exact h.pins j t ht,
   λj k t t' ht ht' hf hf' he=>by
    rcases zN ht with ⟨ej,rfl⟩|⟨hj,ht⟩ <;> rcases zN ht' with ⟨ek,rfl⟩|⟨hk,ht'⟩
    .rw[ej,ek]
    .have:=hoth k t' ht' hk;rw[show t'.has id=true from qE.2 ⟨hf',by rw[<- he];exact hpi⟩] at this;cases this
    .have:=hoth j t ht hj;rw[show t.has id=true from qE.2 ⟨hf,by rw[he];exact hpi⟩] at this;cases this
    .exact h.one j k t t' ht ht' hf hf' he,
   λj t ht hf hd=>by rcases zN ht with ⟨_,rfl⟩|⟨_,ht⟩;cases hd;exact h.clean j t ht hf hd⟩
 have hidn:p.id.toNat=id:=by omega
 have clean:∀id',id'≠id->(∀(j:Nat) (t:zT),C.slots[j]? = some t->t.has id'=true->t.dirty=false)->∀(j:Nat) (t:zT),(zJX C i p).slots[j]? = some t->t.has id'=true->t.dirty=false:=λid' hne hc j t ht hh=>by
  rcases zN ht with ⟨_,rfl⟩|⟨_,ht⟩
  .have:=(qE.1 hh).2;simp only[hpi] at this;omega
  .exact hc j t ht hh
 refine⟨inv,k.blocks,k.size,λid' r hr=>?_,λid' b hb=>?_,λid' b hb=>?_,?_⟩
 .unfold GA.put at hr;simp only[hidn] at hr;by_cases e:id'=id
  .subst e;rw[zD0] at hr;injection hr with hr;rw[<- hr];exact inv.vw_at (i:=i) (s:=⟨p,true,true,true,0⟩) (zB8 hi) hself
  .rw[zF7 _ _ e] at hr;rw[<- k.view id' r hr];by_cases hx2:∃(j:Nat) (t:zT),C.slots[j]? = some t/\t.has id'=true
   .obtain⟨j,t,hj,ht⟩:=hx2;rw[h.vw_at hj ht];have hne:j≠i:=by
     rintro rfl;rw[hi] at hj;injection hj with hj;subst hj;rcases hx with hx|⟨hx,_⟩
     .have h1:=(qE.1 hx).2;have h2:=(qE.1 ht).2;omega
     .rw[zT.has,hx] at ht;simp at ht
    exact inv.vw_at (i:=j) (s:=t) (set_other hne hj) ht
   .have hn:∀(j:Nat) (t:zT),C.slots[j]? = some t->t.has id'=false:=λj t hj=>by
     cases hb:t.has id' with
     | false=>rfl
     | true=>exact absurd ⟨j,t,hj,hb⟩ hx2
    rw[zAM hn];exact zAM (λj t hj=>by
     rcases zN hj with ⟨_,rfl⟩|⟨_,hj⟩
     .cases hb:zT.has ⟨p,true,true,true,0⟩ id' with
      | false=>rfl
      | true =>
       have:=(qE.1 hb).2;simp only[hpi] at this;omega
     .exact hn j t hj)
 .unfold GA.put at hb;simp only[hidn] at hb;by_cases e:id'=id
  .subst e;rw[zD0] at hb;cases hb
  .rw[zF7 _ _ e] at hb;obtain⟨k1,k2⟩:=k.look id' b hb;exact⟨k1,clean id' e k2⟩
 .unfold GA.put at hb;simp only[hidn] at hb;by_cases e:id'=id
  .subst e;rw[zD0] at hb;cases hb
  .rw[zF7 _ _ e] at hb;obtain⟨k1,k2,k3⟩:=k.last id' b hb;exact⟨k1,k2,clean id' e k3⟩
 .have hc:=k.cost;unfold CaA.cost at hc ⊢;have:=zAg (·.wet) C.slots i ⟨p,true,true,true,0⟩ s hi;have e:zT.wet ⟨p,true,true,true,0⟩=true:=rfl;rw[e] at this;show C.disk.waiting.length+(C.slots.set i ⟨p,true,true,true,0⟩).countP (·.wet)<=G.cost+1;simp at this;split at this <;> omega
theorem zQi{C:CaA}(h:vP C){i:Nat}{s:zT}(hi:C.slots[i]? = some s)(p:yN)(id:Nat)(hpi:p.id=(id:Int))(hid:id<C.disk.blocks)(hok:zJW p C.disk.size)
  (hx:s.has id=true\/(s.full=false/\∀(j:Nat) (t:zT),C.slots[j]? = some t->t.has id=false)):vP (zJX C i p) :=
 (zNR (G:=⟨C.disk.blocks,C.disk.size,λ_=>none,λ_=>none,λ_=>none,C.cost⟩) h ⟨rfl,rfl,(λ_ _ h=>by cases h),(λ_ _ h=>by cases h),(λ_ _ h=>by cases h),uJ _⟩ hi p id hpi hid hok hx).1
theorem zPY{C:CaA}{G:GA}(h:vP C)(k:zBn C G){i:Nat}{s:zT}{id:Nat}(hi:C.slots[i]? = some s)(hs:s.has id=true):vP { C with slots:=C.slots.set i qT }/\zBn { C with slots:=C.slots.set i qT } (G.drop id):=by
 obtain⟨hf,hid⟩:=qE.1 hs;have inv:vP { C with slots:=C.slots.set i qT } :=
  ⟨by simpa using h.n3,by simpa using h.n64,by simpa using h.hand,h.s256,h.s1024,h.b8,h.b256,h.lenL,h.len,h.off,h.lit,
   λj t ht hf=>by rcases zN ht with ⟨_,rfl⟩|⟨_,ht⟩;exact absurd hf (by simp[qT]);exact h.page j t ht hf,
   λj t ht=>by rcases zN ht with ⟨_,rfl⟩|⟨_,ht⟩;rfl;exact h.pins j t ht,
   λj k t t' ht ht' hf hf' he=>by
    rcases zN ht with ⟨rfl,rfl⟩|⟨hj,ht⟩
    .exact absurd hf (by simp[qT])
    .rcases zN ht' with ⟨rfl,rfl⟩|⟨hk,ht'⟩
     .exact absurd hf' (by simp[qT])
     .exact h.one j k t t' ht ht' hf hf' he,
   λj t ht hf hd=>by rcases zN ht with ⟨_,rfl⟩|⟨_,ht⟩;exact absurd hf (by simp[qT]);exact h.clean j t ht hf hd⟩
 have clean:∀id',(∀(j:Nat) (t:zT),C.slots[j]? = some t->t.has id'=true->t.dirty=false)->∀(j:Nat) (t:zT),(C.slots.set i qT)[j]? = some t->t.has id'=true->t.dirty=false:=λid' hc j t ht hh=>by
  rcases zN ht with ⟨_,rfl⟩|⟨_,ht⟩
  .rfl
  .exact hc j t ht hh
 refine⟨inv,k.blocks,k.size,λid' r hr=>?_,λid' b hb=>?_,λid' b hb=>?_,?_⟩
 .unfold GA.drop at hr;simp only at hr;by_cases e:id'=id
  .subst e;rw[zD0] at hr;unfold zHJ at hr;obtain⟨b,hb,hr⟩:=rO.1 hr;rw[<- hr,<- (k.look id' b hb).1];exact zAM (λj t hk=>by
     rcases zN hk with ⟨_,rfl⟩|⟨hne,hk⟩
     .rfl
     .cases hb:t.has id' with
      | false=>rfl
      | true =>
       have h2:=qE.1 hb;exact absurd (h.one j i t s hk hi h2.1 hf (by rw[h2.2,hid])) hne)
  .rw[zF7 _ _ e] at hr;rw[<- k.view id' r hr];by_cases hx2:∃(j:Nat) (t:zT),C.slots[j]? = some t/\t.has id'=true
   .obtain⟨j,t,hj,ht⟩:=hx2;rw[h.vw_at hj ht];have hne:j≠i:=by
     rintro rfl;rw[hi] at hj;injection hj with hj;subst hj;have h2:=(qE.1 ht).2;omega
    exact inv.vw_at (i:=j) (s:=t) (set_other hne hj) ht
   .have hn:∀(j:Nat) (t:zT),C.slots[j]? = some t->t.has id'=false:=λj t hj=>by
     cases hb:t.has id' with
     | false=>rfl
     | true=>exact absurd ⟨j,t,hj,hb⟩ hx2
    rw[zAM hn];exact zAM (λj t hj=>by
     rcases zN hj with ⟨_,rfl⟩|⟨_,hj⟩
     .rfl
     .exact hn j t hj)
 .obtain⟨k1,k2⟩:=k.look id' b hb;exact⟨k1,clean id' k2⟩
 .obtain⟨k1,k2,k3⟩:=k.last id' b hb;exact⟨k1,k2,clean id' k3⟩
 .have hc:=k.cost;unfold CaA.cost at hc ⊢;have:=zAg (·.wet) C.slots i qT s hi;have e:qT.wet=false:=rfl;rw[e] at this;show C.disk.waiting.length+(C.slots.set i qT).countP (·.wet)<=G.cost;simp at this;split at this <;> omega
theorem zOD{C:CaA}(h:vP C){i:Nat}{s:zT}(_:C.slots[i]? = some s):vP { C with slots:=C.slots.set i qT } :=
 ⟨by simpa using h.n3,by simpa using h.n64,by simpa using h.hand,h.s256,h.s1024,h.b8,h.b256,h.lenL,h.len,h.off,h.lit,
   λj t ht hf=>by rcases zN ht with ⟨_,rfl⟩|⟨_,ht⟩;exact absurd hf (by simp[qT]);exact h.page j t ht hf,
   λj t ht=>by rcases zN ht with ⟨_,rfl⟩|⟨_,ht⟩;rfl;exact h.pins j t ht,
   λj k t t' ht ht' hf hf' he=>by
    rcases zN ht with ⟨rfl,rfl⟩|⟨hj,ht⟩
    .exact absurd hf (by simp[qT])
    .rcases zN ht' with ⟨rfl,rfl⟩|⟨hk,ht'⟩
     .exact absurd hf' (by simp[qT])
     .exact h.one j k t t' ht ht' hf hf' he,
   λj t ht hf hd=>by rcases zN ht with ⟨_,rfl⟩|⟨_,ht⟩;exact absurd hf (by simp[qT]);exact h.clean j t ht hf hd⟩
theorem zKQ{C:CaA}{G:GA}(k:zBn C G){id:Nat}(hn:∀(j:Nat) (t:zT),C.slots[j]? = some t->t.has id=false):zBn C (G.drop id):=by
 refine⟨k.blocks,k.size,λid' r hr=>?_,k.look,k.last,k.cost⟩;unfold GA.drop at hr;simp only at hr;by_cases e:id'=id
 .subst e;rw[zD0] at hr;unfold zHJ at hr;obtain⟨b,hb,hr⟩:=rO.1 hr;rw[<- hr,<- (k.look id' b hb).1];exact zAM hn
 .rw[zF7 _ _ e] at hr;exact k.view id' r hr
theorem zDR{n j:Nat}{t:zT}(h:(List.replicate n qT)[j]? = some t):t=qT:=by
 rw[r8] at h;split at h
 .injection h with h;exact h.symm
 .cases h
theorem zOE(D:yL)(n:Nat)(h3:3<=n)(h64:n<=64)(s256:256<=D.size)(s1024:D.size<=1024)(b8:8<=D.blocks)(b256:D.blocks<=256)(lenL:D.lasting.length=D.blocks)
  (len:∀id:Nat,id<D.blocks->(D.look id).length=D.size) (off:D.off=false) (lit:D.lit=false):vP ⟨D,List.replicate n qT,0⟩ :=
 ⟨by simpa using h3,by simpa using h64,by simp;omega,s256,s1024,b8,b256,lenL,len,off,lit,
  λj t ht hf=>by (rw[zDR ht] at hf;cases hf),λj t ht=>by (rw[zDR ht];rfl),
  λj k t t' ht _ hf _ _=>by (rw[zDR ht] at hf;cases hf),λj t ht hf _=>by (rw[zDR ht] at hf;cases hf)⟩
theorem zOF(n:Nat):(List.replicate n qT).countP (·.wet)=0:=by
 rw[List.countP_replicate];rfl
theorem zOG(D:yL)(n:Nat)(G:GA)(hb:D.blocks=G.blocks)(hs:D.size=G.size)(hv:∀id r,G.view id=some r->jB (D.look id) id=r)(hl:∀id b,G.look id=some b->D.look id=b)
  (ht:∀id b,G.last id=some b->D.lasting.getD id []=b/\∀p∈D.waiting,p.1≠id) (hc:D.waiting.length<=G.cost):zBn ⟨D,List.replicate n qT,0⟩ G :=
 ⟨hb,hs,λid r hr=>by rw[zAM (λj t hj=>by rw[zDR hj];rfl)];exact hv id r hr,
  λid b h=>⟨hl id b h,λj t hj hh=>by rw[zDR hj];rfl⟩,λid b h=>⟨(ht id b h).1,(ht id b h).2,λj t hj hh=>by rw[zDR hj];rfl⟩,
  by unfold CaA.cost;simp only[zOF];omega⟩
theorem zMA{b:List UInt8}{id:Int}{p:yN}(h:jB b id=.inl p):zJW p b.length/\p.id=id/\zBP p b.length=b:=by
 unfold jB at h;split at h
 .cases h
 .rename_i ho;split at h
  .cases h
  .rename_i hid;injection h with h;subst h;simp only[pV] at ho;unfold zDC at ho;simp only[uK,uQ] at ho;exact⟨⟨ho.1,zF5 b⟩,by simpa using hid,ho.2⟩
end
section
open Go.RowKit
def zCP(n size:Int):Int:=if n<1\/size<256\/1024<size then 0 else (n-1) / (size-28)+1
theorem zAq:∀a:List UInt8,Op.bytesLess a a=false
 | []=>rfl
 | x :: a=>by simp[Op.bytesLess,zAq a]
theorem zDD:∀a b c:List UInt8,Op.bytesLess a b=true->Op.bytesLess b c=true->Op.bytesLess a c=true
 | _,_,[],_,h=>by cases ‹List UInt8› <;> simp[Op.bytesLess] at h
 | _,[],_ :: _,h,_=>by simp[Op.bytesLess] at h
 | [],_ :: _,_ :: _,_,_=>rfl
 | x :: a,y :: b,z :: c,h1,h2=>by
  simp only[Op.bytesLess,rR,uK,uQ,tU] at h1 h2 ⊢;rcases h1 with h1|⟨rfl,h1⟩
  .rcases h2 with h2|⟨rfl,h2⟩
   .exact .inl (UInt8.lt_trans h1 h2)
   .exact .inl h1
  .rcases h2 with h2|⟨rfl,h2⟩
   .exact .inl h2
   .exact .inr ⟨rfl,zDD a b c h1 h2⟩
theorem zJY:∀a b:List UInt8,Op.bytesLess a b=true\/a=b\/Op.bytesLess b a=true
 | [],[]=>.inr (.inl rfl)
 | [],_ :: _=>.inl rfl
 | _ :: _,[]=>.inr (.inr rfl)
 | x :: a,y :: b=>by
  simp only[Op.bytesLess,rR,uK,uQ,tU];rcases Nat.lt_trichotomy x.toNat y.toNat with h|h|h
  .exact .inl (.inl h)
  .have e:x=y:=UInt8.toNat_inj.1 h;subst e;rcases zJY a b with h|rfl|h
   .exact .inl (.inr ⟨rfl,h⟩)
   .exact .inr (.inl rfl)
   .exact .inr (.inr (.inr ⟨rfl,h⟩))
  .exact .inr (.inr (.inl h))
theorem jJ(a:ByteArray):qJ a a=false:=zAq _
theorem vU{a b c:ByteArray}(h:qJ a b=true)(k:qJ b c=true):qJ a c=true:=zDD _ _ _ h k
theorem toList_inj{a b:ByteArray}(h:a.toList=b.toList):a=b:=by
 rw[ByteArray.toList_eq,ByteArray.toList_eq] at h;exact pN (Array.ext' h)
theorem zJZ(a b:ByteArray):qJ a b=true\/a=b\/qJ b a=true:=by
 rcases zJY a.toList b.toList with h|h|h
 .exact .inl h
 .exact .inr (.inl (toList_inj h))
 .exact .inr (.inr h)
theorem zBR{a b:ByteArray}(h:qJ a b=true):qJ b a=false:=by
 cases hb:qJ b a with
 | false=>rfl
 | true=>have:=vU h hb;rw[jJ] at this;cases this
theorem zJa{a b:ByteArray}(h:qJ a b=true):a≠b:=λe=>by rw[e,jJ] at h;cases h
theorem zJb(a b:ByteArray):leS a b=true ↔ qJ a b=true\/a=b:=by
 unfold leS qJ;rw[rR,tU];exact⟨λh=>h.imp id toList_inj,λh=>h.imp id (λe=>by rw[e])⟩
theorem zCr{a b:ByteArray}(h:qJ a b=false):qJ b a=true\/a=b:=by
 rcases zJZ a b with k|k|k
 .rw[h] at k;cases k
 .exact .inr k
 .exact .inl k
abbrev zE:=ByteArray × ByteArray
def yZ(l:List zE):Prop:=l.Pairwise λa b=>qJ a.1 b.1=true
def qL(key value:ByteArray)(over:Bool):List zE->List zE
 | []=>[(key,value)]
 | x :: l=>if qJ x.1 key then x :: qL key value over l
  else if x.1=key then (if over then (key,value) :: l else x :: l) else (key,value) :: x :: l
def zAe(key:ByteArray)(l:List zE):Option ByteArray:=(l.find? λx=>decide (x.1=key)).map (·.2)
theorem zDE{key value:ByteArray}{over:Bool}{y:zE}:∀{l:List zE},y∈qL key value over l->y=(key,value)\/y∈l
 | [],h=>by simp[qL] at h;exact .inl h
 | x :: l,h=>by
  unfold qL at h;split at h
  .rcases uN.1 h with rfl|h
   .exact .inr uF
   .exact (zDE h).imp id (uI _)
  .split at h
   .split at h
    .rcases uN.1 h with rfl|h
     .exact .inl rfl
     .exact .inr (uI _ h)
    .exact .inr h
   .rcases uN.1 h with rfl|h
    .exact .inl rfl
    .exact .inr h
theorem zCY{key value:ByteArray}{over:Bool}:∀{l:List zE},yZ l->yZ (qL key value over l)
 | [],_=>by unfold qL yZ;exact List.pairwise_singleton _ _
 | x :: l,h=>by
  have h2:=wV.1 h;unfold qL;by_cases h1:qJ x.1 key=true
  .rw[if_pos h1];refine wV.2 ⟨λy hy=>?_,zCY h2.2⟩;rcases zDE hy with rfl|hy
   .exact h1
   .exact h2.1 y hy
  .rw[if_neg h1];by_cases hk:x.1=key
   .rw[if_pos hk];cases over with
    | true=>exact wV.2 ⟨λy hy=>by have:=h2.1 y hy;rw[hk] at this;exact this,h2.2⟩
    | false=>exact h
   .rw[if_neg hk];have h3:qJ key x.1=true:=(zCr (by simpa using h1)).resolve_right hk;refine wV.2 ⟨λy hy=>?_,h⟩;rcases uN.1 hy with rfl|hy
    .exact h3
    .exact vU h3 (h2.1 y hy)
theorem zE2(key:ByteArray)(x:zE)(l:List zE):zAe key (x :: l)=if x.1=key then some x.2 else zAe key l:=by
 unfold zAe;rw[List.find?_cons];by_cases h:x.1=key
 .simp[h]
 .simp[h]
theorem zDS{key:ByteArray}{l:List zE}(h:∀x∈l,x.1≠key):zAe key l=none:=by
 unfold zAe;rw[List.find?_eq_none.2 (λx hx=>by simpa using h x hx)];rfl
theorem zA4(key:ByteArray)(a b:List zE):zAe key (a++b)=(zAe key a).or (zAe key b):=by
 induction a with
 | nil=>simp[zAe]
 | cons x a ih =>
  rw[wN,zE2,zE2,ih];by_cases h:x.1=key
  .rw[if_pos h,if_pos h];rfl
  .rw[if_neg h,if_neg h]
theorem zFX{key:ByteArray}{l:List zE}(h:∀x∈l,qJ x.1 key=true):zAe key l=none:=zDS (λx hx=>zJa (h x hx))
theorem zKR{key:ByteArray}{l:List zE}(h:∀x∈l,qJ key x.1=true):zAe key l=none:=zDS (λx hx e=>zJa (h x hx) e.symm)
end
section
def zBm(key value:ByteArray)(over:Bool)(l:List zE)(i:Nat)(done:Bool)(out:List zE):Prop :=
 out.length+(if done then 0 else 1)<=i+1/\out++(if done then l.drop i else qL key value over (l.drop i))=qL key value over l
section
variable {key value:ByteArray}{over:Bool}{l out:List zE}{i:Nat}{x:zE}
theorem zBm.start:zBm key value over l 0 false []:=⟨by simp,by simp⟩
theorem zEX{α:Type}{l:List α}{i:Nat}{x:α}(h:l[i]? = some x):l.drop i=x :: l.drop (i+1):=by
 obtain⟨hi,rfl⟩:=uB.1 h;exact wO hi
theorem zBm.pass(h:zBm key value over l i true out)(hx:l[i]? = some x):zBm key value over l (i+1) true (out++[x]):=by
 obtain⟨h1,h2⟩:=h;rw[zEX hx] at h2;exact⟨by simp at h1 ⊢;omega,by simpa using h2⟩
theorem zBm.lt(h:zBm key value over l i false out)(hx:l[i]? = some x)(hl:qJ x.1 key=true):zBm key value over l (i+1) false (out++[x]):=by
 obtain⟨h1,h2⟩:=h;rw[zEX hx] at h2;simp only[qL,hl] at h2;exact⟨by simp at h1 ⊢;omega,by simpa using h2⟩
theorem zBm.gt(h:zBm key value over l i false out)(hx:l[i]? = some x)(hl:qJ x.1 key=false)(hk:x.1≠key):zBm key value over l (i+1) true (out++[(key,value)]++[x]):=by
 obtain⟨h1,h2⟩:=h;rw[zEX hx] at h2;simp only[qL,hl,hk] at h2;exact⟨by simp at h1 ⊢;omega,by simpa using h2⟩
theorem zBm.eqO(h:zBm key value true l i false out)(hx:l[i]? = some x)(hk:x.1=key):zBm key value true l (i+1) true (out++[(key,value)]):=by
 obtain⟨h1,h2⟩:=h;rw[zEX hx] at h2;simp only[qL,hk,jJ] at h2;exact⟨by simp at h1 ⊢;omega,by simpa using h2⟩
theorem zBm.eqN(h:zBm key value false l i false out)(hx:l[i]? = some x)(hk:x.1=key):zBm key value false l (i+1) true (out++[x]):=by
 obtain⟨h1,h2⟩:=h;rw[zEX hx] at h2;simp only[qL,hk,jJ] at h2;exact⟨by simp at h1 ⊢;omega,by simpa using h2⟩
theorem zBm.done(h:zBm key value over l i true out)(hi:l.length<=i):out=qL key value over l:=by
 obtain⟨h1,h2⟩:=h;rw[tG hi] at h2;simpa using h2
theorem zBm.last(h:zBm key value over l i false out)(hi:l.length<=i):out++[(key,value)]=qL key value over l:=by
 obtain⟨h1,h2⟩:=h;rw[tG hi] at h2;simpa[qL] using h2
end
end
end Go.Proofs.YtchklfmggpconaaGreatDoor
