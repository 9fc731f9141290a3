import Derived.Test.YtdnbmdghmmpgcaaGreatDoorQ02
namespace Go.Proofs.YtdnbmdghmmpgcaaGreatDoor
section
structure zX where
 page:yI
 full:Bool
 dirty:Bool
 used:Bool
 pins:Nat
def qT:zX:=⟨⟨0,0,0,[]⟩,false,false,false,0⟩
structure CaA where
 disk:zS
 slots:List zX
 hand:Nat
def zX.has(s:zX)(id:Nat):Bool:=s.full && decide (s.page.id=(id:Int))
def zX.wet(s:zX):Bool:=s.full && s.dirty
def CaA.vw(C:CaA)(id:Nat):yI ⊕ (List Int × Nat) :=
 match C.slots.find? (·.has id) with
 | some s=>.inl s.page
 | none=>yV (C.disk.look id) id
def CaA.cost(C:CaA):Nat:=C.disk.waiting.length+C.slots.countP (·.wet)
def zKC(p:yI)(size:Nat):Prop:=qC p size=none/\p.gen<18446744073709551616
structure vP(C:CaA):Prop where
 n3:3<=C.slots.length
 n64:C.slots.length<=64
 hand:C.hand<C.slots.length
 s256:256<=C.disk.size
 s1024:C.disk.size<=1024
 b8:8<=C.disk.blocks
 b256:C.disk.blocks<=256
 lenL:C.disk.lasting.length=C.disk.blocks
 len:∀id:Nat,id<C.disk.blocks->(C.disk.look id).length=C.disk.size
 off:C.disk.off=false
 lit:C.disk.lit=false
 page:∀(i:Nat) (s:zX),C.slots[i]? = some s->s.full=true->0<=s.page.id/\s.page.id<C.disk.blocks/\zKC s.page C.disk.size
 pins:∀(i:Nat) (s:zX),C.slots[i]? = some s->s.pins=0
 one:∀(i j:Nat) (s t:zX),C.slots[i]? = some s->C.slots[j]? = some t->s.full=true->t.full=true->s.page.id=t.page.id->i=j
 clean:∀(i:Nat) (s:zX),C.slots[i]? = some s->s.full=true->s.dirty=false->yV (C.disk.look s.page.id.toNat) s.page.id=.inl s.page
theorem qB{s:zX}{id:Nat}:s.has id=true ↔ s.full=true/\s.page.id=(id:Int):=by simp[zX.has]
theorem vP.vw_at{C:CaA}(h:vP C){i:Nat}{s:zX}{id:Nat}(hi:C.slots[i]? = some s)(hs:s.has id=true):C.vw id=.inl s.page:=by
 unfold CaA.vw;cases hf:C.slots.find? (·.has id) with
 | none =>
  have:=List.find?_eq_none.1 hf s (wC hi);exact absurd hs this
 | some t =>
  have ht:=List.find?_some hf;obtain⟨j,hj,e⟩:=wG (List.mem_of_find?_eq_some hf);have hj2:C.slots[j]? = some t:=by rw[<- e];exact uB hj
  have h1:=qB.1 hs;have h2:=qB.1 ht;have:=h.one i j s t hi hj2 h1.1 h2.1 (by rw[h1.2,h2.2]);subst this;rw[hi] at hj2;injection hj2 with hj2;rw[hj2]
theorem zAO{C:CaA}{id:Nat}(h:∀(i:Nat) (s:zX),C.slots[i]? = some s->s.has id=false):C.vw id=yV (C.disk.look id) id:=by
 unfold CaA.vw;have:C.slots.find? (·.has id)=none:=List.find?_eq_none.2 (λs hs=>by
  obtain⟨j,hj,e⟩:=wG hs;have:=h j s (by rw[<- e];exact uB hj);rw[this];simp)
 rw[this]
structure Sim(C C':CaA):Prop where
 inv:vP C'
 blocks:C'.disk.blocks=C.disk.blocks
 size:C'.disk.size=C.disk.size
 lasting:C'.disk.lasting=C.disk.lasting
 vw:∀id:Nat,C'.vw id=C.vw id
 dirt:∀id:Nat,(∀(i:Nat) (s:zX),C.slots[i]? = some s->s.has id=true->s.dirty=false) ->
  C'.disk.look id=C.disk.look id/\(∀(i:Nat) (s:zX),C'.slots[i]? = some s->s.has id=true->s.dirty=false)/\∀p∈C'.disk.waiting,p.1=id->p∈C.disk.waiting
 cost:C'.cost<=C.cost
theorem Sim.refl{C:CaA}(h:vP C):Sim C C:=⟨h,rfl,rfl,rfl,λ_=>rfl,λ_ h=>⟨rfl,h,λ_ h _=>h⟩,uK _⟩
theorem Sim.trans{C C1 C2:CaA}(h:Sim C C1)(k:Sim C1 C2):Sim C C2 :=
 ⟨k.inv,k.blocks.trans h.blocks,k.size.trans h.size,k.lasting.trans h.lasting,λid=>(k.vw id).trans (h.vw id),
  λid hd=>by
   obtain⟨h1,h2,h3⟩:=h.dirt id hd;obtain⟨k1,k2,k3⟩:=k.dirt id h2;exact⟨k1.trans h1,k2,λp hp e=>h3 p (k3 p hp e) e⟩,uY k.cost h.cost⟩
theorem zL{α:Type}{l:List α}{i j:Nat}{x y:α}(h:(l.set i x)[j]? = some y):(j=i/\y=x)\/(j≠i/\l[j]? = some y):=by
 by_cases e:j=i
 .subst e;rw[pE] at h;simp at h;exact .inl ⟨rfl,h.2.symm⟩
 .right
  rw[wB (λe'=>e e'.symm)] at h;exact⟨e,h⟩
theorem zCM{α:Type}{l:List α}{i:Nat}{x y:α}(h:l[i]? = some y):(l.set i x)[i]? = some x:=by
 rw[wV (uC.1 h).1]
theorem set_other{α:Type}{l:List α}{i j:Nat}{x y:α}(e:j≠i)(h:l[j]? = some y):(l.set i x)[j]? = some y:=by
 rw[wB (λe'=>e e'.symm)];exact h
theorem zAr{α:Type}(f:α->Bool):∀(l:List α) (i:Nat) (x y:α),l[i]? = some y->(l.set i x).countP f+(if f y then 1 else 0)=l.countP f+(if f x then 1 else 0)
 | [],i,x,y,h=>by simp at h
 | a :: l,0,x,y,h=>by
  simp at h;subst h;simp only[pR,List.countP_cons];omega
 | a :: l,i+1,x,y,h=>by
  have:=zAr f l i x y (by simpa using h);simp only[mH,List.countP_cons];omega
theorem zK2{C:CaA}(h:vP C){i:Nat}{s:zX}(hi:C.slots[i]? = some s)(u:Bool):Sim C { C with slots:=C.slots.set i { s with used:=u } }:=by
 have hs:=(uC.1 hi).1;have inv:vP { C with slots:=C.slots.set i { s with used:=u } } :=
  ⟨by simpa using h.n3,by simpa using h.n64,by simpa using h.hand,h.s256,h.s1024,h.b8,h.b256,h.lenL,h.len,h.off,h.lit,
   λj t ht hf=>by rcases zL ht with ⟨_,rfl⟩|⟨_,ht⟩;exact h.page i s hi hf;exact h.page j t ht hf,
   λj t ht=>by rcases zL ht with ⟨_,rfl⟩|⟨_,ht⟩;exact h.pins i s hi;exact h.pins j t ht,
   λj k t t' ht ht' hf hf' he=>by
    rcases zL ht with ⟨ej,rfl⟩|⟨hj,ht⟩ <;> rcases zL ht' with ⟨ek,rfl⟩|⟨hk,ht'⟩
    .rw[ej,ek]
    .rw[ej];exact h.one i k s t' hi ht' hf hf' he
    .rw[ek];exact h.one j i t s ht hi hf hf' he
    .exact h.one j k t t' ht ht' hf hf' he,
   λj t ht hf hd=>by rcases zL ht with ⟨_,rfl⟩|⟨_,ht⟩;exact h.clean i s hi hf hd;exact h.clean j t ht hf hd⟩
 refine⟨inv,rfl,rfl,rfl,λid=>?_,λid hd=>⟨rfl,λj t ht hh=>?_,λp hp _=>hp⟩,?_⟩
 .by_cases hx:∃(j:Nat) (t:zX),C.slots[j]? = some t/\t.has id=true
  .obtain⟨j,t,hj,ht⟩:=hx;rw[h.vw_at hj ht];by_cases e:j=i
   .subst e;rw[hi] at hj;injection hj with hj;subst hj;exact inv.vw_at (i:=j) (s:={ s with used:=u }) (zCM hi) ht
   .exact inv.vw_at (i:=j) (s:=t) (set_other e hj) ht
  .have hn:∀(j:Nat) (t:zX),C.slots[j]? = some t->t.has id=false:=λj t hj=>by
    cases hb:t.has id with
    | false=>rfl
    | true=>exact absurd ⟨j,t,hj,hb⟩ hx
   rw[zAO hn];exact zAO (λj t hj=>by
    rcases zL hj with ⟨_,rfl⟩|⟨_,hj⟩
    .exact hn i s hi
    .exact hn j t hj)
 .rcases zL ht with ⟨_,rfl⟩|⟨_,ht⟩
  .exact hd i s hi hh
  .exact hd j t ht hh
 .unfold CaA.cost;have:=zAr (·.wet) C.slots i { s with used:=u } s hi;have e:({ s with used:=u }:zX).wet=s.wet:=rfl;rw[e] at this;show C.disk.waiting.length+(C.slots.set i { s with used:=u }).countP (·.wet)<=C.disk.waiting.length+C.slots.countP (·.wet);omega
theorem zPv{C:CaA}(h:vP C){k:Nat}(hk:k<C.slots.length):Sim C { C with hand:=k } :=
 ⟨⟨h.n3,h.n64,hk,h.s256,h.s1024,h.b8,h.b256,h.lenL,h.len,h.off,h.lit,h.page,h.pins,h.one,h.clean⟩,rfl,rfl,rfl,λ_=>rfl,λ_ hd=>⟨rfl,hd,λ_ hp _=>hp⟩,uK _⟩
theorem zJD{C:CaA}(h:vP C){i:Nat}{s:zX}(hi:C.slots[i]? = some s)(hw:s.wet=false):Sim C { C with slots:=C.slots.set i qT }:=by
 have inv:vP { C with slots:=C.slots.set i qT } :=
  ⟨by simpa using h.n3,by simpa using h.n64,by simpa using h.hand,h.s256,h.s1024,h.b8,h.b256,h.lenL,h.len,h.off,h.lit,
   λj t ht hf=>by rcases zL ht with ⟨_,rfl⟩|⟨_,ht⟩;exact absurd hf (by simp[qT]);exact h.page j t ht hf,
   λj t ht=>by rcases zL ht with ⟨_,rfl⟩|⟨_,ht⟩;rfl;exact h.pins j t ht,
   λj k t t' ht ht' hf hf' he=>by
    rcases zL ht with ⟨rfl,rfl⟩|⟨hj,ht⟩
    .exact absurd hf (by simp[qT])
    .rcases zL ht' with ⟨rfl,rfl⟩|⟨hk,ht'⟩
     .exact absurd hf' (by simp[qT])
     .exact h.one j k t t' ht ht' hf hf' he,
   λj t ht hf hd=>by rcases zL ht with ⟨_,rfl⟩|⟨_,ht⟩;exact absurd hf (by simp[qT]);exact h.clean j t ht hf hd⟩
 refine⟨inv,rfl,rfl,rfl,λid=>?_,λid hd=>⟨rfl,λj t ht hh=>?_,λp hp _=>hp⟩,?_⟩
 .by_cases hx:∃(j:Nat) (t:zX),C.slots[j]? = some t/\t.has id=true
  .obtain⟨j,t,hj,ht⟩:=hx;rw[h.vw_at hj ht];by_cases e:j=i
   .subst e;rw[hi] at hj;injection hj with hj;subst hj;obtain⟨hf,hid⟩:=qB.1 ht;have hd:s.dirty=false:=by simpa[zX.wet,hf] using hw
    have hc:=h.clean j s hi hf hd;rw[hid,uM] at hc;rw[<- hc];exact zAO (λk t hk=>by
     rcases zL hk with ⟨_,rfl⟩|⟨hne,hk⟩
     .rfl
     .cases hb:t.has id with
      | false=>rfl
      | true =>
       have h2:=qB.1 hb;exact absurd (h.one k j t s hk hi h2.1 hf (by rw[h2.2,hid])) hne)
   .exact inv.vw_at (i:=j) (s:=t) (set_other e hj) ht
  .have hn:∀(j:Nat) (t:zX),C.slots[j]? = some t->t.has id=false:=λj t hj=>by
    cases hb:t.has id with
    | false=>rfl
    | true=>exact absurd ⟨j,t,hj,hb⟩ hx
   rw[zAO hn];exact zAO (λj t hj=>by
    rcases zL hj with ⟨_,rfl⟩|⟨_,hj⟩
    .rfl
    .exact hn j t hj)
 .rcases zL ht with ⟨_,rfl⟩|⟨_,ht⟩
  .rfl
  .exact hd j t ht hh
 .unfold CaA.cost;have:=zAr (·.wet) C.slots i qT s hi;have e:qT.wet=false:=rfl;rw[e] at this;show C.disk.waiting.length+(C.slots.set i qT).countP (·.wet)<=C.disk.waiting.length+C.slots.countP (·.wet);simp at this;split at this <;> omega
theorem zPw{C:CaA}(h:vP C){i:Nat}{s:zX}(hi:C.slots[i]? = some s)(hs:s.full=false)(id:Nat)(hid:id<C.disk.blocks)(hno:∀(j:Nat) (t:zX),C.slots[j]? = some t->t.has id=false)(p:yI)
  (hp:yV (C.disk.look id) id=.inl p) (hpi:p.id=(id:Int)) (hok:zKC p C.disk.size):Sim C { C with slots:=C.slots.set i ⟨p,true,false,true,0⟩ }:=by
 have inv:vP { C with slots:=C.slots.set i ⟨p,true,false,true,0⟩ } :=
  ⟨by simpa using h.n3,by simpa using h.n64,by simpa using h.hand,h.s256,h.s1024,h.b8,h.b256,h.lenL,h.len,h.off,h.lit,
   λj t ht hf=>by rcases zL ht with ⟨_,rfl⟩|⟨_,ht⟩;exact⟨by simp only[hpi];omega,by simp only[hpi];exact Int.ofNat_lt.2 hid,hok⟩;exact h.page j t ht hf,
   λj t ht=>by rcases zL ht with ⟨_,rfl⟩|⟨_,ht⟩;rfl;exact h.pins j t ht,
   λj k t t' ht ht' hf hf' he=>by
    rcases zL ht with ⟨ej,rfl⟩|⟨hj,ht⟩ <;> rcases zL ht' with ⟨ek,rfl⟩|⟨hk,ht'⟩
    .rw[ej,ek]
    .have:=hno k t' ht';rw[show t'.has id=true from qB.2 ⟨hf',by rw[<- he];exact hpi⟩] at this;cases this
    .have:=hno j t ht;rw[show t.has id=true from qB.2 ⟨hf,by rw[he];exact hpi⟩] at this;cases this
    .exact h.one j k t t' ht ht' hf hf' he,
   λj t ht hf hd=>by rcases zL ht with ⟨_,rfl⟩|⟨_,ht⟩;(simp only[hpi,uM];exact hp);exact h.clean j t ht hf hd⟩
 refine⟨inv,rfl,rfl,rfl,λid'=>?_,λid' hd=>⟨rfl,λj t ht hh=>?_,λp hp _=>hp⟩,?_⟩
 .by_cases hx:∃(j:Nat) (t:zX),C.slots[j]? = some t/\t.has id'=true
  .obtain⟨j,t,hj,ht⟩:=hx;rw[h.vw_at hj ht];by_cases e:j=i
   .subst e;rw[hi] at hj;injection hj with hj;subst hj;rw[zX.has,hs] at ht;simp at ht
   .exact inv.vw_at (i:=j) (s:=t) (set_other e hj) ht
  .have hn:∀(j:Nat) (t:zX),C.slots[j]? = some t->t.has id'=false:=λj t hj=>by
    cases hb:t.has id' with
    | false=>rfl
    | true=>exact absurd ⟨j,t,hj,hb⟩ hx
   rw[zAO hn];by_cases e:id'=id
   .subst e;rw[hp];exact inv.vw_at (i:=i) (s:=⟨p,true,false,true,0⟩) (zCM hi) (qB.2 ⟨rfl,hpi⟩)
   .exact zAO (λj t hj=>by
     rcases zL hj with ⟨_,rfl⟩|⟨_,hj⟩
     .cases hb:zX.has ⟨p,true,false,true,0⟩ id' with
      | false=>rfl
      | true =>
       have:=(qB.1 hb).2;simp only[hpi] at this;omega
     .exact hn j t hj)
 .rcases zL ht with ⟨_,rfl⟩|⟨_,ht⟩
  .rfl
  .exact hd j t ht hh
 .unfold CaA.cost;have:=zAr (·.wet) C.slots i ⟨p,true,false,true,0⟩ s hi;have e:zX.wet ⟨p,true,false,true,0⟩=false:=rfl;rw[e] at this;show C.disk.waiting.length+(C.slots.set i ⟨p,true,false,true,0⟩).countP (·.wet)<=C.disk.waiting.length+C.slots.countP (·.wet);simp at this;split at this <;> omega
def zS.wrote(D:zS)(i:Nat)(b:List UInt8):zS:={ D with waiting:=D.waiting++[(i,b)],after:=RowKit.wrap64 (D.after-1),count:=RowKit.wrap64 (D.count+1) }
theorem zB8(D:zS)(i:Nat)(b:List UInt8)(j:Nat):(D.wrote i b).look j=if i=j then b else D.look j:=by
 unfold zS.look zS.wrote;simp only[zFy,zBb];by_cases e:i=j
 .simp[e]
 .simp[e]
def zBB(C:CaA)(i:Nat)(s:zX):CaA:={ C with disk:=C.disk.wrote s.page.id.toNat (zA8 s.page C.disk.size),slots:=C.slots.set i { s with dirty:=false } }
theorem zOX{C:CaA}(h:vP C){i:Nat}{s:zX}(hi:C.slots[i]? = some s)(hf:s.full=true)(hd:s.dirty=true):Sim C (zBB C i s):=by
 obtain⟨hp0,hp1,hok⟩:=h.page i s hi hf;obtain⟨id,hid⟩:∃id:Nat,s.page.id=(id:Int):=⟨s.page.id.toNat,by omega⟩;have hopen:=zEN hok.1 hok.2;have hself:s.has id=true:=qB.2 ⟨hf,hid⟩;have uniq:∀(j:Nat) (t:zX),C.slots[j]? = some t->t.has id=true->j=i:=λj t hj ht=>by
  have h2:=qB.1 ht;exact h.one j i t s hj hi h2.1 hf (by rw[h2.2,hid])
 have look2:∀j,(zBB C i s).disk.look j=if id=j then zA8 s.page C.disk.size else C.disk.look j:=λj=>by
  unfold zBB;simp only[hid,uM];exact zB8 _ _ _ _
 have inv:vP (zBB C i s) :=
  ⟨by simpa[zBB] using h.n3,by simpa[zBB] using h.n64,by simpa[zBB] using h.hand,h.s256,h.s1024,h.b8,h.b256,h.lenL,λj hj=>by rw[look2];split;(exact zAM _ _ (by have:=jE hok.1;omega));exact h.len j hj,h.off,h.lit,
   λj t ht hf=>by rcases zL ht with ⟨_,rfl⟩|⟨_,ht⟩;exact h.page i s hi hf;exact h.page j t ht hf,
   λj t ht=>by rcases zL ht with ⟨_,rfl⟩|⟨_,ht⟩;exact h.pins i s hi;exact h.pins j t ht,
   λj k t t' ht ht' hf hf' he=>by
    rcases zL ht with ⟨ej,rfl⟩|⟨hj,ht⟩ <;> rcases zL ht' with ⟨ek,rfl⟩|⟨hk,ht'⟩
    .rw[ej,ek]
    .rw[ej];exact h.one i k s t' hi ht' hf hf' he
    .rw[ek];exact h.one j i t s ht hi hf hf' he
    .exact h.one j k t t' ht ht' hf hf' he,
   λj t ht hft hdt=>by
    rw[look2];rcases zL ht with ⟨_,rfl⟩|⟨hne,ht⟩
    .rw[if_pos (by simp only[hid];omega)];exact hopen
    .obtain⟨q0,_,_⟩:=h.page j t ht hft;rw[if_neg (λe=>hne (uniq j t ht (qB.2 ⟨hft,by omega⟩)))];exact h.clean j t ht hft hdt⟩
 refine⟨inv,rfl,rfl,rfl,λid'=>?_,λid' hdd=>?_,?_⟩
 .by_cases hx:∃(j:Nat) (t:zX),C.slots[j]? = some t/\t.has id'=true
  .obtain⟨j,t,hj,ht⟩:=hx;rw[h.vw_at hj ht];by_cases e:j=i
   .subst e;rw[hi] at hj;injection hj with hj;subst hj;exact inv.vw_at (i:=j) (s:={ s with dirty:=false }) (zCM hi) ht
   .exact inv.vw_at (i:=j) (s:=t) (set_other e hj) ht
  .have hn:∀(j:Nat) (t:zX),C.slots[j]? = some t->t.has id'=false:=λj t hj=>by
    cases hb:t.has id' with
    | false=>rfl
    | true=>exact absurd ⟨j,t,hj,hb⟩ hx
   have hne:id≠id':=λe=>by have:=hn i s hi;rw[<- e,hself] at this;cases this
   rw[zAO hn,zAO (λj t hj=>by
    rcases zL hj with ⟨_,rfl⟩|⟨_,hj⟩
    .exact hn i s hi
    .exact hn j t hj),look2,if_neg hne]
 .have hne:id≠id':=λe=>by have:=hdd i s hi (e ▸ hself);rw[hd] at this;cases this
  refine⟨by rw[look2,if_neg hne],λj t ht hh=>?_,λp hp e=>?_⟩
  .rcases zL ht with ⟨_,rfl⟩|⟨_,ht⟩
   .rfl
   .exact hdd j t ht hh
  .have:p∈C.disk.waiting++[(s.page.id.toNat,zA8 s.page C.disk.size)]:=hp;rw[uN] at this;rcases this with hp|hp
   .exact hp
   .simp at hp;subst hp;simp only[hid,uM] at e;exact absurd e hne
 .unfold CaA.cost;have:=zAr (·.wet) C.slots i { s with dirty:=false } s hi;have e:zX.wet { s with dirty:=false }=false:=by simp[zX.wet]
  have e2:s.wet=true:=by simp[zX.wet,hf,hd]
  rw[e,e2] at this;have e3:(zBB C i s).disk.waiting.length=C.disk.waiting.length+1:=by simp[zBB,zS.wrote]
  rw[e3];show _+(C.slots.set i { s with dirty:=false }).countP _<=_;simp at this;omega
structure GA where
 blocks:Nat
 size:Nat
 view:Nat->Option (yI ⊕ (List Int × Nat))
 look:Nat->Option (List UInt8)
 last:Nat->Option (List UInt8)
 cost:Nat
structure zB4(C:CaA)(G:GA):Prop where
 blocks:C.disk.blocks=G.blocks
 size:C.disk.size=G.size
 view:∀id r,G.view id=some r->C.vw id=r
 look:∀id b,G.look id=some b->C.disk.look id=b/\∀(i:Nat) (s:zX),C.slots[i]? = some s->s.has id=true->s.dirty=false
 last:∀id b,G.last id=some b->C.disk.lasting.getD id []=b/\(∀p∈C.disk.waiting,p.1≠id)/\∀(i:Nat) (s:zX),C.slots[i]? = some s->s.has id=true->s.dirty=false
 cost:C.cost<=G.cost
theorem Sim.rel{C C':CaA}(h:Sim C C'){G:GA}(k:zB4 C G):zB4 C' G :=
 ⟨h.blocks.trans k.blocks,h.size.trans k.size,λid r hr=>(h.vw id).trans (k.view id r hr),
  λid b hb=>by
   obtain⟨k1,k2⟩:=k.look id b hb;obtain⟨h1,h2,_⟩:=h.dirt id k2;exact⟨h1.trans k1,h2⟩,
  λid b hb=>by
   obtain⟨k1,k2,k3⟩:=k.last id b hb;obtain⟨_,h2,h3⟩:=h.dirt id k3;exact⟨by rw[h.lasting];exact k1,λp hp e=>k2 p (h3 p hp e) e,h2⟩,
  uY h.cost k.cost⟩
def upd{α:Type}(f:Nat->α)(i:Nat)(x:α):Nat->α:=λj=>if j=i then x else f j
theorem zDW{α:Type}(f:Nat->α)(i:Nat)(x:α):upd f i x i=x:=by simp[upd]
theorem zFX{α:Type}(f:Nat->α){i j:Nat}(x:α)(h:j≠i):upd f i x j=f j:=by simp[upd,h]
def zHn(o:Option (List UInt8))(id:Nat):Option (yI ⊕ (List Int × Nat)):=o.map λb=>yV b id
def GA.put(G:GA)(p:yI):GA:={ G with view:=upd G.view p.id.toNat (some (.inl p)),look:=upd G.look p.id.toNat none,last:=upd G.last p.id.toNat none,cost:=G.cost+1 }
def GA.drop(G:GA)(id:Nat):GA:={ G with view:=upd G.view id (zHn (G.look id) id) }
def zKD(C:CaA)(i:Nat)(p:yI):CaA:={ C with slots:=C.slots.set i ⟨p,true,true,true,0⟩ }
theorem zNw{C:CaA}{G:GA}(h:vP C)(k:zB4 C G){i:Nat}{s:zX}(hi:C.slots[i]? = some s)(p:yI)(id:Nat)(hpi:p.id=(id:Int))(hid:id<C.disk.blocks)(hok:zKC p C.disk.size)
  (hx:s.has id=true\/(s.full=false/\∀(j:Nat) (t:zX),C.slots[j]? = some t->t.has id=false)):vP (zKD C i p)/\zB4 (zKD C i p) (G.put p):=by
 have hoth:∀(j:Nat) (t:zX),C.slots[j]? = some t->j≠i->t.has id=false:=λj t hj hne=>by
  rcases hx with hx|⟨_,hx⟩
  .cases hb:t.has id with
   | false=>rfl
   | true =>
    have h1:=qB.1 hx;have h2:=qB.1 hb;exact absurd (h.one j i t s hj hi h2.1 h1.1 (by rw[h1.2,h2.2])) hne
  .exact hx j t hj
 have hself:zX.has ⟨p,true,true,true,0⟩ id=true:=qB.2 ⟨rfl,hpi⟩;have inv:vP (zKD C i p) :=
  ⟨by simpa[zKD] using h.n3,by simpa[zKD] using h.n64,by simpa[zKD] using h.hand,h.s256,h.s1024,h.b8,h.b256,h.lenL,h.len,h.off,h.lit,
   λj t ht hf=>by rcases zL ht with ⟨_,rfl⟩|⟨_,ht⟩;exact⟨by simp only[hpi];omega,by simp only[hpi];exact Int.ofNat_lt.2 hid,hok⟩;exact h.page j t ht hf,
   λj t ht=>by rcases zL ht with ⟨_,rfl⟩|⟨_,ht⟩;rfl;exact h.pins j t ht,
   λj k t t' ht ht' hf hf' he=>by
    rcases zL ht with ⟨ej,rfl⟩|⟨hj,ht⟩ <;> rcases zL ht' with ⟨ek,rfl⟩|⟨hk,ht'⟩
    .rw[ej,ek]
    .have:=hoth k t' ht' hk;rw[show t'.has id=true from qB.2 ⟨hf',by rw[<- he];exact hpi⟩] at this;cases this
    .have:=hoth j t ht hj;rw[show t.has id=true from qB.2 ⟨hf,by rw[he];exact hpi⟩] at this;cases this
    .exact h.one j k t t' ht ht' hf hf' he,
   λj t ht hf hd=>by rcases zL ht with ⟨_,rfl⟩|⟨_,ht⟩;cases hd;exact h.clean j t ht hf hd⟩
 have hidn:p.id.toNat=id:=by omega
 have clean:∀id',id'≠id->(∀(j:Nat) (t:zX),C.slots[j]? = some t->t.has id'=true->t.dirty=false)->∀(j:Nat) (t:zX),(zKD C i p).slots[j]? = some t->t.has id'=true->t.dirty=false:=λid' hne hc j t ht hh=>by
  rcases zL ht with ⟨_,rfl⟩|⟨_,ht⟩
  .have:=(qB.1 hh).2;simp only[hpi] at this;omega
  .exact hc j t ht hh
 refine⟨inv,k.blocks,k.size,λid' r hr=>?_,λid' b hb=>?_,λid' b hb=>?_,?_⟩
 .unfold GA.put at hr;simp only[hidn] at hr;by_cases e:id'=id
  .subst e;rw[zDW] at hr;injection hr with hr;rw[<- hr];exact inv.vw_at (i:=i) (s:=⟨p,true,true,true,0⟩) (zCM hi) hself
  .rw[zFX _ _ e] at hr;rw[<- k.view id' r hr];by_cases hx2:∃(j:Nat) (t:zX),C.slots[j]? = some t/\t.has id'=true
   .obtain⟨j,t,hj,ht⟩:=hx2;rw[h.vw_at hj ht];have hne:j≠i:=by
     rintro rfl;rw[hi] at hj;injection hj with hj;subst hj;rcases hx with hx|⟨hx,_⟩
     .have h1:=(qB.1 hx).2;have h2:=(qB.1 ht).2;omega
     .rw[zX.has,hx] at ht;simp at ht
    exact inv.vw_at (i:=j) (s:=t) (set_other hne hj) ht
   .have hn:∀(j:Nat) (t:zX),C.slots[j]? = some t->t.has id'=false:=λj t hj=>by
     cases hb:t.has id' with
     | false=>rfl
     | true=>exact absurd ⟨j,t,hj,hb⟩ hx2
    rw[zAO hn];exact zAO (λj t hj=>by
     rcases zL hj with ⟨_,rfl⟩|⟨_,hj⟩
     .cases hb:zX.has ⟨p,true,true,true,0⟩ id' with
      | false=>rfl
      | true =>
       have:=(qB.1 hb).2;simp only[hpi] at this;omega
     .exact hn j t hj)
 .unfold GA.put at hb;simp only[hidn] at hb;by_cases e:id'=id
  .subst e;rw[zDW] at hb;cases hb
  .rw[zFX _ _ e] at hb;obtain⟨k1,k2⟩:=k.look id' b hb;exact⟨k1,clean id' e k2⟩
 .unfold GA.put at hb;simp only[hidn] at hb;by_cases e:id'=id
  .subst e;rw[zDW] at hb;cases hb
  .rw[zFX _ _ e] at hb;obtain⟨k1,k2,k3⟩:=k.last id' b hb;exact⟨k1,k2,clean id' e k3⟩
 .have hc:=k.cost;unfold CaA.cost at hc ⊢;have:=zAr (·.wet) C.slots i ⟨p,true,true,true,0⟩ s hi;have e:zX.wet ⟨p,true,true,true,0⟩=true:=rfl;rw[e] at this;show C.disk.waiting.length+(C.slots.set i ⟨p,true,true,true,0⟩).countP (·.wet)<=G.cost+1;simp at this;split at this <;> omega
theorem zRP{C:CaA}(h:vP C){i:Nat}{s:zX}(hi:C.slots[i]? = some s)(p:yI)(id:Nat)(hpi:p.id=(id:Int))(hid:id<C.disk.blocks)(hok:zKC p C.disk.size)
  (hx:s.has id=true\/(s.full=false/\∀(j:Nat) (t:zX),C.slots[j]? = some t->t.has id=false)):vP (zKD C i p) :=
 (zNw (G:=⟨C.disk.blocks,C.disk.size,λ_=>none,λ_=>none,λ_=>none,C.cost⟩) h ⟨rfl,rfl,(λ_ _ h=>by cases h),(λ_ _ h=>by cases h),(λ_ _ h=>by cases h),uK _⟩ hi p id hpi hid hok hx).1
theorem zPx{C:CaA}{G:GA}(h:vP C)(k:zB4 C G){i:Nat}{s:zX}{id:Nat}(hi:C.slots[i]? = some s)(hs:s.has id=true):vP { C with slots:=C.slots.set i qT }/\zB4 { C with slots:=C.slots.set i qT } (G.drop id):=by
 obtain⟨hf,hid⟩:=qB.1 hs;have inv:vP { C with slots:=C.slots.set i qT } :=
  ⟨by simpa using h.n3,by simpa using h.n64,by simpa using h.hand,h.s256,h.s1024,h.b8,h.b256,h.lenL,h.len,h.off,h.lit,
   λj t ht hf=>by rcases zL ht with ⟨_,rfl⟩|⟨_,ht⟩;exact absurd hf (by simp[qT]);exact h.page j t ht hf,
   λj t ht=>by rcases zL ht with ⟨_,rfl⟩|⟨_,ht⟩;rfl;exact h.pins j t ht,
   λj k t t' ht ht' hf hf' he=>by
    rcases zL ht with ⟨rfl,rfl⟩|⟨hj,ht⟩
    .exact absurd hf (by simp[qT])
    .rcases zL ht' with ⟨rfl,rfl⟩|⟨hk,ht'⟩
     .exact absurd hf' (by simp[qT])
     .exact h.one j k t t' ht ht' hf hf' he,
   λj t ht hf hd=>by rcases zL ht with ⟨_,rfl⟩|⟨_,ht⟩;exact absurd hf (by simp[qT]);exact h.clean j t ht hf hd⟩
 have clean:∀id',(∀(j:Nat) (t:zX),C.slots[j]? = some t->t.has id'=true->t.dirty=false)->∀(j:Nat) (t:zX),(C.slots.set i qT)[j]? = some t->t.has id'=true->t.dirty=false:=λid' hc j t ht hh=>by
  rcases zL ht with ⟨_,rfl⟩|⟨_,ht⟩
  .rfl
  .exact hc j t ht hh
 refine⟨inv,k.blocks,k.size,λid' r hr=>?_,λid' b hb=>?_,λid' b hb=>?_,?_⟩
 .unfold GA.drop at hr;simp only at hr;by_cases e:id'=id
  .subst e;rw[zDW] at hr;unfold zHn at hr;obtain⟨b,hb,hr⟩:=tX.1 hr;rw[<- hr,<- (k.look id' b hb).1];exact zAO (λj t hk=>by
     rcases zL hk with ⟨_,rfl⟩|⟨hne,hk⟩
     .rfl
     .cases hb:t.has id' with
      | false=>rfl
      | true =>
       have h2:=qB.1 hb;exact absurd (h.one j i t s hk hi h2.1 hf (by rw[h2.2,hid])) hne)
  .rw[zFX _ _ e] at hr;rw[<- k.view id' r hr];by_cases hx2:∃(j:Nat) (t:zX),C.slots[j]? = some t/\t.has id'=true
   .obtain⟨j,t,hj,ht⟩:=hx2;rw[h.vw_at hj ht];have hne:j≠i:=by
     rintro rfl;rw[hi] at hj;injection hj with hj;subst hj;have h2:=(qB.1 ht).2;omega
    exact inv.vw_at (i:=j) (s:=t) (set_other hne hj) ht
   .have hn:∀(j:Nat) (t:zX),C.slots[j]? = some t->t.has id'=false:=λj t hj=>by
     cases hb:t.has id' with
     | false=>rfl
     | true=>exact absurd ⟨j,t,hj,hb⟩ hx2
    rw[zAO hn];exact zAO (λj t hj=>by
     rcases zL hj with ⟨_,rfl⟩|⟨_,hj⟩
     .rfl
     .exact hn j t hj)
 .obtain⟨k1,k2⟩:=k.look id' b hb;exact⟨k1,clean id' k2⟩
 .obtain⟨k1,k2,k3⟩:=k.last id' b hb;exact⟨k1,k2,clean id' k3⟩
 .have hc:=k.cost;unfold CaA.cost at hc ⊢;have:=zAr (·.wet) C.slots i qT s hi;have e:qT.wet=false:=rfl;rw[e] at this;show C.disk.waiting.length+(C.slots.set i qT).countP (·.wet)<=G.cost;simp at this;split at this <;> omega
theorem zOY{C:CaA}(h:vP C){i:Nat}{s:zX}(_:C.slots[i]? = some s):vP { C with slots:=C.slots.set i qT } :=
 ⟨by simpa using h.n3,by simpa using h.n64,by simpa using h.hand,h.s256,h.s1024,h.b8,h.b256,h.lenL,h.len,h.off,h.lit,
   λj t ht hf=>by rcases zL ht with ⟨_,rfl⟩|⟨_,ht⟩;exact absurd hf (by simp[qT]);exact h.page j t ht hf,
   λj t ht=>by rcases zL ht with ⟨_,rfl⟩|⟨_,ht⟩;rfl;exact h.pins j t ht,
   λj k t t' ht ht' hf hf' he=>by
    rcases zL ht with ⟨rfl,rfl⟩|⟨hj,ht⟩
    .exact absurd hf (by simp[qT])
    .rcases zL ht' with ⟨rfl,rfl⟩|⟨hk,ht'⟩
     .exact absurd hf' (by simp[qT])
     .exact h.one j k t t' ht ht' hf hf' he,
   λj t ht hf hd=>by rcases zL ht with ⟨_,rfl⟩|⟨_,ht⟩;exact absurd hf (by simp[qT]);exact h.clean j t ht hf hd⟩
theorem zK3{C:CaA}{G:GA}(k:zB4 C G){id:Nat}(hn:∀(j:Nat) (t:zX),C.slots[j]? = some t->t.has id=false):zB4 C (G.drop id):=by
 refine⟨k.blocks,k.size,λid' r hr=>?_,k.look,k.last,k.cost⟩;unfold GA.drop at hr;simp only at hr;by_cases e:id'=id
 .subst e;rw[zDW] at hr;unfold zHn at hr;obtain⟨b,hb,hr⟩:=tX.1 hr;rw[<- hr,<- (k.look id' b hb).1];exact zAO hn
 .rw[zFX _ _ e] at hr;exact k.view id' r hr
theorem zDm{n j:Nat}{t:zX}(h:(List.replicate n qT)[j]? = some t):t=qT:=by
 rw[tW] at h;split at h
 .injection h with h;exact h.symm
 .cases h
theorem zOZ(D:zS)(n:Nat)(h3:3<=n)(h64:n<=64)(s256:256<=D.size)(s1024:D.size<=1024)(b8:8<=D.blocks)(b256:D.blocks<=256)(lenL:D.lasting.length=D.blocks)
  (len:∀id:Nat,id<D.blocks->(D.look id).length=D.size) (off:D.off=false) (lit:D.lit=false):vP ⟨D,List.replicate n qT,0⟩ :=
 ⟨by simpa using h3,by simpa using h64,by simp;omega,s256,s1024,b8,b256,lenL,len,off,lit,
  λj t ht hf=>by (rw[zDm ht] at hf;cases hf),λj t ht=>by (rw[zDm ht];rfl),
  λj k t t' ht _ hf _ _=>by (rw[zDm ht] at hf;cases hf),λj t ht hf _=>by (rw[zDm ht] at hf;cases hf)⟩
theorem zOa(n:Nat):(List.replicate n qT).countP (·.wet)=0:=by
 rw[List.countP_replicate];rfl
theorem zOb(D:zS)(n:Nat)(G:GA)(hb:D.blocks=G.blocks)(hs:D.size=G.size)(hv:∀id r,G.view id=some r->yV (D.look id) id=r)(hl:∀id b,G.look id=some b->D.look id=b)
  (ht:∀id b,G.last id=some b->D.lasting.getD id []=b/\∀p∈D.waiting,p.1≠id) (hc:D.waiting.length<=G.cost):zB4 ⟨D,List.replicate n qT,0⟩ G :=
 ⟨hb,hs,λid r hr=>by rw[zAO (λj t hj=>by rw[zDm hj];rfl)];exact hv id r hr,
  λid b h=>⟨hl id b h,λj t hj hh=>by rw[zDm hj];rfl⟩,λid b h=>⟨(ht id b h).1,(ht id b h).2,λj t hj hh=>by rw[zDm hj];rfl⟩,
  by unfold CaA.cost;simp only[zOa];omega⟩
theorem zMj{b:List UInt8}{id:Int}{p:yI}(h:yV b id=.inl p):zKC p b.length/\p.id=id/\zA8 p b.length=b:=by
 unfold yV at h;split at h
 .cases h
 .rename_i ho;split at h
  .cases h
  .rename_i hid;injection h with h;subst h;simp only[pU] at ho;unfold zDV at ho;simp only[uL,uQ] at ho;exact⟨⟨ho.1,zE1 b⟩,by simpa using hid,ho.2⟩
theorem zK4{D:zS}{id:Nat}(hl:D.lasting.length=D.blocks)(hw:∀p∈D.waiting,p.1<D.blocks)(hid:D.blocks<=id):D.look id=[]:=by
 unfold zS.look;rw[zDk id _ (λp hp e=>by have:=hw p hp;omega)];simp[List.getD,wP (by omega:D.lasting.length<=id)]
theorem zCH:∀(w:List (Nat × List UInt8)) (l:List (List UInt8)),(settle l w).length=l.length
 | [],_=>rfl
 | (i,b) :: w,l=>by rw[settle,zCH w,tD]
theorem zHo:∀(w:List (Nat × List UInt8)) (l:List (List UInt8)) (i:Nat),i<l.length->(settle l w).getD i []=(zBb i w).getD (l.getD i [])
 | [],l,i,_=>rfl
 | (j,b) :: w,l,i,hi=>by
  rw[settle,zHo w (l.set j b) i (by rw[tD];exact hi),zBb];cases zBb i w with
  | some c=>rfl
  | none =>
   by_cases e:j=i
   .subst e;simp[List.getD,hi]
   .simp[List.getD,wB e,e]
def zS.flushed(D:zS):zS:={ D with lasting:=settle D.lasting D.waiting,waiting:=[],after:=RowKit.wrap64 (D.after-1),count:=RowKit.wrap64 (D.count+1) }
theorem zKE{D:zS}(hl:D.lasting.length=D.blocks)(hw:∀p∈D.waiting,p.1<D.blocks)(id:Nat):D.flushed.look id=D.look id:=by
 by_cases hid:id<D.blocks
 .show (zBb id []).getD ((settle D.lasting D.waiting).getD id [])=_;rw[zHo _ _ _ (by omega)];rfl
 .rw[zK4 hl hw (by omega),zK4 (D:=D.flushed) (by show (settle _ _).length=_;rw[zCH];exact hl) (λp hp=>by cases hp) (by show D.blocks<=id;omega)]
end
section
open Go.RowKit
def zCt(n size:Int):Int:=if n<1\/size<256\/1024<size then 0 else (n-1) / (size-28)+1
end
section
structure jM where
 gen:Nat
 blocks:Nat
 size:Nat
 root:Nat
 keys:Nat
 deriving DecidableEq
def zC6(s:jM):Bool:=decide (8<=s.blocks) && decide (s.blocks<=256) && decide (256<=s.size) && decide (s.size<=1024) && decide (s.keys<=2147483647) && decide (s.root=0\/2<=s.root/\s.root<s.blocks) && decide (s.root=0->s.keys=0)
theorem zB9(s:jM):zC6 s=true ↔ 8<=s.blocks/\s.blocks<=256/\256<=s.size/\s.size<=1024/\s.keys<=2147483647/\(s.root=0\/2<=s.root/\s.root<s.blocks)/\(s.root=0->s.keys=0):=by
 unfold zC6;simp only[uL,uQ];exact⟨λ⟨⟨⟨⟨⟨⟨a,b⟩,c⟩,d⟩,e⟩,f⟩,g⟩=>⟨a,b,c,d,e,f,g⟩,λ⟨a,b,c,d,e,f,g⟩=>⟨⟨⟨⟨⟨⟨a,b⟩,c⟩,d⟩,e⟩,f⟩,g⟩⟩
def vT(s:jM):List UInt8:=zU 4 s.blocks++zU 4 s.size++zU 4 s.root++zU 4 s.keys++zU 8 s.gen
def zCX(s:jM)(i:Nat):yI:=⟨1,i,s.gen,vT s⟩
def zAQ(s:jM)(i:Nat):List UInt8:=zA8 (zCX s i) s.size
theorem zBq(s:jM):(vT s).length=24:=by simp[vT,zC]
theorem zG8{s:jM}(h:zC6 s=true){i:Nat}(hi:i<2):qC (zCX s i) s.size=none:=by
 obtain⟨a,b,c,d,e,f,g⟩:=(zB9 s).1 h;have hb:=zBq s;have h1:zAe s.size=true:=by unfold zAe;simp;omega
 have h2:zCr (zCX s i).kind=true:=by show zCr 1=true;decide
 unfold qC;rw[h1,h2,if_neg (by simp),if_neg];simp only[zCX];rw[hb];simp;omega
theorem zBc{s:jM}(h:zC6 s=true)(i:Nat):(zAQ s i).length=s.size:=by
 obtain⟨a,b,c,d,e,f,g⟩:=(zB9 s).1 h;exact zAM _ _ (by simp only[zCX,zBq];omega)
def zEQ(p:yI):jM:=⟨p.gen,zZ p.body 0 4,zZ p.body 4 4,zZ p.body 8 4,zZ p.body 12 4⟩
def zGV(p:yI):Bool:=decide (p.body.length=24) && decide (zZ p.body 16 8=p.gen) && decide (p.kind=1) && zC6 (zEQ p)
def zBC(l:List UInt8)(i:Nat):Option jM:=match yV l i with
 | .inl p=>if zGV p=true/\(zEQ p).size=l.length then some (zEQ p) else none
 | .inr _=>none
theorem zSH(s:jM)(h:s.blocks<4294967296):zZ (vT s) 0 4=s.blocks:=by
 have e:vT s=[]++(zU 4 s.blocks++(zU 4 s.size++zU 4 s.root++zU 4 s.keys++zU 8 s.gen)):=by simp only[vT,uJ,wL]
 rw[e];exact yU [] _ 4 s.blocks 0 rfl h
theorem zSI(s:jM)(h:s.size<4294967296):zZ (vT s) 4 4=s.size:=by
 have e:vT s=zU 4 s.blocks++(zU 4 s.size++(zU 4 s.root++zU 4 s.keys++zU 8 s.gen)):=by simp only[vT,uJ]
 rw[e];exact yU _ _ 4 s.size 4 (zC _ _) h
theorem zSJ(s:jM)(h:s.root<4294967296):zZ (vT s) 8 4=s.root:=by
 have e:vT s=(zU 4 s.blocks++zU 4 s.size)++(zU 4 s.root++(zU 4 s.keys++zU 8 s.gen)):=by simp only[vT,uJ]
 rw[e];exact yU _ _ 4 s.root 8 (by rw[uA,zC,zC]) h
theorem zRQ(s:jM)(h:s.keys<4294967296):zZ (vT s) 12 4=s.keys:=by
 have e:vT s=(zU 4 s.blocks++zU 4 s.size++zU 4 s.root)++(zU 4 s.keys++zU 8 s.gen):=by simp only[vT,uJ]
 rw[e];exact yU _ _ 4 s.keys 12 (by rw[uA,uA,zC,zC,zC]) h
theorem zRR(s:jM)(h:s.gen<18446744073709551616):zZ (vT s) 16 8=s.gen:=by
 have e:vT s=(zU 4 s.blocks++zU 4 s.size++zU 4 s.root++zU 4 s.keys)++(zU 8 s.gen++[]):=by simp only[vT,uJ,wH]
 rw[e];exact yU _ _ 8 s.gen 16 (by rw[uA,uA,uA,zC,zC,zC,zC]) h
theorem zPy{s:jM}(h:zC6 s=true)(hg:s.gen<18446744073709551616)(i:Nat):zEQ (zCX s i)=s/\zGV (zCX s i)=true:=by
 obtain⟨a,b,c,d,e,f, -⟩:=(zB9 s).1 h;have hb:(zCX s i).body=vT s:=rfl;have hs:zEQ (zCX s i)=s:=by
  unfold zEQ;rw[hb,zSH s (by omega),zSI s (by omega),zSJ s (by omega),zRQ s (by omega)];rfl
 refine⟨hs,?_⟩;unfold zGV;rw[hs,h,hb,zRR s hg,zBq];show (decide (24=24) && decide (s.gen=s.gen) && decide ((1:Int)=1) && true)=true;rw[uT rfl,uT rfl,uT rfl];rfl
theorem zJE{s:jM}(h:zC6 s=true)(hg:s.gen<18446744073709551616){i:Nat}(hi:i<2):zBC (zAQ s i) i=some s:=by
 obtain⟨h1,h2⟩:=zPy h hg i;unfold zBC;have:=zEN (p:=zCX s i) (size:=s.size) (zG8 h hi) hg;rw[show yV (zAQ s i) (i:Int)=.inl (zCX s i) from this];simp only;rw[h1,zBc h,if_pos ⟨h2,rfl⟩]
theorem zPz{l:List UInt8}{i:Nat}{s:jM}(h:zBC l i=some s):zC6 s=true/\s.gen<18446744073709551616/\s.size=l.length:=by
 unfold zBC at h;split at h
 .rename_i p hp;split at h
  .rename_i hc;injection h with h;subst h;have hk:=hc.1;unfold zGV at hk;simp only[uL] at hk;refine⟨hk.2,?_,hc.2⟩;unfold yV at hp;split at hp
   .cases hp
   .split at hp
    .cases hp
    .injection hp with hp;subst hp;exact zE1 l
  .cases h
 .cases h
structure zBQ where
 gen:Nat
 blocks:Nat
 used:List Nat
 deriving DecidableEq
def zB5(m:zBQ):Bool:=decide (8<=m.blocks) && decide (m.blocks<=256) && decide (6<=m.used.length) && decide (m.used.take 6=[0,1,2,3,4,5]) && decide (m.used.Pairwise (· < ·)) && decide (∀n∈m.used,n<m.blocks)
theorem zAL(m:zBQ):zB5 m=true ↔ 8<=m.blocks/\m.blocks<=256/\6<=m.used.length/\m.used.take 6=[0,1,2,3,4,5]/\m.used.Pairwise (· < ·)/\∀n∈m.used,n<m.blocks:=by
 unfold zB5;simp only[uL,uQ];exact⟨λ⟨⟨⟨⟨⟨a,b⟩,c⟩,d⟩,e⟩,f⟩=>⟨a,b,c,d,e,f⟩,λ⟨a,b,c,d,e,f⟩=>⟨⟨⟨⟨⟨a,b⟩,c⟩,d⟩,e⟩,f⟩⟩
def orB(l:List UInt8)(q:Nat):List UInt8:=l.set (q / 8) (UInt8.ofNat ((l.getD (q / 8) 0).toNat ||| 2 ^ (q % 8)))
theorem zFY(l:List UInt8)(q:Nat):(orB l q).length=l.length:=by simp[orB]
theorem zRS(l:List UInt8)(q p:Nat)(hq:q<8 * l.length):zBp (orB l q) p=(zBp l p || decide (p=q)):=by
 unfold zBp orB;by_cases hj:p / 8=q / 8
 .have hl:q / 8<l.length:=by omega
  rw[hj];have e1:(l.set (q / 8) (UInt8.ofNat ((l.getD (q / 8) 0).toNat ||| 2 ^ (q % 8)))).getD (q / 8) 0=UInt8.ofNat ((l.getD (q / 8) 0).toNat ||| 2 ^ (q % 8)):=by
   simp[List.getD,hl]
  have h2:(2:Nat) ^ (q % 8)<2 ^ 8:=Nat.pow_lt_pow_right (by omega) (by omega);rw[e1,UInt8.toNat_ofNat',rG (Nat.or_lt_two_pow (n:=8) (l.getD (q / 8) 0).toNat_lt h2),Nat.testBit_or];congr 1
  rw[Nat.testBit_two_pow];simp;omega
 .have e1:(l.set (q / 8) (UInt8.ofNat ((l.getD (q / 8) 0).toNat ||| 2 ^ (q % 8)))).getD (p / 8) 0=l.getD (p / 8) 0:=by
   simp only[List.getD];rw[wB (λe=>hj e.symm)]
  rw[e1];have:p≠q:=λe=>hj (by rw[e])
  simp[this]
def zCY(blocks:Nat)(used:List Nat):List UInt8:=used.foldl orB (List.replicate ((blocks+7) / 8) 0)
theorem zEF:∀(u:List Nat) (l:List UInt8),(u.foldl orB l).length=l.length
 | [],_=>rfl
 | q :: u,l=>by rw[nO,zEF u,zFY]
theorem zF1:∀(u:List Nat) (l:List UInt8) (p:Nat),(∀q∈u,q<8 * l.length)->zBp (u.foldl orB l) p=(zBp l p || decide (p∈u))
 | [],l,p,_=>by simp
 | q :: u,l,p,h=>by
  rw[nO,zF1 u (orB l q) p (λx hx=>by rw[zFY];exact h x (uH _ hx)),zRS l q p (h q uG),Bool.or_assoc];congr 1
  by_cases e:p=q <;> simp[e]
theorem zKG(b:Nat)(u:List Nat):(zCY b u).length=(b+7) / 8:=by rw[zCY,zEF,pC]
theorem zK5(n p:Nat):zBp (List.replicate n 0) p=false:=by
 unfold zBp;have:(List.replicate n (0:UInt8)).getD (p / 8) 0=0:=by
  rw[tL,tW];split <;> rfl
 rw[this];simp
theorem zOc{b:Nat}{u:List Nat}(h:∀n∈u,n<b)(p:Nat):zBp (zCY b u) p=decide (p∈u):=by
 rw[zCY,zF1 u _ p (λq hq=>by rw[pC];have:=h q hq;omega),zK5,Bool.false_or]
def qY(m:zBQ):List UInt8:=zU 4 m.blocks++zU 4 m.used.length++zCY m.blocks m.used
def zB6(m:zBQ)(i:Nat):yI:=⟨5,i,m.gen,qY m⟩
def qL(m:zBQ)(i size:Nat):List UInt8:=zA8 (zB6 m i) size
def place(gen k:Nat):Nat:=2+2 * (gen % 2)+k
def zBR(gen i:Nat):Bool:=decide (i=place gen 0) || decide (i=place gen 1)
theorem zBD(m:zBQ):(qY m).length=8+(m.blocks+7) / 8:=by
 simp only[qY,uA,zC,zKG]
theorem zG9{m:zBQ}(h:zB5 m=true){i size:Nat}(hi:i<6)(h1:256<=size)(h2:size<=1024):qC (zB6 m i) size=none:=by
 obtain⟨a,b,c,d,e,f⟩:=(zAL m).1 h;have hb:=zBD m;have h1':zAe size=true:=by unfold zAe;simp;omega
 have h2':zCr (zB6 m i).kind=true:=by show zCr 5=true;decide
 unfold qC;rw[h1',h2',if_neg (by simp),if_neg];simp only[zB6];rw[hb];simp;omega
theorem zAR{m:zBQ}(h:zB5 m=true)(i:Nat){size:Nat}(h1:256<=size):(qL m i size).length=size:=by
 obtain⟨a,b,c,d,e,f⟩:=(zAL m).1 h;exact zAM _ _ (by simp only[zB6,zBD];omega)
def zHA(p:yI):zBQ :=
 if p.body.length<4\/256<zZ p.body 0 4 then ⟨0,0,[]⟩
 else ⟨p.gen,zZ p.body 0 4,(List.range (zZ p.body 0 4)).filter λi=>decide (8+i / 8<p.body.length) && (p.body.getD (8+i / 8) 0).toNat.testBit (i % 8)⟩
def zKH(b:List UInt8)(n:Nat):List Nat:=(List.range n).filter λi=>decide (8+i / 8<b.length) && (b.getD (8+i / 8) 0).toNat.testBit (i % 8)
theorem zJF(p:yI)(h1:4<=p.body.length)(h2:zZ p.body 0 4<=256):zHA p=⟨p.gen,zZ p.body 0 4,zKH p.body (zZ p.body 0 4)⟩:=by
 unfold zHA;rw[if_neg (by omega)];rfl
theorem zHp:∀(u:List Nat) (b:Nat),u.Pairwise (· < ·)->(∀n∈u,n<b)->(List.range b).filter (λi=>decide (i∈u))=u:=by
 intro u b hs hb;have hp:((List.range b).filter (λi=>decide (i∈u))).Pairwise (· < ·):=List.Pairwise.filter _ List.pairwise_lt_range;refine List.Perm.eq_of_pairwise (le:=λa b=>a<b) (λa b _ _ h1 h2=>by omega) hp hs ?_;refine (List.perm_ext_iff_of_nodup (hp.imp (λh e=>by omega)) (hs.imp (λh e=>by omega))).2 (λx=>?_);simp only[List.mem_filter,List.mem_range,uQ];exact⟨λh=>h.2,λh=>⟨hb x h,h⟩⟩
theorem zP0{m:zBQ}(h:zB5 m=true)(i:Nat):zHA (zB6 m i)=m:=by
 obtain⟨a,b,c,d,e,f⟩:=(zAL m).1 h;have hlen:m.used.length<=256:=by
  have h1:m.used=(List.range m.blocks).filter (λi=>decide (i∈m.used)):=(zHp _ _ e f).symm;have:=List.length_filter_le (λi=>decide (i∈m.used)) (List.range m.blocks);rw[<- h1,List.length_range] at this;omega
 have n0:zZ (qY m) 0 4=m.blocks:=by
  have:qY m=[]++(zU 4 m.blocks++(zU 4 m.used.length++zCY m.blocks m.used)):=by simp[qY]
  rw[this,yU [] _ 4 m.blocks 0 rfl (by have:(256:Nat) ^ 4=4294967296:=(by decide);omega)]
 have hl:=zBD m;rw[zJF (zB6 m i) (by show 4<=(qY m).length;omega) (by show zZ (qY m) 0 4<=256;omega)];show (⟨m.gen,zZ (qY m) 0 4,zKH (qY m) (zZ (qY m) 0 4)⟩:zBQ)=m;rw[n0];have hu:zKH (qY m) m.blocks=m.used:=by
  unfold zKH;refine Eq.trans ?_ (zHp _ _ e f);refine List.filter_congr (λx hx=>?_);have hxb:=List.mem_range.1 hx;have hb:=zOc f x;unfold zBp at hb;have hg:(qY m).getD (8+x / 8) 0=(zCY m.blocks m.used).getD (x / 8) 0:=by
   rw[tL,tL,qY,wI (by simp[zC])];simp[zC]
  rw[hg,hb,hl,uT (by omega),nK]
 rw[hu]
end
section
open Go.RowKit
theorem zJG:∀a:List UInt8,Op.bytesLess a a=false
 | []=>rfl
 | x :: a=>by simp[Op.bytesLess,zJG a]
theorem zK6:∀a b c:List UInt8,Op.bytesLess a b=true->Op.bytesLess b c=true->Op.bytesLess a c=true
 | _,_,[],_,h=>by cases ‹List UInt8› <;> simp[Op.bytesLess] at h
 | _,[],_ :: _,h,_=>by simp[Op.bytesLess] at h
 | [],_ :: _,_ :: _,_,_=>rfl
 | x :: a,y :: b,z :: c,h1,h2=>by
  simp only[Op.bytesLess,pA,uL,uQ,rI] at h1 h2 ⊢;rcases h1 with h1|⟨rfl,h1⟩
  .rcases h2 with h2|⟨rfl,h2⟩
   .exact .inl (UInt8.lt_trans h1 h2)
   .exact .inl h1
  .rcases h2 with h2|⟨rfl,h2⟩
   .exact .inl h2
   .exact .inr ⟨rfl,zK6 a b c h1 h2⟩
theorem zP1:∀a b:List UInt8,Op.bytesLess a b=true\/a=b\/Op.bytesLess b a=true
 | [],[]=>.inr (.inl rfl)
 | [],_ :: _=>.inl rfl
 | _ :: _,[]=>.inr (.inr rfl)
 | x :: a,y :: b=>by
  simp only[Op.bytesLess,pA,uL,uQ,rI];rcases Nat.lt_trichotomy x.toNat y.toNat with h|h|h
  .exact .inl (.inl h)
  .have e:x=y:=UInt8.toNat_inj.1 h;subst e;rcases zP1 a b with h|rfl|h
   .exact .inl (.inr ⟨rfl,h⟩)
   .exact .inr (.inl rfl)
   .exact .inr (.inr (.inr ⟨rfl,h⟩))
  .exact .inr (.inr (.inl h))
theorem zAs(a:ByteArray):yX a a=false:=zJG _
theorem qH{a b c:ByteArray}(h:yX a b=true)(k:yX b c=true):yX a c=true:=zK6 _ _ _ h k
theorem toList_inj{a b:ByteArray}(h:a.toList=b.toList):a=b:=by
 rw[ByteArray.toList_eq,ByteArray.toList_eq] at h;exact pN (Array.ext' h)
theorem zF2(a b:ByteArray):yX a b=true\/a=b\/yX b a=true:=by
 rcases zP1 a.toList b.toList with h|h|h
 .exact .inl h
 .exact .inr (.inl (toList_inj h))
 .exact .inr (.inr h)
theorem zBS{a b:ByteArray}(h:yX a b=true):yX b a=false:=by
 cases hb:yX b a with
 | false=>rfl
 | true=>have:=qH h hb;rw[zAs] at this;cases this
theorem zER{a b:ByteArray}(h:yX a b=true):a≠b:=λe=>by rw[e,zAs] at h;cases h
theorem zNx(a b:ByteArray):leS a b=true ↔ yX a b=true\/a=b:=by
 unfold leS yX;rw[pA,rI];exact⟨λh=>h.imp id toList_inj,λh=>h.imp id (λe=>by rw[e])⟩
theorem zDn{a b:ByteArray}(h:yX a b=false):yX b a=true\/a=b:=by
 rcases zF2 a b with k|k|k
 .rw[h] at k;cases k
 .exact .inr k
 .exact .inl k
abbrev zD:=ByteArray × ByteArray
def yK(l:List zD):Prop:=l.Pairwise λa b=>yX a.1 b.1=true
def qF(key value:ByteArray)(over:Bool):List zD->List zD
 | []=>[(key,value)]
 | x :: l=>if yX x.1 key then x :: qF key value over l
  else if x.1=key then (if over then (key,value) :: l else x :: l) else (key,value) :: x :: l
def zAf(key:ByteArray)(l:List zD):Option ByteArray:=(l.find? λx=>decide (x.1=key)).map (·.2)
theorem zE3{key value:ByteArray}{over:Bool}{y:zD}:∀{l:List zD},y∈qF key value over l->y=(key,value)\/y∈l
 | [],h=>by simp[qF] at h;exact .inl h
 | x :: l,h=>by
  unfold qF at h;split at h
  .rcases uO.1 h with rfl|h
   .exact .inr uG
   .exact (zE3 h).imp id (uH _)
  .split at h
   .split at h
    .rcases uO.1 h with rfl|h
     .exact .inl rfl
     .exact .inr (uH _ h)
    .exact .inr h
   .rcases uO.1 h with rfl|h
    .exact .inl rfl
    .exact .inr h
theorem zCi{key value:ByteArray}{over:Bool}:∀{l:List zD},yK l->yK (qF key value over l)
 | [],_=>by unfold qF yK;exact List.pairwise_singleton _ _
 | x :: l,h=>by
  have h2:=wR.1 h;unfold qF;by_cases h1:yX x.1 key=true
  .rw[if_pos h1];refine wR.2 ⟨λy hy=>?_,zCi h2.2⟩;rcases zE3 hy with rfl|hy
   .exact h1
   .exact h2.1 y hy
  .rw[if_neg h1];by_cases hk:x.1=key
   .rw[if_pos hk];cases over with
    | true=>exact wR.2 ⟨λy hy=>by have:=h2.1 y hy;rw[hk] at this;exact this,h2.2⟩
    | false=>exact h
   .rw[if_neg hk];have h3:yX key x.1=true:=(zDn (by simpa using h1)).resolve_right hk;refine wR.2 ⟨λy hy=>?_,h⟩;rcases uO.1 hy with rfl|hy
    .exact h3
    .exact qH h3 (h2.1 y hy)
theorem zFZ(key:ByteArray)(x:zD)(l:List zD):zAf key (x :: l)=if x.1=key then some x.2 else zAf key l:=by
 unfold zAf;rw[List.find?_cons];by_cases h:x.1=key
 .simp[h]
 .simp[h]
theorem zDo{key:ByteArray}{l:List zD}(h:∀x∈l,x.1≠key):zAf key l=none:=by
 unfold zAf;rw[List.find?_eq_none.2 (λx hx=>by simpa using h x hx)];rfl
theorem zBT(key:ByteArray)(a b:List zD):zAf key (a++b)=(zAf key a).or (zAf key b):=by
 induction a with
 | nil=>simp[zAf]
 | cons x a ih =>
  rw[wW,zFZ,zFZ,ih];by_cases h:x.1=key
  .rw[if_pos h,if_pos h];rfl
  .rw[if_neg h,if_neg h]
theorem zES{key:ByteArray}{l:List zD}(h:∀x∈l,yX x.1 key=true):zAf key l=none:=zDo (λx hx=>zER (h x hx))
theorem zK7{key:ByteArray}{l:List zD}(h:∀x∈l,yX key x.1=true):zAf key l=none:=zDo (λx hx e=>zER (h x hx) e.symm)
end
end Go.Proofs.YtdnbmdghmmpgcaaGreatDoor
