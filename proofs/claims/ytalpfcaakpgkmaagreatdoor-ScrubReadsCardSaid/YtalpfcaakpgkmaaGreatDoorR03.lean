import Derived.Test.YtalpfcaakpgkmaaGreatDoorR02
namespace Go.Proofs.YtalpfcaakpgkmaaGreatDoor
section
structure zRO where
 disk:Nat
 low:Nat
 blk:Nat->List UInt8
abbrev zQ:=Inhabited zRO
def vL[zQ]:Nat:=(default:zRO).low
def zFM[zQ]:Nat:=(default:zRO).disk
def zCY[zQ]:Nat->List UInt8:=(default:zRO).blk
abbrev zFf[zQ](i:Nat)(b:List UInt8):zQ:=⟨⟨zFM,vL,λj=>if j=i then b else zCY j⟩⟩
structure zU where
 page:zY
 full:Bool
 dirty:Bool
 used:Bool
 pins:Nat
def qM:zU:=⟨⟨0,0,0,[]⟩,false,false,false,0⟩
structure qL where
 disk:zJ
 slots:List zU
 hand:Nat
def zU.has(s:zU)(id:Nat):Bool:=s.full && decide (s.page.id=(id:Int))
def zU.wet(s:zU):Bool:=s.full && s.dirty
def qL.vw(C:qL)(id:Nat):zY ⊕ (List Int × Nat) :=
 match C.slots.find? (·.has id) with
 | some s=>.inl s.page
 | none=>zV (C.disk.look id) id
def qL.cost(C:qL):Nat:=C.disk.waiting.length+C.slots.countP (·.wet)
def zKJ(p:zY)(size:Nat):Prop:=qE p size=none/\p.gen<18446744073709551616
structure yJ[zQ](C:qL):Prop where
 n3:3<=C.slots.length
 n64:C.slots.length<=64
 hand:C.hand<C.slots.length
 s256:256<=C.disk.size
 s1024:C.disk.size<=1024
 b8:8<=C.disk.blocks
 b256:C.disk.blocks<=256
 lenL:C.disk.lasting.length=C.disk.blocks
 len:∀id:Nat,id<C.disk.blocks->(C.disk.look id).length=C.disk.size
 off:C.disk.off=false
 lit:C.disk.lit=false
 page:∀(i:Nat) (s:zU),C.slots[i]? = some s->s.full=true->(vL:Int)<=s.page.id/\s.page.id<C.disk.blocks/\zKJ s.page C.disk.size
 pins:∀(i:Nat) (s:zU),C.slots[i]? = some s->s.pins=0
 one:∀(i j:Nat) (s t:zU),C.slots[i]? = some s->C.slots[j]? = some t->s.full=true->t.full=true->s.page.id=t.page.id->i=j
 clean:∀(i:Nat) (s:zU),C.slots[i]? = some s->s.full=true->s.dirty=false->zV (C.disk.look s.page.id.toNat) s.page.id=.inl s.page
theorem yR{s:zU}{id:Nat}:s.has id=true ↔ s.full=true/\s.page.id=(id:Int):=by simp[zU.has]
theorem yJ.vw_at[zQ]{C:qL}(h:yJ C){i:Nat}{s:zU}{id:Nat}(hi:C.slots[i]? = some s)(hs:s.has id=true):C.vw id=.inl s.page:=by
 unfold qL.vw;cases hf:C.slots.find? (·.has id) with
 | none =>
  have:=rY.1 hf s (uU hi);exact absurd hs this
 | some t =>
  have ht:=List.find?_some hf;obtain⟨j,hj,e⟩:=wF (List.mem_of_find?_eq_some hf);have A7:C.slots[j]? = some t:=by rw[<- e];exact uB hj
  have h1:=yR.1 hs;have h2:=yR.1 ht;have:=h.one i j s t hi A7 h1.1 h2.1 (by rw[h1.2,h2.2]);subst this;rw[hi] at A7;injection A7 with A7;rw[A7]
theorem zAW{C:qL}{id:Nat}(h:∀(i:Nat) (s:zU),C.slots[i]? = some s->s.has id=false):C.vw id=zV (C.disk.look id) id:=by
 unfold qL.vw;have:C.slots.find? (·.has id)=none:=rY.2 (λs hs=>by
  obtain⟨j,hj,e⟩:=wF hs;have:=h j s (by rw[<- e];exact uB hj);rw[this];simp)
 rw[this]
structure Sim[zQ](C C':qL):Prop where
 inv:yJ C'
 blocks:C'.disk.blocks=C.disk.blocks
 size:C'.disk.size=C.disk.size
 lasting:C'.disk.lasting=C.disk.lasting
 vw:∀id:Nat,C'.vw id=C.vw id
 dirt:∀id:Nat,(∀(i:Nat) (s:zU),C.slots[i]? = some s->s.has id=true->s.dirty=false) ->
  C'.disk.look id=C.disk.look id/\(∀(i:Nat) (s:zU),C'.slots[i]? = some s->s.has id=true->s.dirty=false)/\∀p∈C'.disk.waiting,p.1=id->p∈C.disk.waiting
 cost:C'.cost<=C.cost
theorem Sim.refl[zQ]{C:qL}(h:yJ C):Sim C C:=⟨h,rfl,rfl,rfl,λ_=>rfl,λ_ h=>⟨rfl,h,λ_ h _=>h⟩,uD _⟩
theorem Sim.trans[zQ]{C C1 C2:qL}(h:Sim C C1)(k:Sim C1 C2):Sim C C2 :=
 ⟨k.inv,k.blocks.trans h.blocks,k.size.trans h.size,k.lasting.trans h.lasting,λid=>(k.vw id).trans (h.vw id),
  λid hd=>by
   obtain⟨h1,h2,h3⟩:=h.dirt id hd;obtain⟨k1,k2,k3⟩:=k.dirt id h2;exact⟨k1.trans h1,k2,λp hp e=>h3 p (k3 p hp e) e⟩,uP k.cost h.cost⟩
theorem zK{α:Type}{l:List α}{i j:Nat}{x y:α}(h:(l.set i x)[j]? = some y):(j=i/\y=x)\/(j≠i/\l[j]? = some y):=by
 by_cases e:j=i
 .subst e;rw[pT] at h;simp at h;exact .inl ⟨rfl,h.2.symm⟩
 .right
  rw[uS (λe'=>e e'.symm)] at h;exact⟨e,h⟩
theorem zCZ{α:Type}{l:List α}{i:Nat}{x y:α}(h:l[i]? = some y):(l.set i x)[i]? = some x:=by
 rw[wH (uA.1 h).1]
theorem set_other{α:Type}{l:List α}{i j:Nat}{x y:α}(e:j≠i)(h:l[j]? = some y):(l.set i x)[j]? = some y:=by
 rw[uS (λe'=>e e'.symm)];exact h
theorem zAv{α:Type}(f:α->Bool):∀(l:List α) (i:Nat) (x y:α),l[i]? = some y->(l.set i x).countP f+(if f y then 1 else 0)=l.countP f+(if f x then 1 else 0)
 | [],i,x,y,h=>by simp at h
 | a :: l,0,x,y,h=>by
  simp at h;subst h;simp only[List.set_cons_zero,List.countP_cons];omega
 | a :: l,i+1,x,y,h=>by
  have:=zAv f l i x y (by simpa using h);simp only[List.set_cons_succ,List.countP_cons];omega
theorem zLA[zQ]{C:qL}(h:yJ C){i:Nat}{s:zU}(hi:C.slots[i]? = some s)(u:Bool):Sim C { C with slots:=C.slots.set i { s with used:=u } }:=by
 have hs:=(uA.1 hi).1;have inv:yJ { C with slots:=C.slots.set i { s with used:=u } } :=
  ⟨by simpa using h.n3,by simpa using h.n64,by simpa using h.hand,h.s256,h.s1024,h.b8,h.b256,h.lenL,h.len,h.off,h.lit,
   λj t ht hf=>by rcases zK ht with ⟨_,rfl⟩|⟨_,ht⟩;exact h.page i s hi hf;exact h.page j t ht hf,
   λj t ht=>by rcases zK ht with ⟨_,rfl⟩|⟨_,ht⟩;exact h.pins i s hi;exact h.pins j t ht,
   λj k t t' ht ht' hf hf' he=>by
    rcases zK ht with ⟨ej,rfl⟩|⟨hj,ht⟩ <;> rcases zK ht' with ⟨ek,rfl⟩|⟨hk,ht'⟩
    .rw[ej,ek]
    .rw[ej];exact h.one i k s t' hi ht' hf hf' he
    .rw[ek];exact h.one j i t s ht hi hf hf' he
    .exact h.one j k t t' ht ht' hf hf' he,
   λj t ht hf hd=>by rcases zK ht with ⟨_,rfl⟩|⟨_,ht⟩;exact h.clean i s hi hf hd;exact h.clean j t ht hf hd⟩
 refine⟨inv,rfl,rfl,rfl,λid=>?_,λid hd=>⟨rfl,λj t ht hh=>?_,λp hp _=>hp⟩,?_⟩
 .by_cases hx:∃(j:Nat) (t:zU),C.slots[j]? = some t/\t.has id=true
  .obtain⟨j,t,hj,ht⟩:=hx;rw[h.vw_at hj ht];by_cases e:j=i
   .subst e;rw[hi] at hj;injection hj with hj;subst hj;exact inv.vw_at (i:=j) (s:={ s with used:=u }) (zCZ hi) ht
   .exact inv.vw_at (i:=j) (s:=t) (set_other e hj) ht
  .have hn:∀(j:Nat) (t:zU),C.slots[j]? = some t->t.has id=false:=λj t hj=>by
    cases hb:t.has id with
    | false=>rfl
    | true=>exact absurd ⟨j,t,hj,hb⟩ hx
   rw[zAW hn];exact zAW (λj t hj=>by
    rcases zK hj with ⟨_,rfl⟩|⟨_,hj⟩
    .exact hn i s hi
    .exact hn j t hj)
 .rcases zK ht with ⟨_,rfl⟩|⟨_,ht⟩
  .exact hd i s hi hh
  .exact hd j t ht hh
 .unfold qL.cost;have:=zAv (·.wet) C.slots i { s with used:=u } s hi;have e:({ s with used:=u }:zU).wet=s.wet:=rfl;rw[e] at this;show C.disk.waiting.length+(C.slots.set i { s with used:=u }).countP (·.wet)<=C.disk.waiting.length+C.slots.countP (·.wet);omega
theorem zPx[zQ]{C:qL}(h:yJ C){k:Nat}(hk:k<C.slots.length):Sim C { C with hand:=k } :=
 ⟨⟨h.n3,h.n64,hk,h.s256,h.s1024,h.b8,h.b256,h.lenL,h.len,h.off,h.lit,h.page,h.pins,h.one,h.clean⟩,rfl,rfl,rfl,λ_=>rfl,λ_ hd=>⟨rfl,hd,λ_ hp _=>hp⟩,uD _⟩
theorem zJO[zQ]{C:qL}(h:yJ C){i:Nat}{s:zU}(hi:C.slots[i]? = some s)(hw:s.wet=false):Sim C { C with slots:=C.slots.set i qM }:=by
 have inv:yJ { C with slots:=C.slots.set i qM } :=
  ⟨by simpa using h.n3,by simpa using h.n64,by simpa using h.hand,h.s256,h.s1024,h.b8,h.b256,h.lenL,h.len,h.off,h.lit,
   λj t ht hf=>by rcases zK ht with ⟨_,rfl⟩|⟨_,ht⟩;exact absurd hf (by simp[qM]);exact h.page j t ht hf,
   λj t ht=>by rcases zK ht with ⟨_,rfl⟩|⟨_,ht⟩;rfl;exact h.pins j t ht,
   λj k t t' ht ht' hf hf' he=>by
    rcases zK ht with ⟨rfl,rfl⟩|⟨hj,ht⟩
    .exact absurd hf (by simp[qM])
    .rcases zK ht' with ⟨rfl,rfl⟩|⟨hk,ht'⟩
     .exact absurd hf' (by simp[qM])
     .exact h.one j k t t' ht ht' hf hf' he,
   λj t ht hf hd=>by rcases zK ht with ⟨_,rfl⟩|⟨_,ht⟩;exact absurd hf (by simp[qM]);exact h.clean j t ht hf hd⟩
 refine⟨inv,rfl,rfl,rfl,λid=>?_,λid hd=>⟨rfl,λj t ht hh=>?_,λp hp _=>hp⟩,?_⟩
 .by_cases hx:∃(j:Nat) (t:zU),C.slots[j]? = some t/\t.has id=true
  .obtain⟨j,t,hj,ht⟩:=hx;rw[h.vw_at hj ht];by_cases e:j=i
   .subst e;rw[hi] at hj;injection hj with hj;subst hj;obtain⟨hf,hid⟩:=yR.1 ht;have hd:s.dirty=false:=by simpa[zU.wet,hf] using hw
    have hc:=h.clean j s hi hf hd;rw[hid,uH] at hc;rw[<- hc];exact zAW (λk t hk=>by
     rcases zK hk with ⟨_,rfl⟩|⟨A0,hk⟩
     .rfl
     .cases hb:t.has id with
      | false=>rfl
      | true =>
       have h2:=yR.1 hb;exact absurd (h.one k j t s hk hi h2.1 hf (by rw[h2.2,hid])) A0)
   .exact inv.vw_at (i:=j) (s:=t) (set_other e hj) ht
  .have hn:∀(j:Nat) (t:zU),C.slots[j]? = some t->t.has id=false:=λj t hj=>by
    cases hb:t.has id with
    | false=>rfl
    | true=>exact absurd ⟨j,t,hj,hb⟩ hx
   rw[zAW hn];exact zAW (λj t hj=>by
    rcases zK hj with ⟨_,rfl⟩|⟨_,hj⟩
    .rfl
    .exact hn j t hj)
 .rcases zK ht with ⟨_,rfl⟩|⟨_,ht⟩
  .rfl
  .exact hd j t ht hh
 .unfold qL.cost;have:=zAv (·.wet) C.slots i qM s hi;have e:qM.wet=false:=rfl;rw[e] at this;show C.disk.waiting.length+(C.slots.set i qM).countP (·.wet)<=C.disk.waiting.length+C.slots.countP (·.wet);simp at this;split at this <;> omega
theorem zPy[zQ]{C:qL}(h:yJ C){i:Nat}{s:zU}(hi:C.slots[i]? = some s)(hs:s.full=false)(id:Nat)(hid:id<C.disk.blocks)(A8:vL<=id)(Ad:∀(j:Nat) (t:zU),C.slots[j]? = some t->t.has id=false)(p:zY)
  (hp:zV (C.disk.look id) id=.inl p) (A1:p.id=(id:Int)) (A3:zKJ p C.disk.size):Sim C { C with slots:=C.slots.set i ⟨p,true,false,true,0⟩ }:=by
 have inv:yJ { C with slots:=C.slots.set i ⟨p,true,false,true,0⟩ } :=
  ⟨by simpa using h.n3,by simpa using h.n64,by simpa using h.hand,h.s256,h.s1024,h.b8,h.b256,h.lenL,h.len,h.off,h.lit,
   λj t ht hf=>by rcases zK ht with ⟨_,rfl⟩|⟨_,ht⟩;exact⟨by simp only[A1];omega,by simp only[A1];exact Int.ofNat_lt.2 hid,A3⟩;exact h.page j t ht hf,
   λj t ht=>by rcases zK ht with ⟨_,rfl⟩|⟨_,ht⟩;rfl;exact h.pins j t ht,
   λj k t t' ht ht' hf hf' he=>by
    rcases zK ht with ⟨ej,rfl⟩|⟨hj,ht⟩ <;> rcases zK ht' with ⟨ek,rfl⟩|⟨hk,ht'⟩
    .rw[ej,ek]
    .have:=Ad k t' ht';rw[show t'.has id=true from yR.2 ⟨hf',by rw[<- he];exact A1⟩] at this;cases this
    .have:=Ad j t ht;rw[show t.has id=true from yR.2 ⟨hf,by rw[he];exact A1⟩] at this;cases this
    .exact h.one j k t t' ht ht' hf hf' he,
   λj t ht hf hd=>by rcases zK ht with ⟨_,rfl⟩|⟨_,ht⟩;(simp only[A1,uH];exact hp);exact h.clean j t ht hf hd⟩
 refine⟨inv,rfl,rfl,rfl,λid'=>?_,λid' hd=>⟨rfl,λj t ht hh=>?_,λp hp _=>hp⟩,?_⟩
 .by_cases hx:∃(j:Nat) (t:zU),C.slots[j]? = some t/\t.has id'=true
  .obtain⟨j,t,hj,ht⟩:=hx;rw[h.vw_at hj ht];by_cases e:j=i
   .subst e;rw[hi] at hj;injection hj with hj;subst hj;rw[zU.has,hs] at ht;simp at ht
   .exact inv.vw_at (i:=j) (s:=t) (set_other e hj) ht
  .have hn:∀(j:Nat) (t:zU),C.slots[j]? = some t->t.has id'=false:=λj t hj=>by
    cases hb:t.has id' with
    | false=>rfl
    | true=>exact absurd ⟨j,t,hj,hb⟩ hx
   rw[zAW hn];by_cases e:id'=id
   .subst e;rw[hp];exact inv.vw_at (i:=i) (s:=⟨p,true,false,true,0⟩) (zCZ hi) (yR.2 ⟨rfl,A1⟩)
   .exact zAW (λj t hj=>by
     rcases zK hj with ⟨_,rfl⟩|⟨_,hj⟩
     .cases hb:zU.has ⟨p,true,false,true,0⟩ id' with
      | false=>rfl
      | true =>
       have:=(yR.1 hb).2;simp only[A1] at this;omega
     .exact hn j t hj)
 .rcases zK ht with ⟨_,rfl⟩|⟨_,ht⟩
  .rfl
  .exact hd j t ht hh
 .unfold qL.cost;have:=zAv (·.wet) C.slots i ⟨p,true,false,true,0⟩ s hi;have e:zU.wet ⟨p,true,false,true,0⟩=false:=rfl;rw[e] at this;show C.disk.waiting.length+(C.slots.set i ⟨p,true,false,true,0⟩).countP (·.wet)<=C.disk.waiting.length+C.slots.countP (·.wet);simp at this;split at this <;> omega
def zJ.wrote(D:zJ)(i:Nat)(b:List UInt8):zJ:={ D with waiting:=D.waiting++[(i,b)],after:=RowKit.wrap64 (D.after-1),count:=RowKit.wrap64 (D.count+1) }
theorem jV(D:zJ)(i:Nat)(b:List UInt8)(j:Nat):(D.wrote i b).look j=if i=j then b else D.look j:=by
 unfold zJ.look zJ.wrote;simp only[zFw,zBh];by_cases e:i=j
 .simp[e]
 .simp[e]
def zBP(C:qL)(i:Nat)(s:zU):qL:={ C with disk:=C.disk.wrote s.page.id.toNat (jX s.page C.disk.size),slots:=C.slots.set i { s with dirty:=false } }
theorem zOa[zQ]{C:qL}(h:yJ C){i:Nat}{s:zU}(hi:C.slots[i]? = some s)(hf:s.full=true)(hd:s.dirty=true):Sim C (zBP C i s):=by
 obtain⟨Al,Am,A3⟩:=h.page i s hi hf;obtain⟨id,hid⟩:∃id:Nat,s.page.id=(id:Int):=⟨s.page.id.toNat,by omega⟩;have A9:=zCX A3.1 A3.2;have A2:s.has id=true:=yR.2 ⟨hf,hid⟩;have uniq:∀(j:Nat) (t:zU),C.slots[j]? = some t->t.has id=true->j=i:=λj t hj ht=>by
  have h2:=yR.1 ht;exact h.one j i t s hj hi h2.1 hf (by rw[h2.2,hid])
 have look2:∀j,(zBP C i s).disk.look j=if id=j then jX s.page C.disk.size else C.disk.look j:=λj=>by
  unfold zBP;simp only[hid,uH];exact jV _ _ _ _
 have inv:yJ (zBP C i s) :=
  ⟨by simpa[zBP] using h.n3,by simpa[zBP] using h.n64,by simpa[zBP] using h.hand,h.s256,h.s1024,h.b8,h.b256,h.lenL,λj hj=>by rw[look2];split;(exact zAE _ _ (by have:=qO A3.1;omega));exact h.len j hj,h.off,h.lit,
   λj t ht hf=>by rcases zK ht with ⟨_,rfl⟩|⟨_,ht⟩;exact h.page i s hi hf;exact h.page j t ht hf,
   λj t ht=>by rcases zK ht with ⟨_,rfl⟩|⟨_,ht⟩;exact h.pins i s hi;exact h.pins j t ht,
   λj k t t' ht ht' hf hf' he=>by
    rcases zK ht with ⟨ej,rfl⟩|⟨hj,ht⟩ <;> rcases zK ht' with ⟨ek,rfl⟩|⟨hk,ht'⟩
    .rw[ej,ek]
    .rw[ej];exact h.one i k s t' hi ht' hf hf' he
    .rw[ek];exact h.one j i t s ht hi hf hf' he
    .exact h.one j k t t' ht ht' hf hf' he,
   λj t ht Aa Ai=>by
    rw[look2];rcases zK ht with ⟨_,rfl⟩|⟨A0,ht⟩
    .rw[if_pos (by simp only[hid];omega)];exact A9
    .obtain⟨q0,_,_⟩:=h.page j t ht Aa;rw[if_neg (λe=>A0 (uniq j t ht (yR.2 ⟨Aa,by omega⟩)))];exact h.clean j t ht Aa Ai⟩
 refine⟨inv,rfl,rfl,rfl,λid'=>?_,λid' Ae=>?_,?_⟩
 .by_cases hx:∃(j:Nat) (t:zU),C.slots[j]? = some t/\t.has id'=true
  .obtain⟨j,t,hj,ht⟩:=hx;rw[h.vw_at hj ht];by_cases e:j=i
   .subst e;rw[hi] at hj;injection hj with hj;subst hj;exact inv.vw_at (i:=j) (s:={ s with dirty:=false }) (zCZ hi) ht
   .exact inv.vw_at (i:=j) (s:=t) (set_other e hj) ht
  .have hn:∀(j:Nat) (t:zU),C.slots[j]? = some t->t.has id'=false:=λj t hj=>by
    cases hb:t.has id' with
    | false=>rfl
    | true=>exact absurd ⟨j,t,hj,hb⟩ hx
   have A0:id≠id':=λe=>by have:=hn i s hi;rw[<- e,A2] at this;cases this
   rw[zAW hn,zAW (λj t hj=>by
    rcases zK hj with ⟨_,rfl⟩|⟨_,hj⟩
    .exact hn i s hi
    .exact hn j t hj),look2,if_neg A0]
 .have A0:id≠id':=λe=>by have:=Ae i s hi (e ▸ A2);rw[hd] at this;cases this
  refine⟨by rw[look2,if_neg A0],λj t ht hh=>?_,λp hp e=>?_⟩
  .rcases zK ht with ⟨_,rfl⟩|⟨_,ht⟩
   .rfl
   .exact Ae j t ht hh
  .have:p∈C.disk.waiting++[(s.page.id.toNat,jX s.page C.disk.size)]:=hp;rw[uM] at this;rcases this with hp|hp
   .exact hp
   .simp at hp;subst hp;simp only[hid,uH] at e;exact absurd e A0
 .unfold qL.cost;have:=zAv (·.wet) C.slots i { s with dirty:=false } s hi;have e:zU.wet { s with dirty:=false }=false:=by simp[zU.wet]
  have e2:s.wet=true:=by simp[zU.wet,hf,hd]
  rw[e,e2] at this;have e3:(zBP C i s).disk.waiting.length=C.disk.waiting.length+1:=by simp[zBP,zJ.wrote]
  rw[e3];show _+(C.slots.set i { s with dirty:=false }).countP _<=_;simp at this;omega
structure GA where
 blocks:Nat
 size:Nat
 view:Nat->Option (zY ⊕ (List Int × Nat))
 look:Nat->Option (List UInt8)
 last:Nat->Option (List UInt8)
 cost:Nat
structure qZ[zQ](C:qL)(G:GA):Prop where
 blocks:C.disk.blocks=G.blocks
 size:C.disk.size=G.size
 view:∀id r,G.view id=some r->C.vw id=r
 look:∀id b,(G.look id=some b\/(id<vL/\b=zCY id))->C.disk.look id=b/\∀(i:Nat) (s:zU),C.slots[i]? = some s->s.has id=true->s.dirty=false
 last:∀id b,G.last id=some b->C.disk.lasting.getD id []=b/\(∀p∈C.disk.waiting,p.1≠id)/\∀(i:Nat) (s:zU),C.slots[i]? = some s->s.has id=true->s.dirty=false
 cost:C.cost<=G.cost
 low:∀id,id<vL->G.view id=none/\G.look id=none/\G.last id=none
theorem Sim.rel[zQ]{C C':qL}(h:Sim C C'){G:GA}(k:qZ C G):qZ C' G :=
 ⟨h.blocks.trans k.blocks,h.size.trans k.size,λid r hr=>(h.vw id).trans (k.view id r hr),
  λid b hb=>by
   obtain⟨k1,k2⟩:=k.look id b hb;obtain⟨h1,h2,_⟩:=h.dirt id k2;exact⟨h1.trans k1,h2⟩,
  λid b hb=>by
   obtain⟨k1,k2,k3⟩:=k.last id b hb;obtain⟨_,h2,h3⟩:=h.dirt id k3;exact⟨by rw[h.lasting];exact k1,λp hp e=>k2 p (h3 p hp e) e,h2⟩,
  uP h.cost k.cost,k.low⟩
def upd{α:Type}(f:Nat->α)(i:Nat)(x:α):Nat->α:=λj=>if j=i then x else f j
theorem zDt{α:Type}(f:Nat->α)(i:Nat)(x:α):upd f i x i=x:=by simp[upd]
theorem zDk{α:Type}(f:Nat->α){i j:Nat}(x:α)(h:j≠i):upd f i x j=f j:=by simp[upd,h]
def zHt(o:Option (List UInt8))(id:Nat):Option (zY ⊕ (List Int × Nat)):=o.map λb=>zV b id
def GA.put(G:GA)(p:zY):GA:={ G with view:=upd G.view p.id.toNat (some (.inl p)),look:=upd G.look p.id.toNat none,last:=upd G.last p.id.toNat none,cost:=G.cost+1 }
def GA.drop(G:GA)(id:Nat):GA:={ G with view:=upd G.view id (zHt (G.look id) id) }
def GA.flushC(G:GA):GA:={ G with look:=λid=>match G.view id with|some (.inl p)=>some (jX p G.size)|_=>G.look id }
def GA.flushD(G:GA):GA:={ G with last:=G.look }
def zKK(C:qL)(i:Nat)(p:zY):qL:={ C with slots:=C.slots.set i ⟨p,true,true,true,0⟩ }
theorem zNy[zQ]{C:qL}(h:yJ C){i:Nat}{s:zU}(hi:C.slots[i]? = some s)(p:zY)(id:Nat)(A1:p.id=(id:Int))(hid:id<C.disk.blocks)(A8:vL<=id)(A3:zKJ p C.disk.size)
  (hx:s.has id=true\/(s.full=false/\∀(j:Nat) (t:zU),C.slots[j]? = some t->t.has id=false)):yJ (zKK C i p):=by
 have A5:∀(j:Nat) (t:zU),C.slots[j]? = some t->j≠i->t.has id=false:=λj t hj A0=>by
  rcases hx with hx|⟨_,hx⟩
  .cases hb:t.has id with
   | false=>rfl
   | true =>
    have h1:=yR.1 hx;have h2:=yR.1 hb;exact absurd (h.one j i t s hj hi h2.1 h1.1 (by rw[h1.2,h2.2])) A0
  .exact hx j t hj
 exact⟨by simpa[zKK] using h.n3,by simpa[zKK] using h.n64,by simpa[zKK] using h.hand,h.s256,h.s1024,h.b8,h.b256,h.lenL,h.len,h.off,h.lit,
   λj t ht hf=>by rcases zK ht with ⟨_,rfl⟩|⟨_,ht⟩;exact⟨by simp only[A1];omega,by simp only[A1];exact Int.ofNat_lt.2 hid,A3⟩;exact h.page j t ht hf,
   λj t ht=>by rcases zK ht with ⟨_,rfl⟩|⟨_,ht⟩;rfl;exact h.pins j t ht,
   λj k t t' ht ht' hf hf' he=>by
    rcases zK ht with ⟨ej,rfl⟩|⟨hj,ht⟩ <;> rcases zK ht' with ⟨ek,rfl⟩|⟨hk,ht'⟩
    .rw[ej,ek]
    .have:=A5 k t' ht' hk;rw[show t'.has id=true from yR.2 ⟨hf',by rw[<- he];exact A1⟩] at this;cases this
    .have:=A5 j t ht hj;rw[show t.has id=true from yR.2 ⟨hf,by rw[he];exact A1⟩] at this;cases this
    .exact h.one j k t t' ht ht' hf hf' he,
   λj t ht hf hd=>by rcases zK ht with ⟨_,rfl⟩|⟨_,ht⟩;cases hd;exact h.clean j t ht hf hd⟩
theorem zRP[zQ]{C:qL}{G:GA}(h:yJ C)(k:qZ C G){i:Nat}{s:zU}(hi:C.slots[i]? = some s)(p:zY)(id:Nat)(A1:p.id=(id:Int))(hid:id<C.disk.blocks)(A8:vL<=id)(A3:zKJ p C.disk.size)
  (hx:s.has id=true\/(s.full=false/\∀(j:Nat) (t:zU),C.slots[j]? = some t->t.has id=false)):yJ (zKK C i p)/\qZ (zKK C i p) (G.put p):=by
 have A5:∀(j:Nat) (t:zU),C.slots[j]? = some t->j≠i->t.has id=false:=λj t hj A0=>by
  rcases hx with hx|⟨_,hx⟩
  .cases hb:t.has id with
   | false=>rfl
   | true =>
    have h1:=yR.1 hx;have h2:=yR.1 hb;exact absurd (h.one j i t s hj hi h2.1 h1.1 (by rw[h1.2,h2.2])) A0
  .exact hx j t hj
 have A2:zU.has ⟨p,true,true,true,0⟩ id=true:=yR.2 ⟨rfl,A1⟩;have inv:yJ (zKK C i p):=zNy h hi p id A1 hid A8 A3 hx;have A6:p.id.toNat=id:=by omega
 have clean:∀id',id'≠id->(∀(j:Nat) (t:zU),C.slots[j]? = some t->t.has id'=true->t.dirty=false)->∀(j:Nat) (t:zU),(zKK C i p).slots[j]? = some t->t.has id'=true->t.dirty=false:=λid' A0 hc j t ht hh=>by
  rcases zK ht with ⟨_,rfl⟩|⟨_,ht⟩
  .have:=(yR.1 hh).2;simp only[A1] at this;omega
  .exact hc j t ht hh
 refine⟨inv,k.blocks,k.size,λid' r hr=>?_,λid' b hb=>?_,λid' b hb=>?_,?_,λid' h'=>by
  obtain⟨a1,a2,a3⟩:=k.low id' h';have e:id'≠p.id.toNat:=by omega
  exact⟨(zDk _ _ e).trans a1,(zDk _ _ e).trans a2,(zDk _ _ e).trans a3⟩⟩
 .unfold GA.put at hr;simp only[A6] at hr;by_cases e:id'=id
  .subst e;rw[zDt] at hr;injection hr with hr;rw[<- hr];exact inv.vw_at (i:=i) (s:=⟨p,true,true,true,0⟩) (zCZ hi) A2
  .rw[zDk _ _ e] at hr;rw[<- k.view id' r hr];by_cases A4:∃(j:Nat) (t:zU),C.slots[j]? = some t/\t.has id'=true
   .obtain⟨j,t,hj,ht⟩:=A4;rw[h.vw_at hj ht];have A0:j≠i:=by
     rintro rfl;rw[hi] at hj;injection hj with hj;subst hj;rcases hx with hx|⟨hx,_⟩
     .have h1:=(yR.1 hx).2;have h2:=(yR.1 ht).2;omega
     .rw[zU.has,hx] at ht;simp at ht
    exact inv.vw_at (i:=j) (s:=t) (set_other A0 hj) ht
   .have hn:∀(j:Nat) (t:zU),C.slots[j]? = some t->t.has id'=false:=λj t hj=>by
     cases hb:t.has id' with
     | false=>rfl
     | true=>exact absurd ⟨j,t,hj,hb⟩ A4
    rw[zAW hn];exact zAW (λj t hj=>by
     rcases zK hj with ⟨_,rfl⟩|⟨_,hj⟩
     .cases hb:zU.has ⟨p,true,true,true,0⟩ id' with
      | false=>rfl
      | true =>
       have:=(yR.1 hb).2;simp only[A1] at this;omega
     .exact hn j t hj)
 .have Af:id'≠id/\(G.look id'=some b\/(id'<vL/\b=zCY id')):=by
   rcases hb with hb|hb
   .unfold GA.put at hb;simp only[A6] at hb;by_cases e:id'=id
    .subst e;rw[zDt] at hb;cases hb
    .rw[zDk _ _ e] at hb;exact⟨e,.inl hb⟩
   .exact⟨by omega,.inr hb⟩
  obtain⟨k1,k2⟩:=k.look id' b Af.2;exact⟨k1,clean id' Af.1 k2⟩
 .unfold GA.put at hb;simp only[A6] at hb;by_cases e:id'=id
  .subst e;rw[zDt] at hb;cases hb
  .rw[zDk _ _ e] at hb;obtain⟨k1,k2,k3⟩:=k.last id' b hb;exact⟨k1,k2,clean id' e k3⟩
 .have hc:=k.cost;unfold qL.cost at hc ⊢;have:=zAv (·.wet) C.slots i ⟨p,true,true,true,0⟩ s hi;have e:zU.wet ⟨p,true,true,true,0⟩=true:=rfl;rw[e] at this;show C.disk.waiting.length+(C.slots.set i ⟨p,true,true,true,0⟩).countP (·.wet)<=G.cost+1;simp at this;split at this <;> omega
theorem qZ.drop_low[zQ]{C:qL}{G:GA}(k:qZ C G)(id:Nat):∀id',id'<vL->(G.drop id).view id'=none/\G.look id'=none/\G.last id'=none:=λid' h'=>by
 obtain⟨a1,a2,a3⟩:=k.low id' h';refine⟨?_,a2,a3⟩;unfold GA.drop;simp only;by_cases e:id'=id
 .rw[e,zDt,<- e,a2];rfl
 .rw[zDk _ _ e];exact a1
theorem zPz[zQ]{C:qL}{G:GA}(h:yJ C)(k:qZ C G){i:Nat}{s:zU}{id:Nat}(hi:C.slots[i]? = some s)(hs:s.has id=true):yJ { C with slots:=C.slots.set i qM }/\qZ { C with slots:=C.slots.set i qM } (G.drop id):=by
 obtain⟨hf,hid⟩:=yR.1 hs;have inv:yJ { C with slots:=C.slots.set i qM } :=
  ⟨by simpa using h.n3,by simpa using h.n64,by simpa using h.hand,h.s256,h.s1024,h.b8,h.b256,h.lenL,h.len,h.off,h.lit,
   λj t ht hf=>by rcases zK ht with ⟨_,rfl⟩|⟨_,ht⟩;exact absurd hf (by simp[qM]);exact h.page j t ht hf,
   λj t ht=>by rcases zK ht with ⟨_,rfl⟩|⟨_,ht⟩;rfl;exact h.pins j t ht,
   λj k t t' ht ht' hf hf' he=>by
    rcases zK ht with ⟨rfl,rfl⟩|⟨hj,ht⟩
    .exact absurd hf (by simp[qM])
    .rcases zK ht' with ⟨rfl,rfl⟩|⟨hk,ht'⟩
     .exact absurd hf' (by simp[qM])
     .exact h.one j k t t' ht ht' hf hf' he,
   λj t ht hf hd=>by rcases zK ht with ⟨_,rfl⟩|⟨_,ht⟩;exact absurd hf (by simp[qM]);exact h.clean j t ht hf hd⟩
 have clean:∀id',(∀(j:Nat) (t:zU),C.slots[j]? = some t->t.has id'=true->t.dirty=false)->∀(j:Nat) (t:zU),(C.slots.set i qM)[j]? = some t->t.has id'=true->t.dirty=false:=λid' hc j t ht hh=>by
  rcases zK ht with ⟨_,rfl⟩|⟨_,ht⟩
  .rfl
  .exact hc j t ht hh
 refine⟨inv,k.blocks,k.size,λid' r hr=>?_,λid' b hb=>?_,λid' b hb=>?_,?_,k.drop_low id⟩
 .unfold GA.drop at hr;simp only at hr;by_cases e:id'=id
  .subst e;rw[zDt] at hr;unfold zHt at hr;obtain⟨b,hb,hr⟩:=rA.1 hr;rw[<- hr,<- (k.look id' b (.inl hb)).1];exact zAW (λj t hk=>by
     rcases zK hk with ⟨_,rfl⟩|⟨A0,hk⟩
     .rfl
     .cases hb:t.has id' with
      | false=>rfl
      | true =>
       have h2:=yR.1 hb;exact absurd (h.one j i t s hk hi h2.1 hf (by rw[h2.2,hid])) A0)
  .rw[zDk _ _ e] at hr;rw[<- k.view id' r hr];by_cases A4:∃(j:Nat) (t:zU),C.slots[j]? = some t/\t.has id'=true
   .obtain⟨j,t,hj,ht⟩:=A4;rw[h.vw_at hj ht];have A0:j≠i:=by
     rintro rfl;rw[hi] at hj;injection hj with hj;subst hj;have h2:=(yR.1 ht).2;omega
    exact inv.vw_at (i:=j) (s:=t) (set_other A0 hj) ht
   .have hn:∀(j:Nat) (t:zU),C.slots[j]? = some t->t.has id'=false:=λj t hj=>by
     cases hb:t.has id' with
     | false=>rfl
     | true=>exact absurd ⟨j,t,hj,hb⟩ A4
    rw[zAW hn];exact zAW (λj t hj=>by
     rcases zK hj with ⟨_,rfl⟩|⟨_,hj⟩
     .rfl
     .exact hn j t hj)
 .obtain⟨k1,k2⟩:=k.look id' b hb;exact⟨k1,clean id' k2⟩
 .obtain⟨k1,k2,k3⟩:=k.last id' b hb;exact⟨k1,k2,clean id' k3⟩
 .have hc:=k.cost;unfold qL.cost at hc ⊢;have:=zAv (·.wet) C.slots i qM s hi;have e:qM.wet=false:=rfl;rw[e] at this;show C.disk.waiting.length+(C.slots.set i qM).countP (·.wet)<=G.cost;simp at this;split at this <;> omega
theorem zOb[zQ]{C:qL}(h:yJ C){i:Nat}{s:zU}(_:C.slots[i]? = some s):yJ { C with slots:=C.slots.set i qM } :=
 ⟨by simpa using h.n3,by simpa using h.n64,by simpa using h.hand,h.s256,h.s1024,h.b8,h.b256,h.lenL,h.len,h.off,h.lit,
   λj t ht hf=>by rcases zK ht with ⟨_,rfl⟩|⟨_,ht⟩;exact absurd hf (by simp[qM]);exact h.page j t ht hf,
   λj t ht=>by rcases zK ht with ⟨_,rfl⟩|⟨_,ht⟩;rfl;exact h.pins j t ht,
   λj k t t' ht ht' hf hf' he=>by
    rcases zK ht with ⟨rfl,rfl⟩|⟨hj,ht⟩
    .exact absurd hf (by simp[qM])
    .rcases zK ht' with ⟨rfl,rfl⟩|⟨hk,ht'⟩
     .exact absurd hf' (by simp[qM])
     .exact h.one j k t t' ht ht' hf hf' he,
   λj t ht hf hd=>by rcases zK ht with ⟨_,rfl⟩|⟨_,ht⟩;exact absurd hf (by simp[qM]);exact h.clean j t ht hf hd⟩
theorem zLB[zQ]{C:qL}{G:GA}(k:qZ C G){id:Nat}(hn:∀(j:Nat) (t:zU),C.slots[j]? = some t->t.has id=false):qZ C (G.drop id):=by
 refine⟨k.blocks,k.size,λid' r hr=>?_,k.look,k.last,k.cost,k.drop_low id⟩;unfold GA.drop at hr;simp only at hr;by_cases e:id'=id
 .subst e;rw[zDt] at hr;unfold zHt at hr;obtain⟨b,hb,hr⟩:=rA.1 hr;rw[<- hr,<- (k.look id' b (.inl hb)).1];exact zAW hn
 .rw[zDk _ _ e] at hr;exact k.view id' r hr
theorem zD1{n j:Nat}{t:zU}(h:(List.replicate n qM)[j]? = some t):t=qM:=by
 rw[tW] at h;split at h
 .injection h with h;exact h.symm
 .cases h
theorem zOc[zQ](D:zJ)(n:Nat)(h3:3<=n)(Aj:n<=64)(s256:256<=D.size)(s1024:D.size<=1024)(b8:8<=D.blocks)(b256:D.blocks<=256)(lenL:D.lasting.length=D.blocks)
  (len:∀id:Nat,id<D.blocks->(D.look id).length=D.size) (off:D.off=false) (lit:D.lit=false):yJ ⟨D,List.replicate n qM,0⟩ :=
 ⟨by simpa using h3,by simpa using Aj,by simp;omega,s256,s1024,b8,b256,lenL,len,off,lit,
  λj t ht hf=>by (rw[zD1 ht] at hf;cases hf),λj t ht=>by (rw[zD1 ht];rfl),
  λj k t t' ht _ hf _ _=>by (rw[zD1 ht] at hf;cases hf),λj t ht hf _=>by (rw[zD1 ht] at hf;cases hf)⟩
theorem zOd(n:Nat):(List.replicate n qM).countP (·.wet)=0:=by
 rw[List.countP_replicate];rfl
theorem zOe[zQ](D:zJ)(n:Nat)(G:GA)(hb:D.blocks=G.blocks)(hs:D.size=G.size)(hv:∀id r,G.view id=some r->zV (D.look id) id=r)(hl:∀id b,(G.look id=some b\/(id<vL/\b=zCY id))->D.look id=b)
  (ht:∀id b,G.last id=some b->D.lasting.getD id []=b/\∀p∈D.waiting,p.1≠id) (hc:D.waiting.length<=G.cost) (A8:∀id,id<vL->G.view id=none/\G.look id=none/\G.last id=none):qZ ⟨D,List.replicate n qM,0⟩ G :=
 ⟨hb,hs,λid r hr=>by rw[zAW (λj t hj=>by rw[zD1 hj];rfl)];exact hv id r hr,
  λid b h=>⟨hl id b h,λj t hj hh=>by rw[zD1 hj];rfl⟩,λid b h=>⟨(ht id b h).1,(ht id b h).2,λj t hj hh=>by rw[zD1 hj];rfl⟩,
  by unfold qL.cost;simp only[zOd];omega,A8⟩
theorem zFg{b:List UInt8}{id:Int}{p:zY}(h:zV b id=.inl p):zKJ p b.length/\p.id=id/\jX p b.length=b:=by
 unfold zV at h;split at h
 .cases h
 .rename_i ho;split at h
  .cases h
  .rename_i hid;injection h with h;subst h;simp only[pR] at ho;unfold zBq at ho;simp only[uI,uO] at ho;exact⟨⟨ho.1,zE6 b⟩,by simpa using hid,ho.2⟩
theorem zMi(id:Int)(p:zY):zV [] id ≠ .inl p:=by
 intro h;have:=(qO (zFg h).1.1).1;simp at this
theorem zHu{D:zJ}{id:Nat}(hl:D.lasting.length=D.blocks)(hw:∀p∈D.waiting,p.1<D.blocks)(hid:D.blocks<=id):D.look id=[]:=by
 unfold zJ.look;rw[zDz id _ (λp hp e=>by have:=hw p hp;omega)];simp[List.getD,wT (by omega:D.lasting.length<=id)]
theorem zMj[zQ]{C:qL}{G:GA}(h:yJ C)(hw:∀p∈C.disk.waiting,p.1<C.disk.blocks)(k:qZ C G)(hc:∀(j:Nat) (t:zU),C.slots[j]? = some t->t.wet=false):qZ C G.flushC:=by
 have Ag:∀id,∀(j:Nat) (t:zU),C.slots[j]? = some t->t.has id=true->t.dirty=false:=λid j t hj hh=>by
  have:=hc j t hj;simpa[zU.wet,(yR.1 hh).1] using this
 refine⟨k.blocks,k.size,k.view,λid b hb=>⟨?_,Ag id⟩,k.last,k.cost,λid h'=>by obtain⟨a1,a2,a3⟩:=k.low id h';exact⟨a1,by unfold GA.flushC;simp only;rw[a1];exact a2,a3⟩⟩;rcases hb with hb|hb
 case inr=>exact (k.look id b (.inr hb)).1
 unfold GA.flushC at hb;simp only at hb;split at hb
 .rename_i p hp;injection hb with hb;have hv:=k.view id _ hp;have Ab:zV (C.disk.look id) id=.inl p:=by
   by_cases A4:∃(j:Nat) (t:zU),C.slots[j]? = some t/\t.has id=true
   .obtain⟨j,t,hj,ht⟩:=A4;rw[h.vw_at hj ht] at hv;injection hv with hv;have:=h.clean j t hj (yR.1 ht).1 (Ag id j t hj ht);rw[(yR.1 ht).2,hv] at this;simpa using this
   .rw[<- hv];exact (zAW (λj t hj=>by
     cases hb:t.has id with
     | false=>rfl
     | true=>exact absurd ⟨j,t,hj,hb⟩ A4)).symm
  by_cases hid:id<C.disk.blocks
  .have:=(zFg Ab).2.2;rw[h.len id hid,k.size] at this;rw[<- hb,this]
  .rw[zHu h.lenL hw (by omega)] at Ab;exact absurd Ab (zMi _ _)
 .exact (k.look id b (.inl hb)).1
theorem zBF:∀(w:List (Nat × List UInt8)) (l:List (List UInt8)),(settle l w).length=l.length
 | [],_=>rfl
 | (i,b) :: w,l=>by rw[settle,zBF w,tN]
theorem zHv:∀(w:List (Nat × List UInt8)) (l:List (List UInt8)) (i:Nat),i<l.length->(settle l w).getD i []=(zBh i w).getD (l.getD i [])
 | [],l,i,_=>rfl
 | (j,b) :: w,l,i,hi=>by
  rw[settle,zHv w (l.set j b) i (by rw[tN];exact hi),zBh];cases zBh i w with
  | some c=>rfl
  | none =>
   by_cases e:j=i
   .subst e;simp[List.getD,hi]
   .simp[List.getD,uS e,e]
def zJ.flushed(D:zJ):zJ:={ D with lasting:=settle D.lasting D.waiting,waiting:=[],after:=RowKit.wrap64 (D.after-1),count:=RowKit.wrap64 (D.count+1) }
theorem zD2{D:zJ}(hl:D.lasting.length=D.blocks)(hw:∀p∈D.waiting,p.1<D.blocks)(id:Nat):D.flushed.look id=D.look id:=by
 by_cases hid:id<D.blocks
 .show (zBh id []).getD ((settle D.lasting D.waiting).getD id [])=_;rw[zHv _ _ _ (by omega)];rfl
 .rw[zHu hl hw (by omega),zHu (D:=D.flushed) (by show (settle _ _).length=_;rw[zBF];exact hl) (λp hp=>by cases hp) (by show D.blocks<=id;omega)]
def zDW(C:qL):qL:={ C with disk:=C.disk.flushed }
theorem zRQ{C:qL}{D:zJ}(h:∀id,D.look id=C.disk.look id)(id:Nat):qL.vw { C with disk:=D } id=C.vw id:=by
 unfold qL.vw;simp only[h]
theorem zHw[zQ]{C:qL}{G:GA}(h:yJ C)(hw:∀p∈C.disk.waiting,p.1<C.disk.blocks)(k:qZ C G):yJ (zDW C)/\qZ (zDW C) G.flushD:=by
 have hk:∀id,(zDW C).disk.look id=C.disk.look id:=λid=>zD2 h.lenL hw id
 refine⟨⟨h.n3,h.n64,h.hand,h.s256,h.s1024,h.b8,h.b256,by show (settle _ _).length=_;rw[zBF];exact h.lenL,λid hid=>by rw[hk];exact h.len id hid,h.off,h.lit,h.page,h.pins,h.one,
  λj t hj hf hd=>by rw[hk];exact h.clean j t hj hf hd⟩,k.blocks,k.size,λid r hr=>?_,λid b hb=>?_,λid b hb=>?_,?_,λid h'=>by obtain⟨a1,a2,_⟩:=k.low id h';exact⟨a1,a2,a2⟩⟩
 .rw[<- k.view id r hr];exact zRQ hk id
 .rw[hk];exact k.look id b hb
 .obtain⟨k1,k2⟩:=k.look id b (.inl hb);refine⟨?_,(λp hp=>by cases hp),k2⟩;have Ah:=hk id;rw[k1] at Ah;exact Ah
 .have:=k.cost;unfold qL.cost at this ⊢;show (0:Nat)+C.slots.countP (·.wet)<=G.cost;omega
theorem zHb[zQ]{C:qL}(h:yJ C){at_:Nat}(Ac:at_<vL)(b:List UInt8)(hb:b.length=C.disk.size):yJ { C with disk:=C.disk.wrote at_ b }:=by
 have lk:∀j,at_≠j->(C.disk.wrote at_ b).look j=C.disk.look j:=λj hj=>by rw[jV,if_neg hj]
 exact⟨h.n3,h.n64,h.hand,h.s256,h.s1024,h.b8,h.b256,h.lenL,λj hj=>by
   show ((C.disk.wrote at_ b).look j).length=_;rw[jV];split
   .exact hb
   .exact h.len j hj,h.off,h.lit,h.page,h.pins,h.one,λi s hi hf hd=>by
   show zV ((C.disk.wrote at_ b).look _) _=_;have:=(h.page i s hi hf).1;rw[lk _ (by omega)];exact h.clean i s hi hf hd⟩
theorem yJ.gho{i j:zQ}(e : @vL i = @vL j){C:qL}(h : @yJ i C) : @yJ j C:=by
 obtain⟨a1,a2,a3,a4,a5,a6,a7,a8,a9,a10,a11,a12,a13,a14,a15⟩:=h;exact @yJ.mk j C a1 a2 a3 a4 a5 a6 a7 a8 a9 a10 a11 (λk s a b=>by rw[<- e];exact a12 k s a b) a13 a14 a15
theorem zKL[i:zQ]{C:qL}{G:GA}(h:yJ C)(k:qZ C G){at_:Nat}(Ac:at_<vL)(b:List UInt8) :
  @qZ (zFf at_ b) { C with disk:=C.disk.wrote at_ b } { G with cost:=G.cost+1 }:=by
 have lk:∀j,at_≠j->(C.disk.wrote at_ b).look j=C.disk.look j:=λj hj=>by rw[jV,if_neg hj]
 have ne:∀id,(G.view id≠none\/G.look id≠none\/G.last id≠none)->at_≠id:=λid hid e=>by
  obtain⟨a1,a2,a3⟩:=k.low id (e ▸ Ac);rcases hid with hid|hid|hid
  .exact hid a1
  .exact hid a2
  .exact hid a3
 refine @qZ.mk (zFf at_ b) _ _ k.blocks k.size (λid r hr=>?_) (λid c hc=>?_) (λid c hc=>?_) ?_ k.low
 .have hn:=ne id (.inl (by rw[show G.view id=some r from hr];simp));rw[<- k.view id r hr];unfold qL.vw;simp only[lk id hn]
 .by_cases e:at_=id
  .subst e;refine⟨?_,λj t hj ht=>?_⟩
   .rcases hc with hc|⟨_,hc⟩
    .exact absurd (show G.look at_=some c from hc) (by rw[(k.low at_ Ac).2.1];simp)
    .show (C.disk.wrote at_ b).look at_=c
     rw[jV,if_pos rfl,hc];show b=if at_=at_ then b else _
     rw[if_pos rfl]
   .obtain⟨h1,h2⟩:=yR.1 ht;have:=(h.page j t hj h1).1;omega
  .have Ak:G.look id=some c\/(id<vL/\c=zCY id):=by
    rcases hc with hc|⟨h1,h2⟩
    .exact .inl hc
    .exact .inr ⟨h1,h2.trans (if_neg (λe2=>e e2.symm))⟩
   obtain⟨k1,k2⟩:=k.look id c Ak;exact⟨(lk id e).trans k1,k2⟩
 .have hn:=ne id (.inr (.inr (by rw[show G.last id=some c from hc];simp)));obtain⟨k1,k2,k3⟩:=k.last id c hc;refine⟨k1,λp hp e=>?_,k3⟩;have hp:p∈C.disk.waiting++[(at_,b)]:=hp;rcases uM.1 hp with hp|hp
  .exact k2 p hp e
  .rw[wO.1 hp] at e;exact hn e
 .have:=k.cost;unfold qL.cost at this ⊢;show (C.disk.waiting++[(at_,b)]).length+C.slots.countP (·.wet)<=G.cost+1;rw[uC];simp only[uG,uL];omega
end
section
open Go.RowKit
def zDG(n size:Int):Int:=if n<1\/size<256\/1024<size then 0 else (n-1) / (size-28)+1
end
section
structure yG where
 gen:Nat
 blocks:Nat
 size:Nat
 root:Nat
 keys:Nat
 deriving DecidableEq
def zBe(s:yG):Bool:=decide (8<=s.blocks) && decide (s.blocks<=256) && decide (256<=s.size) && decide (s.size<=1024) && decide (s.keys<=2147483647) && decide (s.root=0\/2<=s.root/\s.root<s.blocks) && decide (s.root=0->s.keys=0)
theorem zAp(s:yG):zBe s=true ↔ 8<=s.blocks/\s.blocks<=256/\256<=s.size/\s.size<=1024/\s.keys<=2147483647/\(s.root=0\/2<=s.root/\s.root<s.blocks)/\(s.root=0->s.keys=0):=by
 unfold zBe;simp only[uI,uO];exact⟨λ⟨⟨⟨⟨⟨⟨a,b⟩,c⟩,d⟩,e⟩,f⟩,g⟩=>⟨a,b,c,d,e,f,g⟩,λ⟨a,b,c,d,e,f,g⟩=>⟨⟨⟨⟨⟨⟨a,b⟩,c⟩,d⟩,e⟩,f⟩,g⟩⟩
def jF(s:yG):List UInt8:=yD 4 s.blocks++yD 4 s.size++yD 4 s.root++yD 4 s.keys++yD 8 s.gen
def zCa(s:yG)(i:Nat):zY:=⟨1,i,s.gen,jF s⟩
def yK(s:yG)(i:Nat):List UInt8:=jX (zCa s i) s.size
theorem zBx(s:yG):(jF s).length=24:=by simp[jF,zD]
theorem zEf{s:yG}(h:zBe s=true){i:Nat}(hi:i<2):qE (zCa s i) s.size=none:=by
 obtain⟨a,b,c,d,e,f,g⟩:=(zAp s).1 h;have hb:=zBx s;have h1:zAn s.size=true:=by unfold zAn;simp;omega
 have h2:zDD (zCa s i).kind=true:=by show zDD 1=true;decide
 unfold qE;rw[h1,h2,if_neg (by simp),if_neg];simp only[zCa];rw[hb];simp;omega
theorem zAh{s:yG}(h:zBe s=true)(i:Nat):(yK s i).length=s.size:=by
 obtain⟨a,b,c,d,e,f,g⟩:=(zAp s).1 h;exact zAE _ _ (by simp only[zCa,zBx];omega)
def zEg(p:zY):yG:=⟨p.gen,qK p.body 0 4,qK p.body 4 4,qK p.body 8 4,qK p.body 12 4⟩
def zGW(p:zY):Bool:=decide (p.body.length=24) && decide (qK p.body 16 8=p.gen) && decide (p.kind=1) && zBe (zEg p)
def openS(l:List UInt8)(i:Nat):Option yG:=match zV l i with
 | .inl p=>if zGW p=true/\(zEg p).size=l.length then some (zEg p) else none
 | .inr _=>none
theorem zSP(s:yG)(h:s.blocks<4294967296):qK (jF s) 0 4=s.blocks:=by
 have e:jF s=[]++(yD 4 s.blocks++(yD 4 s.size++yD 4 s.root++yD 4 s.keys++yD 8 s.gen)):=by simp only[jF,uN,wP]
 rw[e];exact zAo [] _ 4 s.blocks 0 rfl h
theorem zSQ(s:yG)(h:s.size<4294967296):qK (jF s) 4 4=s.size:=by
 have e:jF s=yD 4 s.blocks++(yD 4 s.size++(yD 4 s.root++yD 4 s.keys++yD 8 s.gen)):=by simp only[jF,uN]
 rw[e];exact zAo _ _ 4 s.size 4 (zD _ _) h
theorem zSR(s:yG)(h:s.root<4294967296):qK (jF s) 8 4=s.root:=by
 have e:jF s=(yD 4 s.blocks++yD 4 s.size)++(yD 4 s.root++(yD 4 s.keys++yD 8 s.gen)):=by simp only[jF,uN]
 rw[e];exact zAo _ _ 4 s.root 8 (by rw[uC,zD,zD]) h
theorem zRR(s:yG)(h:s.keys<4294967296):qK (jF s) 12 4=s.keys:=by
 have e:jF s=(yD 4 s.blocks++yD 4 s.size++yD 4 s.root)++(yD 4 s.keys++yD 8 s.gen):=by simp only[jF,uN]
 rw[e];exact zAo _ _ 4 s.keys 12 (by rw[uC,uC,zD,zD,zD]) h
theorem zRS(s:yG)(h:s.gen<18446744073709551616):qK (jF s) 16 8=s.gen:=by
 have e:jF s=(yD 4 s.blocks++yD 4 s.size++yD 4 s.root++yD 4 s.keys)++(yD 8 s.gen++[]):=by simp only[jF,uN,wJ]
 rw[e];exact zAo _ _ 8 s.gen 16 (by rw[uC,uC,uC,zD,zD,zD,zD]) h
theorem zP0{s:yG}(h:zBe s=true)(hg:s.gen<18446744073709551616)(i:Nat):zEg (zCa s i)=s/\zGW (zCa s i)=true:=by
 obtain⟨a,b,c,d,e,f, -⟩:=(zAp s).1 h;have hb:(zCa s i).body=jF s:=rfl;have hs:zEg (zCa s i)=s:=by
  unfold zEg;rw[hb,zSP s (by omega),zSQ s (by omega),zSR s (by omega),zRR s (by omega)];rfl
 refine⟨hs,?_⟩;unfold zGW;rw[hs,h,hb,zRS s hg,zBx];show (decide (24=24) && decide (s.gen=s.gen) && decide ((1:Int)=1) && true)=true;rw[wL rfl,wL rfl,wL rfl];rfl
theorem zJP{s:yG}(h:zBe s=true)(hg:s.gen<18446744073709551616){i:Nat}(hi:i<2):openS (yK s i) i=some s:=by
 obtain⟨h1,h2⟩:=zP0 h hg i;unfold openS;have:=zCX (p:=zCa s i) (size:=s.size) (zEf h hi) hg;rw[show zV (yK s i) (i:Int)=.inl (zCa s i) from this];simp only;rw[h1,zAh h,if_pos ⟨h2,rfl⟩]
theorem zP1{l:List UInt8}{i:Nat}{s:yG}(h:openS l i=some s):zBe s=true/\s.gen<18446744073709551616/\s.size=l.length:=by
 unfold openS at h;split at h
 .rename_i p hp;split at h
  .rename_i hc;injection h with h;subst h;have hk:=hc.1;unfold zGW at hk;simp only[uI] at hk;refine⟨hk.2,?_,hc.2⟩;unfold zV at hp;split at hp
   .cases hp
   .split at hp
    .cases hp
    .injection hp with hp;subst hp;exact zE6 l
  .cases h
 .cases h
end
end Go.Proofs.YtalpfcaakpgkmaaGreatDoor
