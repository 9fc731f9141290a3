import Derived.Test.YteabpacpngaoaaaGreatDoorC53
import Derived.Test.YteabpacpngaoaaaGreatDoorC39
namespace Go.Proofs.YteabpacpngaoaaaGreatDoor
open Lib renaming hid->oh
section
open Go.RowKit
attribute [local go_sem ↓] Go.wp_at_zero Go.wp_at_succ
instance (n:zJ) (size:Nat):Decidable (zBm n size):=by unfold zBm;exact inferInstance
end
section
open Go.RowKit
section
variable {G G':GA}{gen:Nat}
theorem jD.each{T:zEg}{lo:ByteArray}{hi:Option ByteArray}{kk:List ByteArray}{cc:List Int}{ps:List zT}{q:List Nat}(h:jD T lo hi kk cc ps q):∀c∈cc,∃(k:Nat) (lo':ByteArray) (hi':Option ByteArray) (l':List zT) (q':List Nat),c=(k:Int)/\T lo' hi' k l' q'/\∀x∈q',x∈q:=by
 induction h with
 | @one lo hi c l q h =>
  intro c' hc;simp only[List.mem_singleton] at hc;exact⟨c,_,_,_,_,hc,h,λ_ hx=>hx⟩
 | @cons lo hi s c keys kids l1 l2 q1 q2 h1 _ _ ih =>
  intro c' hc;rcases List.mem_cons.1 hc with rfl|hc
  .exact⟨c,_,_,_,_,rfl,h1,λ_ hx=>List.mem_append_left _ hx⟩
  .obtain⟨k,lo',hi',l',q',e,t,hs⟩:=ih c' hc;exact⟨k,lo',hi',l',q',e,t,λx hx=>List.mem_append_right _ (hs x hx)⟩
end
def zCf(o:Option (zX ⊕ (List Int × Nat))):Prop:=∀p n,o=some (.inl p)->qH p=.inl n->n.leaf=true->2<=n.entries.length
def InU(l:List Nat)(i:Nat):Prop:=l[i]? = some 1\/l[i]? = some 2
def Wr(G:GA)(l:List Nat)(G1:GA)(l1:List Nat):Prop:=∀i,2<=i->InU l1 i->(G1.view i=G.view i/\InU l i)\/zCf (G1.view i)
section
variable {G G1 G2:GA}{l l1 l2:List Nat}{gen:Nat}
theorem Wr.refl(G:GA)(l:List Nat):Wr G l G l:=λ_ _ h=>.inl ⟨rfl,h⟩
theorem Wr.trans(h:Wr G l G1 l1)(k:Wr G1 l1 G2 l2):Wr G l G2 l2:=λi h2 hu=>by
 rcases k i h2 hu with ⟨k1,k2⟩|k1
 .rcases h i h2 k2 with ⟨h1,h3⟩|h1
  .exact .inl ⟨k1.trans h1,h3⟩
  .exact .inr (by rw[k1];exact h1)
 .exact .inr k1
theorem zNe{n a b:zJ}{k:ByteArray}(h:zEI n=some (a,k,b))(hl:n.leaf=true)(hw:232<zG n):2<=a.entries.length/\2<=b.entries.length:=by
 have hr:zO n=true:=by
  unfold zEI at h;split at h
  .rename_i h1;exact h1.1
  .cases h
 have hf:=qU hr;have hM:∀e∈n.entries,jV e<=59:=λe he=>zEu (zAT hr e he)
 obtain⟨_,_,hww⟩:=zCw (a:=0) hl hf;have hs:=zFq n.entries hM;have hlen:4<=n.entries.length:=by omega
 obtain⟨L,hL⟩:∃L,n.entries.length=L+2:=⟨n.entries.length-2,by omega⟩;have hel:∀k,k<n.entries.length->∃e,n.entries[k]? = some e/\jV e<=59/\0<=jV e/\yL (n.entries.take (k+1))=yL (n.entries.take k)+jV e:=λk hk=>by
  refine⟨n.entries[k],List.getElem?_eq_getElem hk,hM _ (List.getElem_mem hk),?_,zJR (List.getElem?_eq_getElem hk)⟩;have:=zA7 n.entries[k];omega
 have h0:yL (n.entries.take 0)=0:=by simp[yL]
 have hall:yL (n.entries.take n.entries.length)=yL n.entries:=by rw[List.take_length]
 obtain⟨x,a1,a2,a3,a4⟩:=zGJ (λa=>2 * yL (n.entries.take a)-yL n.entries) 59 1 L (by
  obtain⟨e,_,e2,e3,e4⟩:=hel 0 (by omega);have:=zBd n.entries 1;simp only[Nat.zero_add] at e4;show 2 * yL (n.entries.take 1)-yL n.entries<=59;omega) (by
  obtain⟨e,_,e2,e3,e4⟩:=hel (1+L) (by omega);rw[show 1+L+1=n.entries.length by omega,hall] at e4;have:=zAR (n.entries.take (1+L));show -59<=2 * yL (n.entries.take (1+L))-yL n.entries;omega) (λk k1 k2=>by
  obtain⟨e,_,e2,e3,e4⟩:=hel k (by omega);show 2 * yL (n.entries.take (k+1))-yL n.entries-(2 * yL (n.entries.take k)-yL n.entries)<=2 * 59;omega)
 have hp:zBG n x:=⟨λ_=>by omega,λhc=>(by rw[hl] at hc;cases hc)⟩;have hu:=zDe hf hp;obtain⟨w1,w2,_⟩:=zCw (a:=x) hl hf;obtain⟨y,b1,b2,b3,b4⟩:=zIA hr hf hp (M:=59) (by split at hu <;> omega);obtain⟨v1,v2,_⟩:=zCw (a:=y) hl hf;rw[zKC,b2] at h;have h:zU n y=(a,k,b):=Option.some.inj h;have hA:a.entries=n.entries.take y:=by
  have:a=(zU n y).1:=by rw[h]
  rw[this,zCU hl]
 have hB:b.entries=n.entries.drop y:=by
  have:b=(zU n y).2.2:=by rw[h]
  rw[this,zCV hl]
 have s1:=zFq (n.entries.take y) (λe he=>hM e (List.mem_of_mem_take he));have s2:=zFq (n.entries.drop y) (λe he=>hM e (List.mem_of_mem_drop he));have s3:=zH9 n.entries y;rw[hA,hB];omega
theorem zLk{n a b:zJ}{k:ByteArray}(h:zEI n=some (a,k,b)):a.leaf=n.leaf/\b.leaf=n.leaf:=by
 rw[zKC] at h;obtain⟨y,_,hy⟩:=Option.map_eq_some_iff.1 h;have hA:a=(zU n y).1:=by rw[hy]
 have hB:b=(zU n y).2.2:=by rw[hy]
 rw[hA,hB,zLN,zLO];exact⟨rfl,rfl⟩
theorem zKN{id j:Nat}(h2:2<=j)(hu:InU (yR l id).1 j):j≠id/\InU l j:=by
 unfold yR at hu;by_cases e:j=id
 .subst e;exfalso;by_cases hlt:j<l.length
  .have:qB l (j:Int)=none:=by unfold qB;rw[if_neg (by omega)]
   rw[this] at hu;simp only[Int.toNat_natCast] at hu;split at hu
   .unfold InU at hu;rw[List.getElem?_set_self hlt] at hu;simp at hu
   .rename_i n2;split at hu
    .unfold InU at hu;rw[List.getElem?_set_self hlt] at hu;simp at hu
    .rename_i n1;exact hu.elim n1 n2
  .have:qB l (j:Int)≠none:=by unfold qB;rw[if_pos (by omega)];simp
   cases hs:qB l (j:Int) with
   | none=>exact this hs
   | some er =>
    rw[hs] at hu;simp only at hu;unfold InU at hu;rw[List.getElem?_eq_none (by omega)] at hu;simp at hu
 .refine⟨e,?_⟩;cases hs:qB l (id:Int) with
  | some er=>rw[hs] at hu;exact hu
  | none =>
   rw[hs] at hu;simp only[Int.toNat_natCast] at hu;unfold InU at hu ⊢;split at hu
   .rw[List.getElem?_set_ne (λh=>e h.symm)] at hu;exact hu
   .split at hu
    .rw[List.getElem?_set_ne (λh=>e h.symm)] at hu;exact hu
    .exact hu
theorem zQE{old i:Nat}(hi:vS l old=some i):∀j,2<=j->j≠i->InU (vR l old) j->(qP G l old).view j=G.view j/\InU l j:=by
 intro j h2 hj hu;have hset:InU (l.set i 2) j->InU l j:=λh=>by
  unfold InU at h ⊢;rw[List.getElem?_set_ne (λe=>hj e.symm)] at h;exact h
 unfold vS at hi;unfold vR at hu;unfold qP;by_cases h0:old=0
 .subst h0;rw[if_neg (by simp)] at hi;rw[if_pos rfl] at hu;rw[if_pos (.inl rfl)];unfold zAk at hu;rw[hi] at hu;exact⟨rfl,hset hu⟩
 .by_cases hf:vM l old=true
  .rw[if_neg h0,if_pos hf] at hu;rw[if_pos (.inr hf)];exact⟨rfl,hu⟩
  .rw[if_neg (λh=>hf h.2)] at hi;rw[if_neg h0,if_neg hf,hi] at hu;rw[if_neg (by rintro (h|h);exact h0 h;exact hf h),if_neg (by rw[hi];simp)];obtain⟨e,hu⟩:=zKN h2 hu;rw[zCD,if_neg e];exact⟨rfl,hset hu⟩
theorem zJY{old i:Nat}{n:zJ}(h:qQ G l old n=some i):zBm n G.size:=by
 unfold qQ at h;split at h
 .rename_i hd;exact hd
 .cases h
theorem zFS{gen:Nat}(G:GA)(l:List Nat)(old:Nat)(n:zJ):(yN G l gen old n).size=G.size:=by
 unfold yN;split
 .rfl
 .show (qP G l old).size=G.size;unfold qP;split
  .rfl
  .split <;> rfl
theorem zLl{n:zJ}(hr:zO n=true)(hn:n.leaf=true->2<=n.entries.length)(i gen:Nat):zCf (some (.inl ⟨zBH n,(i:Int),gen,yE n⟩)):=by
 intro p n' hp hd hl;have hp:(⟨zBH n,(i:Int),gen,yE n⟩:zX)=p:=by injection hp with hp;injection hp
 subst hp;have:qH ⟨zBH n,(i:Int),gen,yE n⟩=.inl n:=by
  unfold qH;have hk:zBH n=3\/zBH n=2:=by unfold zBH;split <;> simp
  have hlf:decide (zBH n=3)=n.leaf:=by unfold zBH;cases n.leaf <;> rfl
  simp only;rw[if_pos hk,hlf,(zHU n.leaf (yE n) n).2 ⟨hr,rfl,rfl⟩]
 rw[this] at hd;injection hd with hd;subst hd;exact hn hl
theorem zFw{old i:Nat}{n:zJ}(hn:n.leaf=true->2<=n.entries.length)(hi:qQ G l old n=some i):Wr G l (yN G l gen old n) (yV G l old n):=by
 have hok:=zJY hi;have hpl:vS l old=some i:=by unfold qQ at hi;rw[if_pos hok] at hi;exact hi
 have eG:yN G l gen old n=(qP G l old).put ⟨zBH n,(i:Int),gen,yE n⟩:=by unfold yN;rw[hi]
 have eL:yV G l old n=vR l old:=by unfold yV;rw[if_pos hok]
 rw[eG,eL];intro j h2 hu;rw[zAu];simp only[Int.toNat_natCast];by_cases e:j=i
 .rw[if_pos e];exact .inr (zLl hok.1 hn i gen)
 .rw[if_neg e];exact .inl (zQE hpl j h2 e hu)
theorem zLm{old i:Nat}{n:zJ}(hn:n.leaf=true->2<=n.entries.length)(h2:2<=old)(hi:qQ G l old n=some i)(hu:InU (yV G l old n) old):zCf ((yN G l gen old n).view old):=by
 have hok:=zJY hi;have hpl:vS l old=some i:=by unfold qQ at hi;rw[if_pos hok] at hi;exact hi
 have eG:yN G l gen old n=(qP G l old).put ⟨zBH n,(i:Int),gen,yE n⟩:=by unfold yN;rw[hi]
 have eL:yV G l old n=vR l old:=by unfold yV;rw[if_pos hok]
 rw[eL] at hu;rw[eG,zAu];simp only[Int.toNat_natCast];by_cases e:old=i
 .rw[if_pos e];exact zLl hok.1 hn i gen
 .exfalso;unfold vS at hpl;unfold vR at hu;by_cases hf:vM l old=true
  .rw[if_pos ⟨by omega,hf⟩] at hpl;exact e (Option.some.inj hpl)
  .rw[if_neg (λh=>hf h.2)] at hpl;rw[if_neg (by omega),if_neg hf,hpl] at hu;exact (zKN h2 hu).1 rfl
theorem zM3{old:Nat}{n:zJ}{o:zA0}(h256:256<=G.size)(hn:n.leaf=true->2<=n.entries.length)(h2:2<=old)(h:qC G l gen old n=.inl (G1,l1,o))(hu:InU l1 old):zCf (G1.view old):=by
 unfold qC at h;split at h
 .split at h
  .rename_i i hi;simp only[Sum.inl.injEq,Prod.mk.injEq] at h;obtain⟨rfl,rfl,_⟩:=h;exact zLm hn h2 hi hu
  .cases h
 .rename_i hw;split at h
  .cases h
  .rename_i a k b hc;have hl:=zLk hc;split at h
   .split at h
    .cases h
    .rename_i i hi;split at h
     .cases h
     .rename_i j hj;simp only[Sum.inl.injEq,Prod.mk.injEq] at h;obtain⟨rfl,rfl,_⟩:=h;have hh:n.leaf=true->2<=a.entries.length/\2<=b.entries.length:=λhlf=>zNe hc hlf (by omega)
      rcases zFw (gen:=gen) (λe=>(hh (hl.2 ▸ e)).2) hj old h2 hu with ⟨w1,w2⟩|w1
      .rw[w1];exact zLm (λe=>(hh (hl.1 ▸ e)).1) h2 hi w2
      .exact w1
   .cases h
theorem zJZ{old:Nat}{n:zJ}{o:zA0}(h256:256<=G.size)(hn:n.leaf=true->2<=n.entries.length)(h:qC G l gen old n=.inl (G1,l1,o)):Wr G l G1 l1:=by
 unfold qC at h;split at h
 .split at h
  .rename_i i hi;simp only[Sum.inl.injEq,Prod.mk.injEq] at h;obtain⟨rfl,rfl,_⟩:=h;exact zFw hn hi
  .cases h
 .rename_i hw;split at h
  .cases h
  .rename_i a k b hc;have hl:=zLk hc;split at h
   .split at h
    .cases h
    .rename_i i hi;split at h
     .cases h
     .rename_i j hj;simp only[Sum.inl.injEq,Prod.mk.injEq] at h;obtain⟨rfl,rfl,_⟩:=h;have h2:n.leaf=true->2<=a.entries.length/\2<=b.entries.length:=λhlf=>zNe hc hlf (by omega)
      exact (zFw (gen:=gen) (λe=>(h2 (hl.1 ▸ e)).1) hi).trans (zFw (λe=>(h2 (hl.2 ▸ e)).2) hj)
   .cases h
theorem zJa(v:List UInt8)(n:Nat)(ids:List Nat):∀(k:Nat) (G:GA),k<=ids.length->∀j,(j∈ids.take k->zCf ((jZ gen v n ids k G).view j))/\(j ∉ ids.take k->(jZ gen v n ids k G).view j=G.view j)
 | 0,G,_,j=>⟨λh=>by simp at h,λ_=>rfl⟩
 | k+1,G,hk,j=>by
  obtain⟨h1,h2⟩:=zJa v n ids k G (by omega) j;have hkl:k<ids.length:=by omega
  have he:(zAy gen v n ids k).id.toNat=ids[k]:=by
   show (((ids.getD k 0:Nat):Int)).toNat=_;rw[Int.toNat_natCast];simp[List.getD,hkl]
  rw[jZ,zAu,he,List.take_succ_eq_append_getElem hkl];by_cases e:j=ids[k]
  .rw[if_pos e];refine⟨λ_ p n' hp hd _=>?_,λh=>absurd (List.mem_append.2 (.inr (by simp[e]))) h⟩;have hp:zAy gen v n ids k=p:=by injection hp with hp;injection hp
   subst hp;unfold qH at hd;rw[if_neg (by show ¬ ((4:Int)=3\/(4:Int)=2);omega)] at hd;cases hd
  .rw[if_neg e];refine⟨λh=>?_,λh=>h2 (λhm=>h (List.mem_append.2 (.inl hm)))⟩;rcases List.mem_append.1 h with h|h
   .exact h1 h
   .exact absurd (List.mem_singleton.1 h) e
theorem zQF{key v:ByteArray}{e:zV}(h:zA1 G l gen key v=.inl (G1,l1,e)):Wr G l G1 l1:=by
 unfold zA1 at h;split at h
 .simp only[Sum.inl.injEq,Prod.mk.injEq] at h;obtain⟨rfl,rfl,_⟩:=h;exact Wr.refl _ _
 .split at h
  .rename_i ids l2 ht;simp only[Sum.inl.injEq,Prod.mk.injEq] at h;obtain⟨rfl,rfl,_⟩:=h;have hT:=zBJ _ _ _ _ ht;intro j _ hu;obtain⟨k1,k2⟩:=zJa (gen:=gen) v.data.toList (G.size-28) ids ids.length G (Nat.le_refl _) j;rw[List.take_length] at k1 k2;by_cases hj:j∈ids
   .exact .inr (k1 hj)
   .refine .inl ⟨k2 hj,?_⟩;unfold InU at hu ⊢;rw[hT.far j hj] at hu;exact hu
  .cases h
theorem zNf:∀(ids:List Nat) (G:GA) (l:List Nat),Wr G l (jQ G ids) (jM l ids)
 | [],G,l=>Wr.refl G l
 | x :: ids,G,l=>by
  refine Wr.trans (G1:=G.drop x) (l1:=(yR l x).1) (λj h2 hu=>?_) (zNf ids (G.drop x) (yR l x).1);obtain⟨e,hu2⟩:=zKN h2 hu;exact .inl ⟨by rw[zCD,if_neg e],hu2⟩
theorem zOv(n:zJ)(key:ByteArray)(e:zV):n.entries.length<=(zDK n key e).entries.length/\(zAf key n.entries=false->n.entries.length+1<=(zDK n key e).entries.length):=by
 unfold zDK;simp only[List.length_append,List.length_take,List.length_drop,List.length_cons,List.length_nil];refine⟨by split <;> omega,λh=>?_⟩;rw[if_neg (by rw[h];simp)];omega
theorem jH.fat{es:List zV}{ps:List zT}{q:List Nat}(h:jH G gen es ps q):∀i∈q,zCf (G.view i):=by
 induction h with
 | nil=>intro i hi;simp at hi
 | @cons e0 x0 ids es0 l0 q0 _ h2 _ ih =>
  intro i hi;rcases List.mem_append.1 hi with hi|hi
  .rcases h2 with ⟨_,_,rfl⟩|⟨_,h⟩
   .simp at hi
   .obtain⟨g,_,hp⟩:=h.page;obtain⟨k,hk,rfl⟩:=List.getElem_of_mem hi;have:=hp k hk;rw[show ids.getD k 0=ids[k] by simp[List.getD,hk]] at this;intro p n e hd _;rw[this] at e;injection e with e;injection e with e;subst e;unfold qH at hd;rw[if_neg (by show ¬ ((4:Int)=3\/(4:Int)=2);omega)] at hd;cases hd
  .exact ih i hi
theorem zIG(ids:List Nat)(G:GA):(jQ G ids).size=G.size:=(zB8 ids G).2.1
theorem zIH{key v:ByteArray}{e:zV}(h:zA1 G l gen key v=.inl (G1,l1,e)):G1.size=G.size:=by
 unfold zA1 at h;split at h
 .injection h with h;obtain⟨rfl,_⟩:=Prod.mk.inj h;rfl
 .split at h
  .injection h with h;obtain⟨rfl,_⟩:=Prod.mk.inj h;exact (qY _ _ _ _ _ _).2.1
  .cases h
theorem zGu{old:Nat}{n:zJ}{o:zA0}(h:qC G l gen old n=.inl (G1,l1,o)):G1.size=G.size:=by
 unfold qC at h;split at h
 .split at h
  .injection h with h;obtain⟨rfl,_⟩:=Prod.mk.inj h;exact zFS _ _ _ _
  .cases h
 .split at h
  .cases h
  .split at h
   .split at h
    .cases h
    .split at h
     .cases h
     .injection h with h;obtain⟨rfl,_⟩:=Prod.mk.inj h;exact (zFS _ _ _ _).trans (zFS _ _ _ _)
   .cases h
theorem zOw{id:Nat}{n:zJ}{key v:ByteArray}{o:zA0}(h:zBo G l gen id n key v=.inl (G1,l1,o)):G1.size=G.size:=by
 unfold zBo at h;split at h
 .cases h
 .rename_i G2 l2 e he;split at h
  .cases h
  .rename_i G3 l3 o3 hs;simp only[Sum.inl.injEq,Prod.mk.injEq] at h;obtain⟨rfl,_⟩:=h;exact (zGu hs).trans ((zIH he).trans (zIG _ _))
theorem zQ6{id:Nat}{n:zJ}{key v:ByteArray}{o:zA0}(h256:256<=G.size)(hn:2<=n.entries.length\/(1<=n.entries.length/\o.news=true))(h:zBo G l gen id n key v=.inl (G1,l1,o)):Wr G l G1 l1/\(2<=id->InU l1 id->zCf (G1.view id)):=by
 unfold zBo at h;split at h
 .cases h
 .rename_i G2 l2 e he;split at h
  .cases h
  .rename_i G3 l3 o3 hs;simp only[Sum.inl.injEq,Prod.mk.injEq] at h;obtain⟨rfl,rfl,h⟩:=h;have hw:=zOv n key e;have hn2:2<=(zDK n key e).entries.length:=by
    rcases hn with hn|⟨hn,hnw⟩
    .omega
    .have:zAf key n.entries=false:=by rw[<- h] at hnw;simpa using hnw
     have:=hw.2 this;omega
   have hsz:G2.size=G.size:=(zIH he).trans (zIG _ _);exact⟨((zNf _ G l).trans (zQF he)).trans (zJZ (by omega) (λ_=>hn2) hs),λh2 hu=>zM3 (by omega) (λ_=>hn2) h2 hs hu⟩
theorem zM4(n:zJ)(i:Nat)(o:zA0):(zDL n i o).leaf=n.leaf:=by unfold zDL;split <;> rfl
theorem zQG{key v:ByteArray}:∀(f d:Nat) (G:GA) (l:List Nat) (id:Nat) (lo:ByteArray) (hi:Option ByteArray) (ps:List zT) (q:List Nat) (G1:GA) (l1:List Nat) (o:zA0),zBx G l->TrD G gen d lo hi id ps q->(∀i∈q,zCf (G.view i))\/(d=1/\o.news=true)->zCs gen key v f G l id=.inl (G1,l1,o)->G1.size=G.size/\Wr G l G1 l1/\(d=1->InU l1 id->zCf (G1.view id))
 | 0,_,_,_,_,_,_,_,_,_,_,_,_,_,_,h=>by unfold zCs at h;cases h
 | f+1,0,_,_,_,_,_,_,_,_,_,_,_,hT,_,_=>hT.elim
 | f+1,d+1,G,l,id,lo,hi,ps,q,G1,l1,o,hc,hT,hF,h=>by
  obtain⟨n,q,hp,hr,rfl,hb⟩:=hT;have hld:=(zKF hp).1;rw[zCs,hld] at h;simp only at h;by_cases hl:n.leaf=true
  .rw[if_pos hl] at h;refine⟨zOw h,(zQ6 hc.s256 ?_ h).imp_right (λw _=>w hp.lo)⟩;rcases hF with hF|⟨_,hnw⟩
   .obtain⟨p,h1,_,h3⟩:=hp.page;exact .inl (hF id List.mem_cons_self p n h1 h3 hl)
   .refine .inr ⟨?_,hnw⟩;rcases hb with ⟨_,_,hne,he,_⟩|⟨h2,_⟩
    .have:=he.len;rcases Nat.eq_zero_or_pos n.entries.length with h0|h0
     .exact absurd (List.length_eq_zero_iff.1 (by omega)) hne
     .exact h0
    .rw[h2] at hl;cases hl
  .rw[if_neg hl] at h;rcases hb with ⟨h2,_⟩|⟨h2,hk⟩
   .exact absurd h2 hl
   .have hd:¬ d=0:=λe=>by subst e;exact hk.pos
    have hF2:∀i∈id :: q,zCf (G.view i):=by
     rcases hF with hF|⟨h1,_⟩
     .exact hF
     .omega
    have hkid:n.kids.getD (zBS key n.keys) 0∈n.kids:=by
     have hlen:=hk.len;have hka:zBS key n.keys<=n.keys.length:=List.findIdx_le_length;have:zBS key n.keys<n.kids.length:=by omega
     rw[show n.kids.getD (zBS key n.keys) 0=n.kids[zBS key n.keys] by simp[List.getD,this]];exact List.getElem_mem _
    obtain⟨k,lo',hi',l',q',e,t,hsub⟩:=hk.each _ hkid;rw[e,Int.toNat_natCast] at h;split at h
    .cases h
    .rename_i G2 l2 o2 hp2;split at h
     .cases h
     .rename_i G3 l3 o3 hs;simp only[Sum.inl.injEq,Prod.mk.injEq] at h;obtain⟨rfl,rfl,_⟩:=h;obtain⟨z1,w1,_⟩:=zQG f d G l k lo' hi' l' q' G2 l2 o2 hc t (.inl (λi hi=>hF2 i (List.mem_cons_of_mem _ (hsub i hi)))) hp2;exact⟨(zGu hs).trans z1,w1.trans (zJZ (by have:=hc.s256;omega) (λhlf=>by rw[zM4,h2] at hlf;cases hlf) hs),λe=>absurd (show d=0 by omega) hd⟩
theorem zQH{x:zT}{key v:ByteArray}(h:2<=(yS key v true [x]).length):(jP key [x]).isNone=true:=by
 unfold yS at h;split at h
 .rename_i h1;have:x.1≠key:=zF5 h1;unfold jP;simp[this]
 .split at h
  .simp at h
  .rename_i h2;unfold jP;simp[h2]
theorem zQI{root d r':Nat}{ps:List zT}{pgs pgs':List Nat}{key v:ByteArray}{nw:Bool}(hc:zBx G l)(hT:TD G gen root d ps pgs)(hin:∀i,6<=i->InU l i->i∈pgs)(hF:2<=ps.length->∀i∈pgs,zCf (G.view i))
  (hkb:zAE key=true) (hv:v.size<=4096) (hnw:nw=(jP key ps).isNone) (h:zG4 G l gen root key v=.inl (G1,l1,(r',nw))) (h6:∀i∈pgs',6<=i/\InU l1 i) (h2:2<=(yS key v true ps).length):∀i∈pgs',zCf (G1.view i):=by
 have key0:Wr G l G1 l1/\(2<=ps.length\/(ps.length=1/\∀i∈pgs,InU l1 i->zCf (G1.view i))):=by
  rcases hT.tree with ⟨rfl,rfl,rfl,rfl⟩|⟨hd,hT2⟩
  .have:=zGD key v true [];simp at this h2;omega
  .have hne:=TrD.ne _ _ _ _ _ _ hT2;have hlen:2<=ps.length\/ps.length=1:=by
    have:=List.length_pos_iff.2 hne;omega
   have hroot:root≠0:=by
    obtain⟨r,hr⟩:=TrD.head _ _ _ _ _ _ hT2;have:=hT.lt root (by rw[hr];simp);omega
   have hchk:zC9 key v=none:=by unfold zC9;rw[if_neg (by rw[hkb];simp),if_neg (by omega)]
   unfold zG4 at h;rw[hchk] at h;simp only at h;rw[if_neg hroot] at h;split at h
   .cases h
   .rename_i G2 l2 o hp;have hside:(∀i∈pgs,zCf (G.view i))\/(d=1/\o.news=true):=by
     rcases hlen with hl|hl
     .exact .inl (hF hl)
     .refine .inr ⟨?_,?_⟩
      .have:=(TrD.count _ _ _ _ _ _ hT2).2.1;rw[hl] at this;rcases Nat.lt_or_ge 1 d with hlt|hge
       .have:2 ^ 1<=2 ^ (d-1):=Nat.pow_le_pow_right (by omega) (by omega);omega
       .omega
      .obtain⟨x,rfl⟩:∃x,ps=[x]:=List.length_eq_one_iff.1 hl;have hnn:=zQH h2;have:o.news=nw:=by
        split at h
        .injection h with h;simp only[Prod.mk.injEq] at h;exact h.2.2.2
        .split at h
         .cases h
         .injection h with h;simp only[Prod.mk.injEq] at h;exact h.2.2.2
       rw[this,hnw];exact hnn
    obtain⟨z1,w1,w3⟩:=zQG 16 d G l root e0 none ps pgs G2 l2 o hc hT2 hside hp;have hw:Wr G2 l2 G1 l1:=by
     split at h
     .injection h with h;simp only[Prod.mk.injEq] at h;obtain⟨rfl,rfl,_⟩:=h;exact Wr.refl _ _
     .split at h
      .cases h
      .rename_i i hi;injection h with h;simp only[Prod.mk.injEq] at h;obtain⟨rfl,rfl,_⟩:=h;exact zFw (λhlf=>by cases hlf) hi
    refine⟨w1.trans hw,hlen.imp id (λhl=>⟨hl,λi hi hu=>?_⟩)⟩;have hd1:d=1:=by
     have:=(TrD.count _ _ _ _ _ _ hT2).2.1;rw[hl] at this;rcases Nat.lt_or_ge 1 d with hlt|hge
     .have:2 ^ 1<=2 ^ (d-1):=Nat.pow_le_pow_right (by omega) (by omega);omega
     .omega
    subst hd1;obtain⟨n,q,hpn,hr,rfl,hb⟩:=hT2;have hfq:zCf (G.view i)\/i=root:=by
     rcases List.mem_cons.1 hi with e|hi
     .exact .inr e
     .rcases hb with ⟨_,_,_,he,_⟩|⟨_,hk⟩
      .exact .inl (he.fat i hi)
      .exact hk.pos.elim
    rcases (w1.trans hw) i (hT.lt i hi).1 hu with ⟨x1,_⟩|x1
    .rcases hfq with hfq|rfl
     .rw[x1];exact hfq
     .rcases hw i (hT.lt i hi).1 hu with ⟨y1,y2⟩|y1
      .rw[y1];exact w3 rfl y2
      .exact y1
    .exact x1
 intro i hi;obtain⟨i6,iu⟩:=h6 i hi;rcases key0.1 i (by omega) iu with ⟨w1,w2⟩|w1
 .rcases key0.2 with hl|hl
  .rw[w1];exact hF hl i (hin i i6 w2)
  .exact hl.2 i (hin i i6 w2) iu
 .exact w1
end
section
variable {G:GA}{gen:Nat}{T:zEg}
theorem jD.count2{q0:List Nat}{sz a:Nat}{lo:ByteArray}{hi:Option ByteArray}{kk:List ByteArray}{cc:List Int}{l:List zT}{q:List Nat}(hT:∀lo hi c l q',(∀i∈q',i∈q0)->T lo hi c l q'->q'.length+1<=l.length+chS sz l/\a<=l.length)(h:jD T lo hi kk cc l q) :
  (∀i∈q,i∈q0)->q.length+kk.length+1<=l.length+chS sz l/\(kk.length+1) * a<=l.length:=by
 induction h with
 | one h=>intro hq;have:=hT _ _ _ _ _ hq h;simpa using this
 | cons h _ _ ih =>
  intro hq;have h1:=hT _ _ _ _ _ (λi hi=>hq i (List.mem_append_left _ hi)) h;have h2:=ih (λi hi=>hq i (List.mem_append_right _ hi));simp only[List.length_append,List.length_cons,zIB];have m1:∀k:Nat,(k+1+1) * a=(k+1) * a+a:=λk=>Nat.succ_mul _ _
  rw[m1];omega
theorem TrD.count2:∀(d:Nat) (lo:ByteArray) (hi:Option ByteArray) (id:Nat) (l:List zT) (q:List Nat),TrD G gen d lo hi id l q->(∀i∈q,zCf (G.view i))->q.length+1<=l.length+chS G.size l/\2 ^ d<=l.length
 | 0,_,_,_,_,_,h,_=>h.elim
 | d+1,lo,hi,id,l,q,h,hF=>by
  obtain⟨n,q,hp,hr,rfl,h⟩:=h;rcases h with ⟨hl,rfl,hne,he,_⟩|⟨hl,hk⟩
  .have hc:=he.count (zAT hr);obtain⟨p,h1,_,h3⟩:=hp.page;have h2:=hF id List.mem_cons_self p n h1 h3 hl;have h4:=he.len;simp only[List.length_cons];refine⟨by omega,by simp;omega⟩
  .have h2:=(zEv hr).2.2 hl;have hlen:=hk.len;have h3:=hk.count2 (q0:=q) (sz:=G.size) (a:=2 ^ d) (λlo hi c l q' hs t=>TrD.count2 d lo hi c l q' t (λi hi=>hF i (List.mem_cons_of_mem _ (hs i hi)))) (λi hi=>hi);obtain⟨k,hkk⟩:∃k,n.keys.length=k+1:=⟨n.keys.length-1,by omega⟩;rw[hkk] at h3;have m1:(k+1+1) * 2 ^ d=k * 2 ^ d+2 ^ d+2 ^ d:=by rw[Nat.succ_mul,Nat.succ_mul]
   rw[m1] at h3;have e:2 ^ (d+1)=2 ^ d+2 ^ d:=by rw[Nat.pow_succ];omega
   simp only[List.length_cons];rw[e];omega
theorem TD.count2{root d:Nat}{ps:List zT}{pgs:List Nat}(h:TD G gen root d ps pgs)(hF:2<=ps.length->∀i∈pgs,zCf (G.view i)):pgs.length<=ps.length+chS G.size ps/\(2<=ps.length->pgs.length+1<=ps.length+chS G.size ps/\2 ^ d<=ps.length)/\(ps.length<=1->d<=1):=by
 rcases h.tree with ⟨_,rfl,rfl,rfl⟩|⟨hd,hT⟩
 .simp
 .have hne:=TrD.ne _ _ _ _ _ _ hT;have hpos:=List.length_pos_iff.2 hne;rcases Nat.lt_or_ge 1 ps.length with h2|h2
  .have hc:=TrD.count2 _ _ _ _ _ _ hT (hF h2);exact⟨by omega,λ_=>hc,λh=>by omega⟩
  .have hc:=TrD.count _ _ _ _ _ _ hT;refine⟨by omega,λh=>by omega,λ_=>?_⟩;rcases Nat.lt_or_ge 1 d with hlt|hge
   .have:2 ^ 1<=2 ^ (d-1):=Nat.pow_le_pow_right (by omega) (by omega);omega
   .exact hge
end
end
section
open Go.RowKit
attribute [local go_sem ↓] Go.wp_at_zero Go.wp_at_succ
def zSC[zW](F P:Nat->Prop)(ad:Nat->Addr)(w:World)(c s:Nat)(G:GA)(l:List Nat)(r:StA (Nat × Bool))(e:Ending)(w':World):Prop :=
  ∃(P' F':Nat->Prop) (G':GA) (l':List Nat),jU F' w' P' c s G' l'/\zY P P' F F' ad w w' /\
    ((∃ i nw, r = .inl (G', l', (i, nw)) /\ e = .returned (.tuple #[.int .i64 ((i : Nat) : Int), .bool nw, .nilIface])) \/
     (∃k f el,r=.inr k/\FrG G l G' l'/\e=.returned (.tuple #[.int .i64 0,.bool false,zL f])/\vB F' ad w' (zL f) el k))
def zG5(G:GA)(l:List Nat)(gen root:Nat)(key v:ByteArray):StA zA0:=if root=0 then zBo G l gen 0 zE9 key v else zCs gen key v 16 G l root
theorem zNg{G:GA}{l:List Nat}{gen root:Nat}{key v:ByteArray}(hk:zAE key=true)(hv:v.size<=4096):zG4 G l gen root key v=match zG5 G l gen root key v with
  | .inr k=>.inr k
  | .inl (G1,l1,o)=>if o.two=false then .inl (G1,l1,(o.id0,o.news)) else match qQ G1 l1 0 (zCW o) with
   | none=>.inr (zBI G1 (zCW o))
   | some i=>.inl (yN G1 l1 gen 0 (zCW o),yV G1 l1 0 (zCW o),(i,o.news)):=by
 unfold zG4;rw[show zC9 key v=none by unfold zC9;rw[if_neg (by rw[hk];simp),if_neg (by omega)]];rfl
section
variable {G G1:GA}{l l1:List Nat}{gen root d:Nat}{ps:List zT}{pgs:List Nat}
theorem zLn{key v:ByteArray}(hc:zBx G l)(hT:TD G gen root d ps pgs)(hu:zAW l (λk=>k∈pgs))(hkb:zAE key=true)(hv:v.size<=4096){o:zA0}(h:zG5 G l gen root key v=.inl (G1,l1,o)) :
  zBx G1 l1/\FrG G l G1 l1/\G1.cost<=G.cost+60/\(o.two=true->zAE o.key=true):=by
 unfold zG5 at h;have hs:=hc.s256;rcases hT.tree with ⟨rfl,rfl,rfl,rfl⟩|⟨hd,hT2⟩
 .rw[if_pos rfl] at h;rcases zFQ (gen:=gen) (lo:=e0) (hi:=none) (n:=zE9) (key:=key) (v:=v) (ps:=[]) (q:=[]) hc (.inl rfl) rfl rfl (by unfold zG zE9;simp[yL,yT];omega) .nil (λx hx=>by simp at hx) (zFl key) hkb hv List.nodup_nil (λk hk=>by simp at hk) (λh=>absurd rfl h) with ⟨a1,a2⟩|⟨G2,l2,o2,pgs,a1,a2,a3,a4,a5⟩
  .rw[a1] at h;cases h
  .have hco:=zJV hv hc.s256 hc.s1024 h;rw[a1] at h;injection h with h;injection h with h1 h2;injection h2 with h2 h3;subst h1 h2 h3;exact⟨a3.ctx,a3.upd.fr (λi hi=>by rcases hi with ⟨_,h⟩|h;exact absurd rfl h;simp at h),by omega,λh2=>a3.keys _ (by unfold vY;rw[if_pos h2];simp)⟩
 .have hd7:=(hT.few hc.b256).2;have hroot:root≠0:=by
   obtain⟨r,hr⟩:=TrD.head _ _ _ _ _ _ hT2;have:=hT.lt root (by rw[hr];simp);omega
  rw[if_neg hroot] at h;have hco:=zID hv 16 G l root hc.s256 hc.s1024 h;rcases zKG (gen:=gen) hkb hv d 16 G l root e0 none ps pgs hc hT2 hT.nodup hu (zFl key) (by omega) with ⟨a1,a2⟩|⟨G2,l2,o2,pgs',a1,a2,a3,a4⟩
  .rw[a1] at h;cases h
  .rw[a1] at h;injection h with h;injection h with h1 h2;injection h2 with h2 h3;subst h1 h2 h3;exact⟨a3.ctx,a3.upd.fr (λi hi=>(hT.lt i hi).1),by omega,λh2=>a3.keys _ (by unfold vY;rw[if_pos h2];simp)⟩
end
section
variable {P P0 P' P1 P2 F F0 F' F1 F2:Nat->Prop}{ad:Nat->Addr}{w0 w w' w1 w2:World}{c s:Nat}{G:GA}{l:List Nat}
theorem zY.less(n1:zY P P1 F F1 ad w w1)(n2:zY P1 P2 F' F2 ad w1 w2)(h1:∀k,F k->F' k)(h2:∀k,F' k->F1 k):zY P P2 F F2 ad w w2 :=
 ⟨n1.stp.trans n2.stp,n2.sub,λk h=>n2.grow k (h1 k h),λk hk h=>n1.oldF k hk (h2 k (n2.oldF k (Nat.lt_of_lt_of_le hk n1.size) h)),n2.env⟩
def QSt[zW](F P:Nat->Prop)(ad:Nat->Addr)(w:World)(c s gen X:Nat)(G:GA)(l:List Nat)(r:StA zA0)(ev:Value)(wx:World):Prop :=
 ∃(P' F':Nat->Prop) (G':GA) (l':List Nat) (o:zA0),jU F' wx P' c s G' l'/\zY P P' F F' ad w wx/\jR F' P' w wx w.heap.size #[.pointer (some ⟨c,0,none⟩),.pointer (some ⟨s,0,none⟩),.int .u64 (gen:Int)] 120 /\
  jR F' P' w wx X (zIm o) 169 /\ ((r=.inl (G',l',o)/\ev=.nilIface)\/(∃k f el,r=.inr k/\FrG G l G' l'/\ev=zL f/\vB F' ad wx (zL f) el k))
theorem zJb{n:zJ}(h:qQ G l 0 n=none)(gen:Nat):yN G l gen 0 n=G/\yV G l 0 n=l:=by
 refine⟨by unfold yN;rw[h],?_⟩;unfold qQ at h;unfold yV;split at h
 .rename_i hd;rw[if_pos hd];unfold vS at h;rw[if_neg (by simp)] at h;unfold vR;rw[if_pos rfl];unfold zAk;rw[h]
 .rename_i hd;rw[if_neg hd]
theorem Sl.ids{x y:Int}{b:Nat}(hb:b<w.heap.size)(hF:¬ F b)(h0:w.cell? ⟨b,0,none⟩=some (.int .i64 x))(h1:w.cell? ⟨b,1,none⟩=some (.int .i64 y)):Sl F w 1 yK (.slice (some ⟨b,0,none⟩) 2 2) [x,y]:=by
 refine⟨_,2,rfl,Nat.le_refl _,by simp[maxLen],by simp,.inr ⟨b,0,rfl,hb,hF,λi z hi j u hu=>?_⟩⟩;have hj:j=0/\u=.int .i64 z:=by
  cases j with
  | zero=>exact⟨rfl,by simpa[yK] using hu.symm⟩
  | succ j=>simp[yK] at hu
 obtain⟨rfl,rfl⟩:=hj;match i,hi with
 | 0,hi=>simp only[List.getElem?_cons_zero,Option.some.injEq] at hi;subst hi;exact h0
 | 1,hi=>simp only[List.getElem?_cons_succ,List.getElem?_cons_zero,Option.some.injEq] at hi;subst hi;exact h1
 | i+2,hi=>simp at hi
set_option maxRecDepth 100000 in
set_option maxHeartbeats 4000000 in
theorem zLo[zW]{gen root d:Nat}{ps:List zT}{pgs:List Nat}{key v:ByteArray}(hL:yG F ad w)(hP:∀k,P k->F k)(h:jU F w P c s G l)(hgen:gen<18446744073709551616)(hc:zBx G l)(hT:TD G gen root d ps pgs)(hu:zAW l (λk=>k∈pgs))(hkb:zAE key=true)(hv:v.size<=4096)(hco:G.cost+300<=1000000) :
  Calls Tryz.prog 54 #[pgV c s gen,.int .i64 (root:Int),.string key,.string v] w (zSC F P ad w c s G l (zG4 G l gen root key v)):=by
 obtain⟨w1,hw1⟩:∃w1,w1=w.alloc (.cells #[.pointer (some ⟨c,0,none⟩),.pointer (some ⟨s,0,none⟩),.int .u64 (gen:Int)] 120):=⟨_,rfl⟩;have m0:zF w w1:=by rw[hw1];exact (zA.refl _ w).alloc _
 have hz:w1.heap.size=w.heap.size+1:=by rw[hw1];simp
 have hN:zY P P F (λk=>F k\/k=w.heap.size) ad w w1:=zY.new hL hP (Q:=λk=>k=w.heap.size) m0 (λk hk=>by omega) (λk hk=>by omega);have hB:jR (λk=>F k\/k=w.heap.size) P w w1 w.heap.size #[.pointer (some ⟨c,0,none⟩),.pointer (some ⟨s,0,none⟩),.int .u64 (gen:Int)] 120:=⟨by rw[hw1];exact zH.new w _ _,.inr rfl,λhp=>by have:=h.bd _ hp;omega,Nat.le_refl _⟩;have hG:=h.plusNew hP (Q:=λk=>k=w.heap.size) m0 (λk hk=>by omega);have HCK:=zLU (c:=c) (s:=s) hN.env gen key v (.inr hv);rw[show zD4 key v=none by unfold zD4;rw[if_neg (by rw[hkb];simp),if_neg (by omega)]] at HCK;have HPS:=oh (λ(G1:GA) (l1:List Nat) (o:zA0) (h:zG5 G l gen root key v=.inl (G1,l1,o))=>zLn hc hT hu hkb hv h);have HPR:=oh (zNg (G:=G) (l:=l) (gen:=gen) (root:=root) hkb hv);have HC:=oh hc;have HT:=oh hT;have HU:=oh hu;have HB1:=oh hB;have HN1:=oh hN;have HG1:=oh hG;have HFW:=oh (λk (hk:F k)=>hL.lt k hk);have HW1:=oh hw1;unfold pgV at HCK ⊢;have HCK:=oh HCK;clear hL hP h m0 hN hB hG hc hT hu hw1
 go_enter Tryz.func54, Tryz.ntmps54
 go_wp2_with fail;rw[<- HW1.out];refine HCK.out.mono ?_;rintro e w2 ⟨ev,rfl,hE,hm2⟩;cases hE
 have hN2:=HN1.out.trans (zY.ext HN1.out.env HN1.out.sub hm2);have hz2:=hm2.size;obtain⟨g1,g2,g3⟩:=zNb (w0:=w) hN2 (HG1.out.at hm2) zAJ 169 (by omega);obtain⟨w3,hw3⟩:∃w3,w3=w2.alloc (.cells zAJ 169):=⟨_,rfl⟩;obtain⟨X,hX⟩:∃X,X=w2.heap.size:=⟨_,rfl⟩;obtain⟨F3,hF3⟩:∃F3:Nat->Prop,F3=λk=>(F k\/k=w.heap.size)\/k=w2.heap.size:=⟨_,rfl⟩
 rw[<- hF3,<- hw3] at g1 g2 g3;rw[<- hX] at g3;have HN3:=oh (hN2.trans g1);have HG3:=oh g2;have HX3:=oh g3;have HB3:=oh ((HB1.out.ext hm2).nxt g1);have HXZ:Hid (w.heap.size<X):=oh (by omega);have b0:=HB3.out.blk.cell (o:=0) rfl;have b1:=HB3.out.blk.cell (o:=1) rfl;have b2:=HB3.out.blk.cell (o:=2) rfl;have x0:=HX3.out.blk.cell (o:=0) rfl;have x1:=HX3.out.blk.cell (o:=1) rfl;have x2:=HX3.out.blk.cell (o:=2) rfl;have x3:=HX3.out.blk.cell (o:=3) rfl;have x4:=HX3.out.blk.cell (o:=4) rfl;have xf:=HX3.out.blk.frozen;have HW3:=oh hw3;have HXD:=oh hX;clear hN2 g1 g2 g3 hw3 hX hF3 hm2 hz2;go_upto_if 23 with fail
 rw[<- HXD.out,<- HW3.out];go_cut [13] (λv13 wx=>∃ev,v13=ev/\Hid (QSt F P ad w c s gen X G l (zG5 G l gen root key v) ev wx))
 case first =>
  by_cases hr:root=0
  .subst hr;have hlo:zMy G l gen 0 zE9 key v:=zJU (ps:=[]) (q:=[]) HC.out (.inl rfl) rfl rfl (by unfold zG zE9;have:=HC.out.s256;simp[yL,yT];omega) .nil hkb hv List.nodup_nil (λk hk=>by simp at hk) (λh=>absurd rfl h) (by omega);have HLF:=zGm (w:=w3) zE9 key v HN3.out.env HN3.out.sub HG3.out gen 0 hgen (.slice none 0 0) (.slice none 0 0) (.slice none 0 0) (Sl.nil _ _ _ _) (Sl.nil _ _ _ _) (Sl.nil _ _ _ _) hlo;have HPZ:Hid (zG5 G l gen 0 key v=zBo G l gen 0 zE9 key v):=oh (by unfold zG5;rw[if_pos rfl]);unfold pgV at HLF;rw[show ((0:Nat):Int)=0 from rfl] at HLF ⊢;have HLF:=oh HLF;clear hlo;go_wp2_with fail;refine HLF.out.mono ?_;rintro e w9 hq;obtain⟨P9,F9,G9,l9,o,ev,hG9,hN9,rfl,hr9⟩:=hq.q;have hX9:=HX3.out.nxt hN9;have HB9:=oh (HB3.out.nxt hN9);have x0:=hX9.blk.cell (o:=0) rfl;have x1:=hX9.blk.cell (o:=1) rfl;have x2:=hX9.blk.cell (o:=2) rfl;have x3:=hX9.blk.cell (o:=3) rfl;have x4:=hX9.blk.cell (o:=4) rfl;have xf:=hX9.blk.frozen;have mX:=zA.set5 (F:=λk=>k=X) (zA.refl _ w9) (R:=X) (.inr rfl) (.int .i64 (o.id0:Int)) (.int .i64 (o.id1:Int)) (.string o.key) (.bool o.two) (.bool o.news);have hmF:=hX9.mF mX;have HQ:Hid (QSt F P ad w c s gen X G l (zG5 G l gen 0 key v) ev (((((w9.setCell ⟨X,0,none⟩ (.int .i64 (o.id0:Int))).setCell ⟨X,1,none⟩ (.int .i64 (o.id1:Int))).setCell ⟨X,2,none⟩ (.string o.key)).setCell ⟨X,3,none⟩ (.bool o.two)).setCell ⟨X,4,none⟩ (.bool o.news))):=oh (by
    refine⟨P9,F9,G9,l9,o,hG9.var hX9 mX,(HN3.out.trans hN9).var hX9 mX,HB9.out.other mX (by have:=HXZ.out;omega),⟨hX9.blk.set5 _ _ _ _ _,hX9.f,hX9.p,hX9.new⟩,?_⟩;rw[HPZ.out];rcases hr9 with h9|⟨k,f9,el,h1,h2,h3,h4⟩
    .exact .inl h9
    .exact .inr ⟨k,f9,el,h1,h2,h3,h4.mods hmF⟩)
   clear hq hG9 hN9 hr9 hX9 mX hmF;go_wp2_with fail;go_meet;exact⟨ev,rfl,HQ⟩
  .have hri:¬ (root:Int)=0:=by omega
   have hT2:1<=d/\TrD G gen d e0 none root ps pgs:=by
    rcases HT.out.tree with ⟨h,_⟩|h
    .exact absurd h hr
    .exact h
   have hd7:=(HT.out.few HC.out.b256).2;have HLF:=zIE (w:=w3) hgen hkb hv d 16 root e0 none ps pgs 1 HN3.out.env HN3.out.sub HG3.out HC.out hT2.2 HT.out.nodup HU.out (zFl key) (by omega) (by omega) (by omega) hco;have HPZ:Hid (zG5 G l gen root key v=zCs gen key v 16 G l root):=oh (by unfold zG5;rw[if_neg hr]);unfold pgV at HLF;rw[show ((1:Nat):Int)=1 from rfl] at HLF;have HLF:=oh HLF;clear hT2 hd7 hr;go_wp2_with fail;refine HLF.out.mono ?_;rintro e w9 hq;obtain⟨P9,F9,G9,l9,o,ev,hG9,hN9,rfl,hr9⟩:=hq.q;have hX9:=HX3.out.nxt hN9;have HB9:=oh (HB3.out.nxt hN9);have x0:=hX9.blk.cell (o:=0) rfl;have x1:=hX9.blk.cell (o:=1) rfl;have x2:=hX9.blk.cell (o:=2) rfl;have x3:=hX9.blk.cell (o:=3) rfl;have x4:=hX9.blk.cell (o:=4) rfl;have xf:=hX9.blk.frozen;have mX:=zA.set5 (F:=λk=>k=X) (zA.refl _ w9) (R:=X) (.inr rfl) (.int .i64 (o.id0:Int)) (.int .i64 (o.id1:Int)) (.string o.key) (.bool o.two) (.bool o.news);have hmF:=hX9.mF mX;have HQ:Hid (QSt F P ad w c s gen X G l (zG5 G l gen root key v) ev (((((w9.setCell ⟨X,0,none⟩ (.int .i64 (o.id0:Int))).setCell ⟨X,1,none⟩ (.int .i64 (o.id1:Int))).setCell ⟨X,2,none⟩ (.string o.key)).setCell ⟨X,3,none⟩ (.bool o.two)).setCell ⟨X,4,none⟩ (.bool o.news))):=oh (by
    refine⟨P9,F9,G9,l9,o,hG9.var hX9 mX,(HN3.out.trans hN9).var hX9 mX,HB9.out.other mX (by have:=HXZ.out;omega),⟨hX9.blk.set5 _ _ _ _ _,hX9.f,hX9.p,hX9.new⟩,?_⟩;rw[HPZ.out];rcases hr9 with h9|⟨k,f9,el,h1,h2,h3,h4⟩
    .exact .inl h9
    .exact .inr ⟨k,f9,el,h1,h2,h3,h4.mods hmF⟩)
   clear hq hG9 hN9 hr9 hX9 mX hmF;go_wp2_with fail;go_meet;exact⟨ev,rfl,HQ⟩
 obtain⟨ev,rfl,HQ⟩:=hcut;obtain⟨w4,hw4⟩:∃w4,w4=wc:=⟨_,rfl⟩;rw[<- hw4] at HQ ⊢;obtain⟨P4,F4,G4,l4,o,hG4,hN4,hB4,hX4,hr⟩:=HQ.out;have HG4:=oh hG4;have HN4:=oh hN4;have HB4:=oh hB4;have HX4:=oh hX4;have b0:=hB4.blk.cell (o:=0) (v:=.pointer (some ⟨c,0,none⟩)) rfl;have b1:=hB4.blk.cell (o:=1) (v:=.pointer (some ⟨s,0,none⟩)) rfl;have b2:=hB4.blk.cell (o:=2) (v:=.int .u64 (gen:Int)) rfl;have x0:=hX4.blk.cell (o:=0) (v:=.int .i64 (o.id0:Int)) rfl;have x1:=hX4.blk.cell (o:=1) (v:=.int .i64 (o.id1:Int)) rfl;have x2:=hX4.blk.cell (o:=2) (v:=.string o.key) rfl;have x3:=hX4.blk.cell (o:=3) (v:=.bool o.two) rfl;have x4:=hX4.blk.cell (o:=4) (v:=.bool o.news) rfl;clear hG4 hN4 hB4 hX4 hw4 xf HQ;rcases hr with ⟨hs,rfl⟩|⟨k,f4,el,hs,hfr,rfl,hE⟩
 .have HS:=oh hs;have HPM:=oh (HPS.out _ _ _ hs);obtain⟨tw,htw⟩:∃tw,o.two=tw:=⟨_,rfl⟩;rw[htw] at x3;have HTW:=oh htw;clear hs htw;cases tw with
  | false =>
   go_wp2_with fail;go_quiet (fail)
   go_wp2_with fail;refine bodyPost_ret (v:=.tuple #[.int .i64 (o.id0:Int),.bool o.news,.nilIface]) (by simp[results,Tryz.results54,go_sem]) rfl ?_;exact⟨P4,F4,G4,l4,HG4.out.at ((zA.refl _ _).drewN _),HN4.out.trans (zY.ext HN4.out.env HN4.out.sub ((zA.refl _ _).drewN _)),.inl ⟨o.id0,o.news,by rw[HPR.out,HS.out];simp only;rw[if_pos HTW.out],rfl⟩⟩
  | true =>
   obtain⟨w5,hw5⟩:∃w5,w5=(w4.alloc (.cells #[.string o.key] 9)).drew:=⟨_,rfl⟩;have m5:zF w4 w5:=by rw[hw5];exact ((zA.refl _ _).alloc _).drew
   obtain⟨hc4,hf4,hco4,hk4⟩:=HPM.out;have hX5:=HX4.out.ext m5;have hne:∀k,P4 k->F4 k/\k≠X:=λk hk=>⟨HN4.out.sub k hk,λe=>HX4.out.p (e ▸ hk)⟩
   have hkx:=(zAo _).1 (hk4 HTW.out);have hsl1:Sl (λk=>F4 k/\k≠X) w5 1 vZ (.slice (some ⟨w4.heap.size,0,none⟩) 1 1) [o.key]:=by
    have h1:Sl (λk=>F4 k/\k≠X) (w4.alloc (.cells #[.string o.key] 9)) 1 vZ (.slice (some ⟨w4.heap.size,0,none⟩) 1 1) [o.key]:=Sl.one (t := 9) (fz:=(0,0)) (zR rfl) (λf=>Nat.lt_irrefl _ (HN4.out.env.lt _ f.1));rw[hw5];exact h1.ext (zA.refl _ _).drew
   have hsl2:Sl (λk=>F4 k/\k≠X) w5 1 yK (.slice (some ⟨X,0,none⟩) 2 2) [(o.id0:Int),(o.id1:Int)]:=Sl.ids hX5.blk.lt (λh=>h.2 rfl) (hX5.blk.cell (o:=0) rfl) (hX5.blk.cell (o:=1) rfl);have HDN:=zFn (w:=w5) ((HN4.out.env.mods m5.ext).anti (λk h=>h.1)) hne ((HG4.out.at m5).anti (λk h=>h.1)) gen 0 hgen (zCW o) (.slice none 0 0) (.slice (some ⟨w4.heap.size,0,none⟩) 1 1) (.slice (some ⟨X,0,none⟩) 2 2) (Sl.nil _ _ _ _) hsl1 hsl2
    (λhr=>by have h1:=zAm (qU hr);have h2:zG (zCW o)<=100:=by { unfold zG zCW;simp[yL,yT];omega };omega) (.inl rfl) (.inl rfl) (by omega) (by have:=hc4.len;omega) (by omega)
   unfold pgV at HDN;rw[show ((0:Nat):Int)=0 from rfl,show (zCW o).leaf=false from rfl,hw5] at HDN;have HDN:=oh HDN;have HNE:=oh hne;have HF4:=oh hf4;have b0a:=zM b0 (.cells #[.string o.key] 9);have b1a:=zM b1 (.cells #[.string o.key] 9);have b2a:=zM b2 (.cells #[.string o.key] 9);have x2a:=zM x2 (.cells #[.string o.key] 9);have ne0:=World.new_ne w4 _ b0;have ne1:=World.new_ne w4 _ b1;have ne2:=World.new_ne w4 _ b2;have ne3:=World.new_ne w4 _ x2;clear hc4 hf4 hco4 hk4 hX5 hne hkx hsl1 hsl2;rw[hw5] at m5;have M5:=oh m5;clear m5 hw5;go_wp2_with fail;go_region_held3 (λw'=>w'.cell? ⟨w.heap.size,0,none⟩=some (.pointer (some ⟨c,0,none⟩))/\w'.cell? ⟨w.heap.size,1,none⟩=some (.pointer (some ⟨s,0,none⟩))/\w'.cell? ⟨w.heap.size,2,none⟩=some (.int .u64 (gen:Int))/\w'.cell? ⟨X,2,none⟩=some (.string o.key))
    (first|(with_reducible exact⟨b0,b1,b2,x2⟩)|(with_reducible exact⟨b0a,b1a,b2a,x2a⟩)|(with_reducible exact⟨y0,y1,y2,y3⟩)|go_keep)
    (first
     | (go_at_call 93;refine (HDN.out).mono ?_;rintro e w9 ⟨P9,F9,hG9,hN9,hr9⟩;obtain⟨iv,ev,rfl⟩:=hr9.form;have hB9:=(HB4.out.ext M5.out);have y0:=zJW hN9.stp.mods (hB9.blk.cell (o:=0) (v:=.pointer (some ⟨c,0,none⟩)) rfl) HB4.out.p;have y1:=zJW hN9.stp.mods (hB9.blk.cell (o:=1) (v:=.pointer (some ⟨s,0,none⟩)) rfl) HB4.out.p;have y2:=zJW hN9.stp.mods (hB9.blk.cell (o:=2) (v:=.int .u64 (gen:Int)) rfl) HB4.out.p;have y3:=zJW hN9.stp.mods ((HX4.out.ext M5.out).blk.cell (o:=2) (v:=.string o.key) rfl) HX4.out.p)
     | fail)
   have hn9:=zY.less (HN4.out.trans (zY.ext HN4.out.env HN4.out.sub M5.out)) hN9 (λk hk=>⟨HN4.out.grow k hk,λe=>by have:=HFW.out k hk;have:=HXZ.out;omega⟩) (λk h=>h.1);have x4:=(hN9.blk (HX4.out.ext M5.out).blk HX4.out.p).cell (o:=4) (v:=.bool o.news) rfl;have HN9:=oh hn9;have HG9:=oh hG9;clear hN9 hG9 hn9 hB9 y0 y1 y2 y3 b0 b1 b2 x0 x1 x2 x3 b0a b1a b2a x2a ne0 ne1 ne2 ne3;rcases hr9 with ⟨i,hi,he⟩|⟨hno,f,el,he,hE⟩
   .obtain⟨rfl,rfl⟩:iv=.int .i64 (i:Int)/\ev=.nilIface:=by simpa using he
    have HI:=oh hi;clear hi he;go_wp2_with fail;go_quiet (fail)
    go_wp2_with fail;refine bodyPost_ret (v:=.tuple #[.int .i64 (i:Int),.bool o.news,.nilIface]) (by simp[results,Tryz.results54,go_sem]) rfl ?_;exact⟨P9,F9,_,_,HG9.out.at ((zA.refl _ _).drewN _),HN9.out.trans (zY.ext HN9.out.env HN9.out.sub ((zA.refl _ _).drewN _)),.inl ⟨i,o.news,by rw[HPR.out,HS.out];simp only;rw[if_neg (by rw[HTW.out];simp),HI.out],rfl⟩⟩
   .obtain⟨rfl,rfl⟩:iv=.int .i64 0/\ev=zL f:=by simpa using he
    have HNO:=oh hno;have HE:=oh hE;clear hno hE he;go_wp2_with fail;refine (wrap_any HN9.out.env _ _ _ _ HE.out).mono ?_;rintro e w10 ⟨b,rfl,hE5,hm5⟩;have HE5:=oh hE5;have HM5:=oh hm5;clear hE5 hm5;go_wp2_with fail;refine bodyPost_ret (v:=.tuple #[.int .i64 0,.bool false,zL b]) (by simp[results,Tryz.results54,go_sem]) rfl ?_;refine⟨P9,F9,_,_,HG9.out.at HM5.out,HN9.out.trans (zY.ext HN9.out.env HN9.out.sub HM5.out),.inr ⟨_,b,_,by rw[HPR.out,HS.out];simp only;rw[if_neg (by rw[HTW.out];simp),HNO.out],?_,rfl,HE5.out⟩⟩;rw[(zJb HNO.out gen).1,(zJb HNO.out gen).2];exact HF4.out
 .have HS:=oh hs;have HE:=oh hE;have HFR:=oh hfr;clear hs hE hfr;go_wp2_with fail;refine (wrap_any HN4.out.env _ _ _ _ HE.out).mono ?_;rintro e w5 ⟨b,rfl,hE5,hm5⟩;have HE5:=oh hE5;have HM5:=oh hm5;clear hE5 hm5;go_wp2_with fail;refine bodyPost_ret (v:=.tuple #[.int .i64 0,.bool false,zL b]) (by simp[results,Tryz.results54,go_sem]) rfl ?_;exact⟨P4,F4,G4,l4,HG4.out.at HM5.out,HN4.out.trans (zY.ext HN4.out.env HN4.out.sub HM5.out),.inr ⟨k,b,_,by rw[HPR.out,HS.out],HFR.out,rfl,HE5.out⟩⟩
end
end
end Go.Proofs.YteabpacpngaoaaaGreatDoor
