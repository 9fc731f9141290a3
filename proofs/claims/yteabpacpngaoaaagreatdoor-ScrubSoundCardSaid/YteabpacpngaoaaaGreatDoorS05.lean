import Derived.Test.YteabpacpngaoaaaGreatDoorS03
import Derived.Test.YteabpacpngaoaaaGreatDoorB39
namespace Go.Proofs.YteabpacpngaoaaaGreatDoor
open Lib renaming hid->oh
section
open Go.RowKit
attribute [local go_sem ↓] Go.wp_at_zero Go.wp_at_succ
instance (n:NodeA) (size:Nat):Decidable (downOk n size):=by unfold downOk;exact inferInstance
end
section
open Go.RowKit
section
variable {G G':GA}{gen:Nat}
theorem Kids.each{T:TreeT}{lo:ByteArray}{hi:Option ByteArray}{kk:List ByteArray}{cc:List Int}{ps:List PairS}{q:List Nat}(h:Kids T lo hi kk cc ps q):∀c∈cc,∃(k:Nat) (lo':ByteArray) (hi':Option ByteArray) (l':List PairS) (q':List Nat),c=(k:Int)/\T lo' hi' k l' q'/\∀x∈q',x∈q:=by
 induction h with
 | @one lo hi c l q h =>
  intro c' hc;simp only[List.mem_singleton] at hc;exact⟨c,_,_,_,_,hc,h,λ_ hx=>hx⟩
 | @cons lo hi s c keys kids l1 l2 q1 q2 h1 _ _ ih =>
  intro c' hc;rcases List.mem_cons.1 hc with rfl|hc
  .exact⟨c,_,_,_,_,rfl,h1,λ_ hx=>uR _ hx⟩
  .obtain⟨k,lo',hi',l',q',e,t,hs⟩:=ih c' hc;exact⟨k,lo',hi',l',q',e,t,λx hx=>List.mem_append_right _ (hs x hx)⟩
end
def zZ(o:Option (PageA ⊕ (List Int × Nat))):Prop:=∀p n,o=some (.inl p)->decodeA p=.inl n->n.leaf=true->2<=n.entries.length
def vT(l:List Nat)(i:Nat):Prop:=l[i]? = some 1\/l[i]? = some 2
def Wr(G:GA)(l:List Nat)(G1:GA)(l1:List Nat):Prop:=∀i,2<=i->vT l1 i->(G1.view i=G.view i/\vT l i)\/zZ (G1.view i)
section
variable {G G1 G2:GA}{l l1 l2:List Nat}{gen:Nat}
theorem Wr.refl(G:GA)(l:List Nat):Wr G l G l:=λ_ _ h=>.inl ⟨rfl,h⟩
theorem Wr.trans(h:Wr G l G1 l1)(k:Wr G1 l1 G2 l2):Wr G l G2 l2:=λi h2 hu=>by
 rcases k i h2 hu with ⟨k1,k2⟩|k1
 .rcases h i h2 k2 with ⟨h1,h3⟩|h1
  .exact .inl ⟨k1.trans h1,h3⟩
  .exact .inr (by rw[k1];exact h1)
 .exact .inr k1
theorem zAi{n a b:NodeA}{k:ByteArray}(h:cutA n=some (a,k,b))(hl:n.leaf=true)(hw:232<weightN n):2<=a.entries.length/\2<=b.entries.length:=by
 have hr:rightN n=true:=by
  unfold cutA at h;split at h
  .rename_i h1;exact h1.1
  .cases h
 have hf:=form_right hr;have hM:∀e∈n.entries,weightE e<=59:=λe he=>rightE_wt (rightN_ents hr e he)
 obtain⟨_,_,Cr⟩:=apart_wtL (a:=0) hl hf;have hs:=sumE_le n.entries hM;have A4:4<=n.entries.length:=by omega
 obtain⟨L,hL⟩:∃L,n.entries.length=L+2:=⟨n.entries.length-2,by omega⟩;have B7:∀k,k<n.entries.length->∃e,n.entries[k]? = some e/\weightE e<=59/\0<=weightE e/\sumE (n.entries.take (k+1))=sumE (n.entries.take k)+weightE e:=λk hk=>by
  refine⟨n.entries[k],uG hk,hM _ (wN hk),?_,sumE_snoc (uG hk)⟩;have:=weightE_nonneg n.entries[k];omega
 have h0:sumE (n.entries.take 0)=0:=by simp[sumE]
 have B8:sumE (n.entries.take n.entries.length)=sumE n.entries:=by rw[List.take_length]
 obtain⟨x,a1,a2,a3,a4⟩:=near_zero (λa=>2 * sumE (n.entries.take a)-sumE n.entries) 59 1 L (by
  obtain⟨e,_,e2,e3,e4⟩:=B7 0 (by omega);have:=sumE_take_le n.entries 1;simp only[wF] at e4;show 2 * sumE (n.entries.take 1)-sumE n.entries<=59;omega) (by
  obtain⟨e,_,e2,e3,e4⟩:=B7 (1+L) (by omega);rw[show 1+L+1=n.entries.length by omega,B8] at e4;have:=sumE_nonneg (n.entries.take (1+L));show -59<=2 * sumE (n.entries.take (1+L))-sumE n.entries;omega) (λk k1 k2=>by
  obtain⟨e,_,e2,e3,e4⟩:=B7 k (by omega);show 2 * sumE (n.entries.take (k+1))-sumE n.entries-(2 * sumE (n.entries.take k)-sumE n.entries)<=2 * 59;omega)
 have hp:PlaceN n x:=⟨λ_=>by omega,λhc=>(by rw[hl] at hc;cases hc)⟩;have hu:=unlike_eq hf hp;obtain⟨w1,w2,_⟩:=apart_wtL (a:=x) hl hf;obtain⟨y,b1,b2,b3,b4⟩:=cut_best hr hf hp (M:=59) (by split at hu <;> omega);obtain⟨v1,v2,_⟩:=apart_wtL (a:=y) hl hf;rw[cutA_at,b2] at h;have h:apartA n y=(a,k,b):=Option.some.inj h;have hA:a.entries=n.entries.take y:=by
  have:a=(apartA n y).1:=by rw[h]
  rw[this,apart_leafA hl]
 have hB:b.entries=n.entries.drop y:=by
  have:b=(apartA n y).2.2:=by rw[h]
  rw[this,apart_leafB hl]
 have s1:=sumE_le (n.entries.take y) (λe he=>hM e (List.mem_of_mem_take he));have s2:=sumE_le (n.entries.drop y) (λe he=>hM e (List.mem_of_mem_drop he));have s3:=sumE_split n.entries y;rw[hA,hB];omega
theorem zAA{n a b:NodeA}{k:ByteArray}(h:cutA n=some (a,k,b)):a.leaf=n.leaf/\b.leaf=n.leaf:=by
 rw[cutA_at] at h;obtain⟨y,_,hy⟩:=Option.map_eq_some_iff.1 h;have hA:a=(apartA n y).1:=by rw[hy]
 have hB:b=(apartA n y).2.2:=by rw[hy]
 rw[hA,hB,apart_kindA,apart_kindB];exact⟨rfl,rfl⟩
theorem jO{id j:Nat}(h2:2<=j)(hu:vT (spGive l id).1 j):j≠id/\vT l j:=by
 unfold spGive at hu;by_cases e:j=id
 .subst e;exfalso;by_cases Al:j<l.length
  .have:spCheck l (j:Int)=none:=by unfold spCheck;rw[if_neg (by omega)]
   rw[this] at hu;simp only[uK] at hu;split at hu
   .unfold vT at hu;rw[List.getElem?_set_self Al] at hu;simp at hu
   .rename_i n2;split at hu
    .unfold vT at hu;rw[List.getElem?_set_self Al] at hu;simp at hu
    .rename_i n1;exact hu.elim n1 n2
  .have:spCheck l (j:Int)≠none:=by unfold spCheck;rw[if_pos (by omega)];simp
   cases hs:spCheck l (j:Int) with
   | none=>exact this hs
   | some er =>
    rw[hs] at hu;simp only at hu;unfold vT at hu;rw[uV (by omega)] at hu;simp at hu
 .refine⟨e,?_⟩;cases hs:spCheck l (id:Int) with
  | some er=>rw[hs] at hu;exact hu
  | none =>
   rw[hs] at hu;simp only[uK] at hu;unfold vT at hu ⊢;split at hu
   .rw[uY (λh=>e h.symm)] at hu;exact hu
   .split at hu
    .rw[uY (λh=>e h.symm)] at hu;exact hu
    .exact hu
theorem zBB{old i:Nat}(hi:placeI l old=some i):∀j,2<=j->j≠i->vT (placeL l old) j->(placeG G l old).view j=G.view j/\vT l j:=by
 intro j h2 hj hu;have Am:vT (l.set i 2) j->vT l j:=λh=>by
  unfold vT at h ⊢;rw[uY (λe=>hj e.symm)] at h;exact h
 unfold placeI at hi;unfold placeL at hu;unfold placeG;by_cases h0:old=0
 .subst h0;rw[if_neg (by simp)] at hi;rw[if_pos rfl] at hu;rw[if_pos (.inl rfl)];unfold spTake at hu;rw[hi] at hu;exact⟨rfl,Am hu⟩
 .by_cases hf:spFresh l old=true
  .rw[if_neg h0,if_pos hf] at hu;rw[if_pos (.inr hf)];exact⟨rfl,hu⟩
  .rw[if_neg (λh=>hf h.2)] at hi;rw[if_neg h0,if_neg hf,hi] at hu;rw[if_neg (by rintro (h|h);exact h0 h;exact hf h),if_neg (by rw[hi];simp)];obtain⟨e,hu⟩:=jO h2 hu;rw[drop_view,if_neg e];exact⟨rfl,Am hu⟩
theorem jA{old i:Nat}{n:NodeA}(h:downI G l old n=some i):downOk n G.size:=by
 unfold downI at h;split at h
 .rename_i hd;exact hd
 .cases h
theorem yW{gen:Nat}(G:GA)(l:List Nat)(old:Nat)(n:NodeA):(downG G l gen old n).size=G.size:=by
 unfold downG;split
 .rfl
 .show (placeG G l old).size=G.size;unfold placeG;split
  .rfl
  .split <;> rfl
theorem zAB{n:NodeA}(hr:rightN n=true)(hn:n.leaf=true->2<=n.entries.length)(i gen:Nat):zZ (some (.inl ⟨kindA n,(i:Int),gen,bytesN n⟩)):=by
 intro p n' hp hd hl;have hp:(⟨kindA n,(i:Int),gen,bytesN n⟩:PageA)=p:=by injection hp with hp;injection hp
 subst hp;have:decodeA ⟨kindA n,(i:Int),gen,bytesN n⟩=.inl n:=by
  unfold decodeA;have hk:kindA n=3\/kindA n=2:=by unfold kindA;split <;> simp
  have A7:decide (kindA n=3)=n.leaf:=by unfold kindA;cases n.leaf <;> rfl
  simp only;rw[if_pos hk,A7,(getN_iff n.leaf (bytesN n) n).2 ⟨hr,rfl,rfl⟩]
 rw[this] at hd;injection hd with hd;subst hd;exact hn hl
theorem qA{old i:Nat}{n:NodeA}(hn:n.leaf=true->2<=n.entries.length)(hi:downI G l old n=some i):Wr G l (downG G l gen old n) (downL G l old n):=by
 have Ad:=jA hi;have Ae:placeI l old=some i:=by unfold downI at hi;rw[if_pos Ad] at hi;exact hi
 have eG:downG G l gen old n=(placeG G l old).put ⟨kindA n,(i:Int),gen,bytesN n⟩:=by unfold downG;rw[hi]
 have eL:downL G l old n=placeL l old:=by unfold downL;rw[if_pos Ad]
 rw[eG,eL];intro j h2 hu;rw[put_view];simp only[uK];by_cases e:j=i
 .rw[if_pos e];exact .inr (zAB Ad.1 hn i gen)
 .rw[if_neg e];exact .inl (zBB Ae j h2 e hu)
theorem zAC{old i:Nat}{n:NodeA}(hn:n.leaf=true->2<=n.entries.length)(h2:2<=old)(hi:downI G l old n=some i)(hu:vT (downL G l old n) old):zZ ((downG G l gen old n).view old):=by
 have Ad:=jA hi;have Ae:placeI l old=some i:=by unfold downI at hi;rw[if_pos Ad] at hi;exact hi
 have eG:downG G l gen old n=(placeG G l old).put ⟨kindA n,(i:Int),gen,bytesN n⟩:=by unfold downG;rw[hi]
 have eL:downL G l old n=placeL l old:=by unfold downL;rw[if_pos Ad]
 rw[eL] at hu;rw[eG,put_view];simp only[uK];by_cases e:old=i
 .rw[if_pos e];exact zAB Ad.1 hn i gen
 .exfalso;unfold placeI at Ae;unfold placeL at hu;by_cases hf:spFresh l old=true
  .rw[if_pos ⟨by omega,hf⟩] at Ae;exact e (Option.some.inj Ae)
  .rw[if_neg (λh=>hf h.2)] at Ae;rw[if_neg (by omega),if_neg hf,Ae] at hu;exact (jO h2 hu).1 rfl
theorem zAU{old:Nat}{n:NodeA}{o:OutA}(An:256<=G.size)(hn:n.leaf=true->2<=n.entries.length)(h2:2<=old)(h:settleA G l gen old n=.inl (G1,l1,o))(hu:vT l1 old):zZ (G1.view old):=by
 unfold settleA at h;split at h
 .split at h
  .rename_i i hi;simp only[Sum.inl.injEq,Prod.mk.injEq] at h;obtain⟨rfl,rfl,_⟩:=h;exact zAC hn h2 hi hu
  .cases h
 .rename_i hw;split at h
  .cases h
  .rename_i a k b hc;have hl:=zAA hc;split at h
   .split at h
    .cases h
    .rename_i i hi;split at h
     .cases h
     .rename_i j hj;simp only[Sum.inl.injEq,Prod.mk.injEq] at h;obtain⟨rfl,rfl,_⟩:=h;have hh:n.leaf=true->2<=a.entries.length/\2<=b.entries.length:=λA7=>zAi hc A7 (by omega)
      rcases qA (gen:=gen) (λe=>(hh (hl.2 ▸ e)).2) hj old h2 hu with ⟨w1,w2⟩|w1
      .rw[w1];exact zAC (λe=>(hh (hl.1 ▸ e)).1) h2 hi w2
      .exact w1
   .cases h
theorem jB{old:Nat}{n:NodeA}{o:OutA}(An:256<=G.size)(hn:n.leaf=true->2<=n.entries.length)(h:settleA G l gen old n=.inl (G1,l1,o)):Wr G l G1 l1:=by
 unfold settleA at h;split at h
 .split at h
  .rename_i i hi;simp only[Sum.inl.injEq,Prod.mk.injEq] at h;obtain⟨rfl,rfl,_⟩:=h;exact qA hn hi
  .cases h
 .rename_i hw;split at h
  .cases h
  .rename_i a k b hc;have hl:=zAA hc;split at h
   .split at h
    .cases h
    .rename_i i hi;split at h
     .cases h
     .rename_i j hj;simp only[Sum.inl.injEq,Prod.mk.injEq] at h;obtain⟨rfl,rfl,_⟩:=h;have h2:n.leaf=true->2<=a.entries.length/\2<=b.entries.length:=λA7=>zAi hc A7 (by omega)
      exact (qA (gen:=gen) (λe=>(h2 (hl.1 ▸ e)).1) hi).trans (qA (λe=>(h2 (hl.2 ▸ e)).2) hj)
   .cases h
theorem jC(v:List UInt8)(n:Nat)(ids:List Nat):∀(k:Nat) (G:GA),k<=ids.length->∀j,(j∈ids.take k->zZ ((chPuts gen v n ids k G).view j))/\(j ∉ ids.take k->(chPuts gen v n ids k G).view j=G.view j)
 | 0,G,_,j=>⟨λh=>by simp at h,λ_=>rfl⟩
 | k+1,G,hk,j=>by
  obtain⟨h1,h2⟩:=jC v n ids k G (by omega) j;have Bq:k<ids.length:=by omega
  have he:(chPage gen v n ids k).id.toNat=ids[k]:=by
   show (((ids.getD k 0:Nat):Int)).toNat=_;rw[uK];simp[List.getD,Bq]
  rw[chPuts,put_view,he,List.take_succ_eq_append_getElem Bq];by_cases e:j=ids[k]
  .rw[if_pos e];refine⟨λ_ p n' hp hd _=>?_,λh=>absurd (wA.2 (.inr (by simp[e]))) h⟩;have hp:chPage gen v n ids k=p:=by injection hp with hp;injection hp
   subst hp;unfold decodeA at hd;rw[if_neg (by show ¬ ((4:Int)=3\/(4:Int)=2);omega)] at hd;cases hd
  .rw[if_neg e];refine⟨λh=>?_,λh=>h2 (λhm=>h (wA.2 (.inl hm)))⟩;rcases wA.1 h with h|h
   .exact h1 h
   .exact absurd (List.mem_singleton.1 h) e
theorem zBC{key v:ByteArray}{e:EntryA}(h:entryP G l gen key v=.inl (G1,l1,e)):Wr G l G1 l1:=by
 unfold entryP at h;split at h
 .simp only[Sum.inl.injEq,Prod.mk.injEq] at h;obtain⟨rfl,rfl,_⟩:=h;exact Wr.refl _ _
 .split at h
  .rename_i ids l2 ht;simp only[Sum.inl.injEq,Prod.mk.injEq] at h;obtain⟨rfl,rfl,_⟩:=h;have hT:=takeA_taken _ _ _ _ ht;intro j _ hu;obtain⟨k1,k2⟩:=jC (gen:=gen) v.data.toList (G.size-28) ids ids.length G (uA _) j;rw[List.take_length] at k1 k2;by_cases hj:j∈ids
   .exact .inr (k1 hj)
   .refine .inl ⟨k2 hj,?_⟩;unfold vT at hu ⊢;rw[hT.far j hj] at hu;exact hu
  .cases h
theorem zAj:∀(ids:List Nat) (G:GA) (l:List Nat),Wr G l (giveG G ids) (giveL l ids)
 | [],G,l=>Wr.refl G l
 | x :: ids,G,l=>by
  refine Wr.trans (G1:=G.drop x) (l1:=(spGive l x).1) (λj h2 hu=>?_) (zAj ids (G.drop x) (spGive l x).1);obtain⟨e,C7⟩:=jO h2 hu;exact .inl ⟨by rw[drop_view,if_neg e],C7⟩
theorem zAv(n:NodeA)(key:ByteArray)(e:EntryA):n.entries.length<=(withE n key e).entries.length/\(entIs key n.entries=false->n.entries.length+1<=(withE n key e).entries.length):=by
 unfold withE;simp only[uC,List.length_take,List.length_drop,uB,uD];refine⟨by split <;> omega,λh=>?_⟩;rw[if_neg (by rw[h];simp)];omega
theorem Ents.fat{es:List EntryA}{ps:List PairS}{q:List Nat}(h:Ents G gen es ps q):∀i∈q,zZ (G.view i):=by
 induction h with
 | nil=>intro i hi;simp at hi
 | @cons e0 x0 ids es0 l0 q0 _ h2 _ ih =>
  intro i hi;rcases wA.1 hi with hi|hi
  .rcases h2 with ⟨_,_,rfl⟩|⟨_,h⟩
   .simp at hi
   .obtain⟨g,_,hp⟩:=h.page;obtain⟨k,hk,rfl⟩:=List.getElem_of_mem hi;have:=hp k hk;rw[show ids.getD k 0=ids[k] by simp[List.getD,hk]] at this;intro p n e hd _;rw[this] at e;injection e with e;injection e with e;subst e;unfold decodeA at hd;rw[if_neg (by show ¬ ((4:Int)=3\/(4:Int)=2);omega)] at hd;cases hd
  .exact ih i hi
theorem vC(ids:List Nat)(G:GA):(giveG G ids).size=G.size:=(giveG_same ids G).2.1
theorem vD{key v:ByteArray}{e:EntryA}(h:entryP G l gen key v=.inl (G1,l1,e)):G1.size=G.size:=by
 unfold entryP at h;split at h
 .injection h with h;obtain⟨rfl,_⟩:=Prod.mk.inj h;rfl
 .split at h
  .injection h with h;obtain⟨rfl,_⟩:=Prod.mk.inj h;exact (chPuts_same _ _ _ _ _ _).2.1
  .cases h
theorem qQ{old:Nat}{n:NodeA}{o:OutA}(h:settleA G l gen old n=.inl (G1,l1,o)):G1.size=G.size:=by
 unfold settleA at h;split at h
 .split at h
  .injection h with h;obtain⟨rfl,_⟩:=Prod.mk.inj h;exact yW _ _ _ _
  .cases h
 .split at h
  .cases h
  .split at h
   .split at h
    .cases h
    .split at h
     .cases h
     .injection h with h;obtain⟨rfl,_⟩:=Prod.mk.inj h;exact (yW _ _ _ _).trans (yW _ _ _ _)
   .cases h
theorem zAw{id:Nat}{n:NodeA}{key v:ByteArray}{o:OutA}(h:leafA G l gen id n key v=.inl (G1,l1,o)):G1.size=G.size:=by
 unfold leafA at h;split at h
 .cases h
 .rename_i G2 l2 e he;split at h
  .cases h
  .rename_i G3 l3 o3 hs;simp only[Sum.inl.injEq,Prod.mk.injEq] at h;obtain⟨rfl,_⟩:=h;exact (qQ hs).trans ((vD he).trans (vC _ _))
theorem zBW{id:Nat}{n:NodeA}{key v:ByteArray}{o:OutA}(An:256<=G.size)(hn:2<=n.entries.length\/(1<=n.entries.length/\o.news=true))(h:leafA G l gen id n key v=.inl (G1,l1,o)):Wr G l G1 l1/\(2<=id->vT l1 id->zZ (G1.view id)):=by
 unfold leafA at h;split at h
 .cases h
 .rename_i G2 l2 e he;split at h
  .cases h
  .rename_i G3 l3 o3 hs;simp only[Sum.inl.injEq,Prod.mk.injEq] at h;obtain⟨rfl,rfl,h⟩:=h;have hw:=zAv n key e;have Br:2<=(withE n key e).entries.length:=by
    rcases hn with hn|⟨hn,Ai⟩
    .omega
    .have:entIs key n.entries=false:=by rw[<- h] at Ai;simpa using Ai
     have:=hw.2 this;omega
   have Cs:G2.size=G.size:=(vD he).trans (vC _ _);exact⟨((zAj _ G l).trans (zBC he)).trans (jB (by omega) (λ_=>Br) hs),λh2 hu=>zAU (by omega) (λ_=>Br) h2 hs hu⟩
theorem zAV(n:NodeA)(i:Nat)(o:OutA):(joinA n i o).leaf=n.leaf:=by unfold joinA;split <;> rfl
theorem zBD{key v:ByteArray}:∀(f d:Nat) (G:GA) (l:List Nat) (id:Nat) (lo:ByteArray) (hi:Option ByteArray) (ps:List PairS) (q:List Nat) (G1:GA) (l1:List Nat) (o:OutA),CtxG G l->TrD G gen d lo hi id ps q->(∀i∈q,zZ (G.view i))\/(d=1/\o.news=true)->putA gen key v f G l id=.inl (G1,l1,o)->G1.size=G.size/\Wr G l G1 l1/\(d=1->vT l1 id->zZ (G1.view id))
 | 0,_,_,_,_,_,_,_,_,_,_,_,_,_,_,h=>by unfold putA at h;cases h
 | f+1,0,_,_,_,_,_,_,_,_,_,_,_,hT,_,_=>hT.elim
 | f+1,d+1,G,l,id,lo,hi,ps,q,G1,l1,o,hc,hT,hF,h=>by
  obtain⟨n,q,hp,hr,rfl,hb⟩:=hT;have C8:=(pg_load hp).1;rw[putA,C8] at h;simp only at h;by_cases hl:n.leaf=true
  .rw[if_pos hl] at h;refine⟨zAw h,(zBW hc.s256 ?_ h).imp_right (λw _=>w hp.lo)⟩;rcases hF with hF|⟨_,Ai⟩
   .obtain⟨p,h1,_,h3⟩:=hp.page;exact .inl (hF id uI p n h1 h3 hl)
   .refine .inr ⟨?_,Ai⟩;rcases hb with ⟨_,_,A8,he,_⟩|⟨h2,_⟩
    .have:=he.len;rcases Nat.eq_zero_or_pos n.entries.length with h0|h0
     .exact absurd (List.length_eq_zero_iff.1 (by omega)) A8
     .exact h0
    .rw[h2] at hl;cases hl
  .rw[if_neg hl] at h;rcases hb with ⟨h2,_⟩|⟨h2,hk⟩
   .exact absurd h2 hl
   .have hd:¬ d=0:=λe=>by subst e;exact hk.pos
    have C9:∀i∈id :: q,zZ (G.view i):=by
     rcases hF with hF|⟨h1,_⟩
     .exact hF
     .omega
    have B9:n.kids.getD (kidAt key n.keys) 0∈n.kids:=by
     have A4:=hk.len;have Ct:kidAt key n.keys<=n.keys.length:=List.findIdx_le_length;have:kidAt key n.keys<n.kids.length:=by omega
     rw[show n.kids.getD (kidAt key n.keys) 0=n.kids[kidAt key n.keys] by simp[List.getD,this]];exact wN _
    obtain⟨k,lo',hi',l',q',e,t,Ba⟩:=hk.each _ B9;rw[e,uK] at h;split at h
    .cases h
    .rename_i G2 l2 o2 Ca;split at h
     .cases h
     .rename_i G3 l3 o3 hs;simp only[Sum.inl.injEq,Prod.mk.injEq] at h;obtain⟨rfl,rfl,_⟩:=h;obtain⟨z1,w1,_⟩:=zBD f d G l k lo' hi' l' q' G2 l2 o2 hc t (.inl (λi hi=>C9 i (uF _ (Ba i hi)))) Ca;exact⟨(qQ hs).trans z1,w1.trans (jB (by have:=hc.s256;omega) (λA7=>by rw[zAV,h2] at A7;cases A7) hs),λe=>absurd (show d=0 by omega) hd⟩
theorem zBE{x:PairS}{key v:ByteArray}(h:2<=(withP key v true [x]).length):(findP key [x]).isNone=true:=by
 unfold withP at h;split at h
 .rename_i h1;have:x.1≠key:=ltS_ne h1;unfold findP;simp[this]
 .split at h
  .simp at h
  .rename_i h2;unfold findP;simp[h2]
theorem zBF{root d r':Nat}{ps:List PairS}{pgs pgs':List Nat}{key v:ByteArray}{nw:Bool}(hc:CtxG G l)(hT:TD G gen root d ps pgs)(Bs:∀i,6<=i->vT l i->i∈pgs)(hF:2<=ps.length->∀i∈pgs,zZ (G.view i))
  (A9:keyB key=true) (hv:v.size<=4096) (Ai:nw=(findP key ps).isNone) (h:putR G l gen root key v=.inl (G1,l1,(r',nw))) (h6:∀i∈pgs',6<=i/\vT l1 i) (h2:2<=(withP key v true ps).length):∀i∈pgs',zZ (G1.view i):=by
 have key0:Wr G l G1 l1/\(2<=ps.length\/(ps.length=1/\∀i∈pgs,vT l1 i->zZ (G1.view i))):=by
  rcases hT.tree with ⟨rfl,rfl,rfl,rfl⟩|⟨hd,A3⟩
  .have:=withP_len key v true [];simp at this h2;omega
  .have A8:=TrD.ne _ _ _ _ _ _ A3;have A4:2<=ps.length\/ps.length=1:=by
    have:=List.length_pos_iff.2 A8;omega
   have A5:root≠0:=by
    obtain⟨r,hr⟩:=TrD.head _ _ _ _ _ _ A3;have:=hT.lt root (by rw[hr];simp);omega
   have Bb:putCheck key v=none:=by unfold putCheck;rw[if_neg (by rw[A9];simp),if_neg (by omega)]
   unfold putR at h;rw[Bb] at h;simp only at h;rw[if_neg A5] at h;split at h
   .cases h
   .rename_i G2 l2 o hp;have Ao:(∀i∈pgs,zZ (G.view i))\/(d=1/\o.news=true):=by
     rcases A4 with hl|hl
     .exact .inl (hF hl)
     .refine .inr ⟨?_,?_⟩
      .have:=(TrD.count _ _ _ _ _ _ A3).2.1;rw[hl] at this;rcases uZ 1 d with Al|Bc
       .have:2 ^ 1<=2 ^ (d-1):=uQ (by omega) (by omega);omega
       .omega
      .obtain⟨x,rfl⟩:∃x,ps=[x]:=List.length_eq_one_iff.1 hl;have Cb:=zBE h2;have:o.news=nw:=by
        split at h
        .injection h with h;simp only[Prod.mk.injEq] at h;exact h.2.2.2
        .split at h
         .cases h
         .injection h with h;simp only[Prod.mk.injEq] at h;exact h.2.2.2
       rw[this,Ai];exact Cb
    obtain⟨z1,w1,w3⟩:=zBD 16 d G l root e0 none ps pgs G2 l2 o hc A3 Ao hp;have hw:Wr G2 l2 G1 l1:=by
     split at h
     .injection h with h;simp only[Prod.mk.injEq] at h;obtain⟨rfl,rfl,_⟩:=h;exact Wr.refl _ _
     .split at h
      .cases h
      .rename_i i hi;injection h with h;simp only[Prod.mk.injEq] at h;obtain⟨rfl,rfl,_⟩:=h;exact qA (λA7=>by cases A7) hi
    refine⟨w1.trans hw,A4.imp id (λhl=>⟨hl,λi hi hu=>?_⟩)⟩;have Cc:d=1:=by
     have:=(TrD.count _ _ _ _ _ _ A3).2.1;rw[hl] at this;rcases uZ 1 d with Al|Bc
     .have:2 ^ 1<=2 ^ (d-1):=uQ (by omega) (by omega);omega
     .omega
    subst Cc;obtain⟨n,q,Cu,hr,rfl,hb⟩:=A3;have Bd:zZ (G.view i)\/i=root:=by
     rcases List.mem_cons.1 hi with e|hi
     .exact .inr e
     .rcases hb with ⟨_,_,_,he,_⟩|⟨_,hk⟩
      .exact .inl (he.fat i hi)
      .exact hk.pos.elim
    rcases (w1.trans hw) i (hT.lt i hi).1 hu with ⟨x1,_⟩|x1
    .rcases Bd with Bd|rfl
     .rw[x1];exact Bd
     .rcases hw i (hT.lt i hi).1 hu with ⟨y1,y2⟩|y1
      .rw[y1];exact w3 rfl y2
      .exact y1
    .exact x1
 intro i hi;obtain⟨i6,iu⟩:=h6 i hi;rcases key0.1 i (by omega) iu with ⟨w1,w2⟩|w1
 .rcases key0.2 with hl|hl
  .rw[w1];exact hF hl i (Bs i i6 w2)
  .exact hl.2 i (Bs i i6 w2) iu
 .exact w1
end
section
variable {G:GA}{gen:Nat}{T:TreeT}
theorem Kids.count2{q0:List Nat}{sz a:Nat}{lo:ByteArray}{hi:Option ByteArray}{kk:List ByteArray}{cc:List Int}{l:List PairS}{q:List Nat}(hT:∀lo hi c l q',(∀i∈q',i∈q0)->T lo hi c l q'->q'.length+1<=l.length+chS sz l/\a<=l.length)(h:Kids T lo hi kk cc l q) :
  (∀i∈q,i∈q0)->q.length+kk.length+1<=l.length+chS sz l/\(kk.length+1) * a<=l.length:=by
 induction h with
 | one h=>intro hq;have:=hT _ _ _ _ _ hq h;simpa using this
 | cons h _ _ ih =>
  intro hq;have h1:=hT _ _ _ _ _ (λi hi=>hq i (uR _ hi)) h;have h2:=ih (λi hi=>hq i (List.mem_append_right _ hi));simp only[uC,uB,chS_append];have m1:∀k:Nat,(k+1+1) * a=(k+1) * a+a:=λk=>wR _ _
  rw[m1];omega
theorem TrD.count2:∀(d:Nat) (lo:ByteArray) (hi:Option ByteArray) (id:Nat) (l:List PairS) (q:List Nat),TrD G gen d lo hi id l q->(∀i∈q,zZ (G.view i))->q.length+1<=l.length+chS G.size l/\2 ^ d<=l.length
 | 0,_,_,_,_,_,h,_=>h.elim
 | d+1,lo,hi,id,l,q,h,hF=>by
  obtain⟨n,q,hp,hr,rfl,h⟩:=h;rcases h with ⟨hl,rfl,A8,he,_⟩|⟨hl,hk⟩
  .have hc:=he.count (rightN_ents hr);obtain⟨p,h1,_,h3⟩:=hp.page;have h2:=hF id uI p n h1 h3 hl;have h4:=he.len;simp only[uB];refine⟨by omega,by simp;omega⟩
  .have h2:=(rightN_sz hr).2.2 hl;have A4:=hk.len;have h3:=hk.count2 (q0:=q) (sz:=G.size) (a:=2 ^ d) (λlo hi c l q' hs t=>TrD.count2 d lo hi c l q' t (λi hi=>hF i (uF _ (hs i hi)))) (λi hi=>hi);obtain⟨k,Cd⟩:∃k,n.keys.length=k+1:=⟨n.keys.length-1,by omega⟩;rw[Cd] at h3;have m1:(k+1+1) * 2 ^ d=k * 2 ^ d+2 ^ d+2 ^ d:=by rw[wR,wR]
   rw[m1] at h3;have e:2 ^ (d+1)=2 ^ d+2 ^ d:=by rw[Nat.pow_succ];omega
   simp only[uB];rw[e];omega
theorem TD.count2{root d:Nat}{ps:List PairS}{pgs:List Nat}(h:TD G gen root d ps pgs)(hF:2<=ps.length->∀i∈pgs,zZ (G.view i)):pgs.length<=ps.length+chS G.size ps/\(2<=ps.length->pgs.length+1<=ps.length+chS G.size ps/\2 ^ d<=ps.length)/\(ps.length<=1->d<=1):=by
 rcases h.tree with ⟨_,rfl,rfl,rfl⟩|⟨hd,hT⟩
 .simp
 .have A8:=TrD.ne _ _ _ _ _ _ hT;have Ce:=List.length_pos_iff.2 A8;rcases uZ 1 ps.length with h2|h2
  .have hc:=TrD.count2 _ _ _ _ _ _ hT (hF h2);exact⟨by omega,λ_=>hc,λh=>by omega⟩
  .have hc:=TrD.count _ _ _ _ _ _ hT;refine⟨by omega,λh=>by omega,λ_=>?_⟩;rcases uZ 1 d with Al|Bc
   .have:2 ^ 1<=2 ^ (d-1):=uQ (by omega) (by omega);omega
   .exact Bc
end
end
section
open Go.RowKit
attribute [local go_sem ↓] Go.wp_at_zero Go.wp_at_succ
def zBt[GhoI](F P:Nat->Prop)(ad:Nat->Addr)(w:World)(c s:Nat)(G:GA)(l:List Nat)(r:StA (Nat × Bool))(e:Ending)(w':World):Prop :=
  ∃(P' F':Nat->Prop) (G':GA) (l':List Nat),PgR F' w' P' c s G' l'/\Nxt P P' F F' ad w w' /\
    ((∃ i nw, r = .inl (G', l', (i, nw)) /\ e = .returned (.tuple #[.int .i64 ((i : Nat) : Int), .bool nw, .nilIface])) \/
     (∃k f el,r=.inr k/\FrG G l G' l'/\e=.returned (.tuple #[.int .i64 0,.bool false,faultV f])/\ErrC F' ad w' (faultV f) el k))
def qZ(G:GA)(l:List Nat)(gen root:Nat)(key v:ByteArray):StA OutA:=if root=0 then leafA G l gen 0 leaf0 key v else putA gen key v 16 G l root
theorem zAk{G:GA}{l:List Nat}{gen root:Nat}{key v:ByteArray}(hk:keyB key=true)(hv:v.size<=4096):putR G l gen root key v=match qZ G l gen root key v with
  | .inr k=>.inr k
  | .inl (G1,l1,o)=>if o.two=false then .inl (G1,l1,(o.id0,o.news)) else match downI G1 l1 0 (rootA o) with
   | none=>.inr (downK G1 (rootA o))
   | some i=>.inl (downG G1 l1 gen 0 (rootA o),downL G1 l1 0 (rootA o),(i,o.news)):=by
 unfold putR;rw[show putCheck key v=none by unfold putCheck;rw[if_neg (by rw[hk];simp),if_neg (by omega)]];rfl
section
variable {G G1:GA}{l l1:List Nat}{gen root d:Nat}{ps:List PairS}{pgs:List Nat}
theorem zAD{key v:ByteArray}(hc:CtxG G l)(hT:TD G gen root d ps pgs)(hu:UseL l (λk=>k∈pgs))(A9:keyB key=true)(hv:v.size<=4096){o:OutA}(h:qZ G l gen root key v=.inl (G1,l1,o)) :
  CtxG G1 l1/\FrG G l G1 l1/\G1.cost<=G.cost+60/\(o.two=true->keyB o.key=true):=by
 unfold qZ at h;have hs:=hc.s256;rcases hT.tree with ⟨rfl,rfl,rfl,rfl⟩|⟨hd,A3⟩
 .rw[if_pos rfl] at h;rcases leafPut_tr (gen:=gen) (lo:=e0) (hi:=none) (n:=leaf0) (key:=key) (v:=v) (ps:=[]) (q:=[]) hc (.inl rfl) rfl rfl (by unfold weightN leaf0;simp[sumE,sumK];omega) .nil (λx hx=>by simp at hx) (inB_all key) A9 hv List.nodup_nil (λk hk=>by simp at hk) (λh=>absurd rfl h) with ⟨a1,a2⟩|⟨G2,l2,o2,pgs,a1,a2,a3,a4,a5⟩
  .rw[a1] at h;cases h
  .have Be:=leaf_cost hv hc.s256 hc.s1024 h;rw[a1] at h;injection h with h;injection h with h1 h2;injection h2 with h2 h3;subst h1 h2 h3;exact⟨a3.ctx,a3.upd.fr (λi hi=>by rcases hi with ⟨_,h⟩|h;exact absurd rfl h;simp at h),by omega,λh2=>a3.keys _ (by unfold outKeys;rw[if_pos h2];simp)⟩
 .have Bt:=(hT.few hc.b256).2;have A5:root≠0:=by
   obtain⟨r,hr⟩:=TrD.head _ _ _ _ _ _ A3;have:=hT.lt root (by rw[hr];simp);omega
  rw[if_neg A5] at h;have Be:=put_cost hv 16 G l root hc.s256 hc.s1024 h;rcases put_tr (gen:=gen) A9 hv d 16 G l root e0 none ps pgs hc A3 hT.nodup hu (inB_all key) (by omega) with ⟨a1,a2⟩|⟨G2,l2,o2,pgs',a1,a2,a3,a4⟩
  .rw[a1] at h;cases h
  .rw[a1] at h;injection h with h;injection h with h1 h2;injection h2 with h2 h3;subst h1 h2 h3;exact⟨a3.ctx,a3.upd.fr (λi hi=>(hT.lt i hi).1),by omega,λh2=>a3.keys _ (by unfold outKeys;rw[if_pos h2];simp)⟩
end
section
variable {P P0 P' P1 P2 F F0 F' F1 F2:Nat->Prop}{ad:Nat->Addr}{w0 w w' w1 w2:World}{c s:Nat}{G:GA}{l:List Nat}
theorem Nxt.less(n1:Nxt P P1 F F1 ad w w1)(n2:Nxt P1 P2 F' F2 ad w1 w2)(h1:∀k,F k->F' k)(h2:∀k,F' k->F1 k):Nxt P P2 F F2 ad w w2 :=
 ⟨n1.stp.trans n2.stp,n2.sub,λk h=>n2.grow k (h1 k h),λk hk h=>n1.oldF k hk (h2 k (n2.oldF k (uN hk n1.size) h)),n2.env⟩
def QSt[GhoI](F P:Nat->Prop)(ad:Nat->Addr)(w:World)(c s gen X:Nat)(G:GA)(l:List Nat)(r:StA OutA)(ev:Value)(wx:World):Prop :=
 ∃(P' F':Nat->Prop) (G':GA) (l':List Nat) (o:OutA),PgR F' wx P' c s G' l'/\Nxt P P' F F' ad w wx/\VarR F' P' w wx w.heap.size #[.pointer (some ⟨c,0,none⟩),.pointer (some ⟨s,0,none⟩),.int .u64 (gen:Int)] 120 /\
  VarR F' P' w wx X (outC o) 169 /\ ((r=.inl (G',l',o)/\ev=.nilIface)\/(∃k f el,r=.inr k/\FrG G l G' l'/\ev=faultV f/\ErrC F' ad wx (faultV f) el k))
theorem jD{n:NodeA}(h:downI G l 0 n=none)(gen:Nat):downG G l gen 0 n=G/\downL G l 0 n=l:=by
 refine⟨by unfold downG;rw[h],?_⟩;unfold downI at h;unfold downL;split at h
 .rename_i hd;rw[if_pos hd];unfold placeI at h;rw[if_neg (by simp)] at h;unfold placeL;rw[if_pos rfl];unfold spTake;rw[h]
 .rename_i hd;rw[if_neg hd]
theorem Sl.ids{x y:Int}{b:Nat}(hb:b<w.heap.size)(hF:¬ F b)(h0:w.cell? ⟨b,0,none⟩=some (.int .i64 x))(h1:w.cell? ⟨b,1,none⟩=some (.int .i64 y)):Sl F w 1 encI (.slice (some ⟨b,0,none⟩) 2 2) [x,y]:=by
 refine⟨_,2,rfl,uA _,by simp[maxLen],by simp,.inr ⟨b,0,rfl,hb,hF,λi z hi j u hu=>?_⟩⟩;have hj:j=0/\u=.int .i64 z:=by
  cases j with
  | zero=>exact⟨rfl,by simpa[encI] using hu.symm⟩
  | succ j=>simp[encI] at hu
 obtain⟨rfl,rfl⟩:=hj;match i,hi with
 | 0,hi=>simp only[List.getElem?_cons_zero,Option.some.injEq] at hi;subst hi;exact h0
 | 1,hi=>simp only[List.getElem?_cons_succ,List.getElem?_cons_zero,Option.some.injEq] at hi;subst hi;exact h1
 | i+2,hi=>simp at hi
set_option maxRecDepth 100000 in
set_option maxHeartbeats 4000000 in
theorem zAE[GhoI]{gen root d:Nat}{ps:List PairS}{pgs:List Nat}{key v:ByteArray}(hL:Env F ad w)(hP:∀k,P k->F k)(h:PgR F w P c s G l)(Af:gen<18446744073709551616)(hc:CtxG G l)(hT:TD G gen root d ps pgs)(hu:UseL l (λk=>k∈pgs))(A9:keyB key=true)(hv:v.size<=4096)(Be:G.cost+300<=1000000) :
  Calls Tryz.prog 54 #[pgV c s gen,.int .i64 (root:Int),.string key,.string v] w (zBt F P ad w c s G l (putR G l gen root key v)):=by
 obtain⟨w1,Ap⟩:∃w1,w1=w.alloc (.cells #[.pointer (some ⟨c,0,none⟩),.pointer (some ⟨s,0,none⟩),.int .u64 (gen:Int)] 120):=⟨_,rfl⟩;have m0:Ext w w1:=by rw[Ap];exact (Mods.refl _ w).alloc _
 have hz:w1.heap.size=w.heap.size+1:=by rw[Ap];simp
 have hN:Nxt P P F (λk=>F k\/k=w.heap.size) ad w w1:=Nxt.new hL hP (Q:=λk=>k=w.heap.size) m0 (λk hk=>by omega) (λk hk=>by omega);have hB:VarR (λk=>F k\/k=w.heap.size) P w w1 w.heap.size #[.pointer (some ⟨c,0,none⟩),.pointer (some ⟨s,0,none⟩),.int .u64 (gen:Int)] 120:=⟨by rw[Ap];exact Blk.new w _ _,.inr rfl,λhp=>by have:=h.bd _ hp;omega,uA _⟩;have hG:=h.plusNew hP (Q:=λk=>k=w.heap.size) m0 (λk hk=>by omega);have Aq:=inCheck_any (c:=c) (s:=s) hN.env gen key v (.inr hv);rw[show checkK key v=none by unfold checkK;rw[if_neg (by rw[A9];simp),if_neg (by omega)]] at Aq;have Cf:=oh (λ(G1:GA) (l1:List Nat) (o:OutA) (h:qZ G l gen root key v=.inl (G1,l1,o))=>zAD hc hT hu A9 hv h);have B2:=oh (zAk (G:=G) (l:=l) (gen:=gen) (root:=root) A9 hv);have HC:=oh hc;have HT:=oh hT;have HU:=oh hu;have Cg:=oh hB;have Bf:=oh hN;have Ch:=oh hG;have Ci:=oh (λk (hk:F k)=>hL.lt k hk);have Cj:=oh Ap;unfold pgV at Aq ⊢;have Aq:=oh Aq;clear hL hP h m0 hN hB hG hc hT hu Ap
 go_enter Tryz.func54, Tryz.ntmps54
 go_wp2_with fail;rw[<- Cj.out];refine Aq.out.mono ?_;rintro e w2 ⟨ev,rfl,hE,Ar⟩;cases hE
 have Bg:=Bf.out.trans (Nxt.ext Bf.out.env Bf.out.sub Ar);have Ck:=Ar.size;obtain⟨g1,g2,g3⟩:=grow1 (w0:=w) Bg (Ch.out.at Ar) outZc 169 (by omega);obtain⟨w3,Bh⟩:∃w3,w3=w2.alloc (.cells outZc 169):=⟨_,rfl⟩;obtain⟨X,hX⟩:∃X,X=w2.heap.size:=⟨_,rfl⟩;obtain⟨F3,Bu⟩:∃F3:Nat->Prop,F3=λk=>(F k\/k=w.heap.size)\/k=w2.heap.size:=⟨_,rfl⟩
 rw[<- Bu,<- Bh] at g1 g2 g3;rw[<- hX] at g3;have Aj:=oh (Bg.trans g1);have Bv:=oh g2;have Aa:=oh g3;have As:=oh ((Cg.out.ext Ar).nxt g1);have Bi:Hid (w.heap.size<X):=oh (by omega);have b0:=As.out.blk.cell (o:=0) rfl;have b1:=As.out.blk.cell (o:=1) rfl;have b2:=As.out.blk.cell (o:=2) rfl;have x0:=Aa.out.blk.cell (o:=0) rfl;have x1:=Aa.out.blk.cell (o:=1) rfl;have x2:=Aa.out.blk.cell (o:=2) rfl;have x3:=Aa.out.blk.cell (o:=3) rfl;have x4:=Aa.out.blk.cell (o:=4) rfl;have xf:=Aa.out.blk.frozen;have Cl:=oh Bh;have Cm:=oh hX;clear Bg g1 g2 g3 Bh hX Bu Ar Ck;go_upto_if 23 with fail
 rw[<- Cm.out,<- Cl.out];go_cut [13] (λv13 wx=>∃ev,v13=ev/\Hid (QSt F P ad w c s gen X G l (qZ G l gen root key v) ev wx))
 case first =>
  by_cases hr:root=0
  .subst hr;have Bw:LeafOk G l gen 0 leaf0 key v:=leafOk_of (ps:=[]) (q:=[]) HC.out (.inl rfl) rfl rfl (by unfold weightN leaf0;have:=HC.out.s256;simp[sumE,sumK];omega) .nil A9 hv List.nodup_nil (λk hk=>by simp at hk) (λh=>absurd rfl h) (by omega);have A6:=insLeaf_any (w:=w3) leaf0 key v Aj.out.env Aj.out.sub Bv.out gen 0 Af (.slice none 0 0) (.slice none 0 0) (.slice none 0 0) (Sl.nil _ _ _ _) (Sl.nil _ _ _ _) (Sl.nil _ _ _ _) Bw;have Bj:Hid (qZ G l gen 0 key v=leafA G l gen 0 leaf0 key v):=oh (by unfold qZ;rw[if_pos rfl]);unfold pgV at A6;rw[show ((0:Nat):Int)=0 from rfl] at A6 ⊢;have A6:=oh A6;clear Bw;go_wp2_with fail;refine A6.out.mono ?_;rintro e w9 hq;obtain⟨P9,F9,G9,l9,o,ev,Ab,A1,rfl,Ac⟩:=hq.q;have A0:=Aa.out.nxt A1;have Bk:=oh (As.out.nxt A1);have x0:=A0.blk.cell (o:=0) rfl;have x1:=A0.blk.cell (o:=1) rfl;have x2:=A0.blk.cell (o:=2) rfl;have x3:=A0.blk.cell (o:=3) rfl;have x4:=A0.blk.cell (o:=4) rfl;have xf:=A0.blk.frozen;have mX:=Mods.set5 (F:=λk=>k=X) (Mods.refl _ w9) (R:=X) (.inr rfl) (.int .i64 (o.id0:Int)) (.int .i64 (o.id1:Int)) (.string o.key) (.bool o.two) (.bool o.news);have At:=A0.mF mX;have HQ:Hid (QSt F P ad w c s gen X G l (qZ G l gen 0 key v) ev (((((w9.setCell ⟨X,0,none⟩ (.int .i64 (o.id0:Int))).setCell ⟨X,1,none⟩ (.int .i64 (o.id1:Int))).setCell ⟨X,2,none⟩ (.string o.key)).setCell ⟨X,3,none⟩ (.bool o.two)).setCell ⟨X,4,none⟩ (.bool o.news))):=oh (by
    refine⟨P9,F9,G9,l9,o,Ab.var A0 mX,(Aj.out.trans A1).var A0 mX,Bk.out.other mX (by have:=Bi.out;omega),⟨A0.blk.set5 _ _ _ _ _,A0.f,A0.p,A0.new⟩,?_⟩;rw[Bj.out];rcases Ac with h9|⟨k,f9,el,h1,h2,h3,h4⟩
    .exact .inl h9
    .exact .inr ⟨k,f9,el,h1,h2,h3,h4.mods At⟩)
   clear hq Ab A1 Ac A0 mX At;go_wp2_with fail;go_meet;exact⟨ev,rfl,HQ⟩
  .have Cv:¬ (root:Int)=0:=by omega
   have A3:1<=d/\TrD G gen d e0 none root ps pgs:=by
    rcases HT.out.tree with ⟨h,_⟩|h
    .exact absurd h hr
    .exact h
   have Bt:=(HT.out.few HC.out.b256).2;have A6:=insPut_any (w:=w3) Af A9 hv d 16 root e0 none ps pgs 1 Aj.out.env Aj.out.sub Bv.out HC.out A3.2 HT.out.nodup HU.out (inB_all key) (by omega) (by omega) (by omega) Be;have Bj:Hid (qZ G l gen root key v=putA gen key v 16 G l root):=oh (by unfold qZ;rw[if_neg hr]);unfold pgV at A6;rw[show ((1:Nat):Int)=1 from rfl] at A6;have A6:=oh A6;clear A3 Bt hr;go_wp2_with fail;refine A6.out.mono ?_;rintro e w9 hq;obtain⟨P9,F9,G9,l9,o,ev,Ab,A1,rfl,Ac⟩:=hq.q;have A0:=Aa.out.nxt A1;have Bk:=oh (As.out.nxt A1);have x0:=A0.blk.cell (o:=0) rfl;have x1:=A0.blk.cell (o:=1) rfl;have x2:=A0.blk.cell (o:=2) rfl;have x3:=A0.blk.cell (o:=3) rfl;have x4:=A0.blk.cell (o:=4) rfl;have xf:=A0.blk.frozen;have mX:=Mods.set5 (F:=λk=>k=X) (Mods.refl _ w9) (R:=X) (.inr rfl) (.int .i64 (o.id0:Int)) (.int .i64 (o.id1:Int)) (.string o.key) (.bool o.two) (.bool o.news);have At:=A0.mF mX;have HQ:Hid (QSt F P ad w c s gen X G l (qZ G l gen root key v) ev (((((w9.setCell ⟨X,0,none⟩ (.int .i64 (o.id0:Int))).setCell ⟨X,1,none⟩ (.int .i64 (o.id1:Int))).setCell ⟨X,2,none⟩ (.string o.key)).setCell ⟨X,3,none⟩ (.bool o.two)).setCell ⟨X,4,none⟩ (.bool o.news))):=oh (by
    refine⟨P9,F9,G9,l9,o,Ab.var A0 mX,(Aj.out.trans A1).var A0 mX,Bk.out.other mX (by have:=Bi.out;omega),⟨A0.blk.set5 _ _ _ _ _,A0.f,A0.p,A0.new⟩,?_⟩;rw[Bj.out];rcases Ac with h9|⟨k,f9,el,h1,h2,h3,h4⟩
    .exact .inl h9
    .exact .inr ⟨k,f9,el,h1,h2,h3,h4.mods At⟩)
   clear hq Ab A1 Ac A0 mX At;go_wp2_with fail;go_meet;exact⟨ev,rfl,HQ⟩
 obtain⟨ev,rfl,HQ⟩:=hcut;obtain⟨w4,Bx⟩:∃w4,w4=wc:=⟨_,rfl⟩;rw[<- Bx] at HQ ⊢;obtain⟨P4,F4,G4,l4,o,By,Bz,Au,Ag,hr⟩:=HQ.out;have Bl:=oh By;have A2:=oh Bz;have B3:=oh Au;have Ak:=oh Ag;have b0:=Au.blk.cell (o:=0) (v:=.pointer (some ⟨c,0,none⟩)) rfl;have b1:=Au.blk.cell (o:=1) (v:=.pointer (some ⟨s,0,none⟩)) rfl;have b2:=Au.blk.cell (o:=2) (v:=.int .u64 (gen:Int)) rfl;have x0:=Ag.blk.cell (o:=0) (v:=.int .i64 (o.id0:Int)) rfl;have x1:=Ag.blk.cell (o:=1) (v:=.int .i64 (o.id1:Int)) rfl;have x2:=Ag.blk.cell (o:=2) (v:=.string o.key) rfl;have x3:=Ag.blk.cell (o:=3) (v:=.bool o.two) rfl;have x4:=Ag.blk.cell (o:=4) (v:=.bool o.news) rfl;clear By Bz Au Ag Bx xf HQ;rcases hr with ⟨hs,rfl⟩|⟨k,f4,el,hs,C0,rfl,hE⟩
 .have HS:=oh hs;have Cn:=oh (Cf.out _ _ _ hs);obtain⟨tw,Bm⟩:∃tw,o.two=tw:=⟨_,rfl⟩;rw[Bm] at x3;have B4:=oh Bm;clear hs Bm;cases tw with
  | false =>
   go_wp2_with fail;go_quiet (fail)
   go_wp2_with fail;refine bodyPost_ret (v:=.tuple #[.int .i64 (o.id0:Int),.bool o.news,.nilIface]) (by simp[results,Tryz.results54,go_sem]) rfl ?_;exact⟨P4,F4,G4,l4,Bl.out.at ((Mods.refl _ _).drewN _),A2.out.trans (Nxt.ext A2.out.env A2.out.sub ((Mods.refl _ _).drewN _)),.inl ⟨o.id0,o.news,by rw[B2.out,HS.out];simp only;rw[if_pos B4.out],rfl⟩⟩
  | true =>
   obtain⟨w5,Av⟩:∃w5,w5=(w4.alloc (.cells #[.string o.key] 9)).drew:=⟨_,rfl⟩;have m5:Ext w4 w5:=by rw[Av];exact ((Mods.refl _ _).alloc _).drew
   obtain⟨C1,C2,Bn,C3⟩:=Cn.out;have B5:=Ak.out.ext m5;have A8:∀k,P4 k->F4 k/\k≠X:=λk hk=>⟨A2.out.sub k hk,λe=>Ak.out.p (e ▸ hk)⟩
   have Co:=(keyB_iff _).1 (C3 B4.out);have Aw:Sl (λk=>F4 k/\k≠X) w5 1 encS (.slice (some ⟨w4.heap.size,0,none⟩) 1 1) [o.key]:=by
    have h1:Sl (λk=>F4 k/\k≠X) (w4.alloc (.cells #[.string o.key] 9)) 1 encS (.slice (some ⟨w4.heap.size,0,none⟩) 1 1) [o.key]:=Sl.one (t := 9) (fz:=(0,0)) (heap_at rfl) (λf=>Nat.lt_irrefl _ (A2.out.env.lt _ f.1));rw[Av];exact h1.ext (Mods.refl _ _).drew
   have Ax:Sl (λk=>F4 k/\k≠X) w5 1 encI (.slice (some ⟨X,0,none⟩) 2 2) [(o.id0:Int),(o.id1:Int)]:=Sl.ids B5.blk.lt (λh=>h.2 rfl) (B5.blk.cell (o:=0) rfl) (B5.blk.cell (o:=1) rfl);have Ay:=down_any (w:=w5) ((A2.out.env.mods m5.ext).anti (λk h=>h.1)) A8 ((Bl.out.at m5).anti (λk h=>h.1)) gen 0 Af (rootA o) (.slice none 0 0) (.slice (some ⟨w4.heap.size,0,none⟩) 1 1) (.slice (some ⟨X,0,none⟩) 2 2) (Sl.nil _ _ _ _) Aw Ax
    (λhr=>by have h1:=weight_len (form_right hr);have h2:weightN (rootA o)<=100:=by { unfold weightN rootA;simp[sumE,sumK];omega };omega) (.inl rfl) (.inl rfl) (by omega) (by have:=C1.len;omega) (by omega)
   unfold pgV at Ay;rw[show ((0:Nat):Int)=0 from rfl,show (rootA o).leaf=false from rfl,Av] at Ay;have Ay:=oh Ay;have Cw:=oh A8;have Cp:=oh C2;have b0a:=cell_alloc b0 (.cells #[.string o.key] 9);have b1a:=cell_alloc b1 (.cells #[.string o.key] 9);have b2a:=cell_alloc b2 (.cells #[.string o.key] 9);have x2a:=cell_alloc x2 (.cells #[.string o.key] 9);have ne0:=World.new_ne w4 _ b0;have ne1:=World.new_ne w4 _ b1;have ne2:=World.new_ne w4 _ b2;have ne3:=World.new_ne w4 _ x2;clear C1 C2 Bn C3 B5 A8 Co Aw Ax;rw[Av] at m5;have M5:=oh m5;clear m5 Av;go_wp2_with fail;go_region_held3 (λw'=>w'.cell? ⟨w.heap.size,0,none⟩=some (.pointer (some ⟨c,0,none⟩))/\w'.cell? ⟨w.heap.size,1,none⟩=some (.pointer (some ⟨s,0,none⟩))/\w'.cell? ⟨w.heap.size,2,none⟩=some (.int .u64 (gen:Int))/\w'.cell? ⟨X,2,none⟩=some (.string o.key))
    (first|(with_reducible exact⟨b0,b1,b2,x2⟩)|(with_reducible exact⟨b0a,b1a,b2a,x2a⟩)|(with_reducible exact⟨y0,y1,y2,y3⟩)|go_keep)
    (first
     | (go_at_call 93;refine (Ay.out).mono ?_;rintro e w9 ⟨P9,F9,Ab,A1,Ac⟩;obtain⟨iv,ev,rfl⟩:=Ac.form;have B6:=(B3.out.ext M5.out);have y0:=cellP A1.stp.mods (B6.blk.cell (o:=0) (v:=.pointer (some ⟨c,0,none⟩)) rfl) B3.out.p;have y1:=cellP A1.stp.mods (B6.blk.cell (o:=1) (v:=.pointer (some ⟨s,0,none⟩)) rfl) B3.out.p;have y2:=cellP A1.stp.mods (B6.blk.cell (o:=2) (v:=.int .u64 (gen:Int)) rfl) B3.out.p;have y3:=cellP A1.stp.mods ((Ak.out.ext M5.out).blk.cell (o:=2) (v:=.string o.key) rfl) Ak.out.p)
     | fail)
   have C4:=Nxt.less (A2.out.trans (Nxt.ext A2.out.env A2.out.sub M5.out)) A1 (λk hk=>⟨A2.out.grow k hk,λe=>by have:=Ci.out k hk;have:=Bi.out;omega⟩) (λk h=>h.1);have x4:=(A1.blk (Ak.out.ext M5.out).blk Ak.out.p).cell (o:=4) (v:=.bool o.news) rfl;have Ah:=oh C4;have C5:=oh Ab;clear A1 Ab C4 B6 y0 y1 y2 y3 b0 b1 b2 x0 x1 x2 x3 b0a b1a b2a x2a ne0 ne1 ne2 ne3;rcases Ac with ⟨i,hi,he⟩|⟨C6,f,el,he,hE⟩
   .obtain⟨rfl,rfl⟩:iv=.int .i64 (i:Int)/\ev=.nilIface:=by simpa using he
    have HI:=oh hi;clear hi he;go_wp2_with fail;go_quiet (fail)
    go_wp2_with fail;refine bodyPost_ret (v:=.tuple #[.int .i64 (i:Int),.bool o.news,.nilIface]) (by simp[results,Tryz.results54,go_sem]) rfl ?_;exact⟨P9,F9,_,_,C5.out.at ((Mods.refl _ _).drewN _),Ah.out.trans (Nxt.ext Ah.out.env Ah.out.sub ((Mods.refl _ _).drewN _)),.inl ⟨i,o.news,by rw[B2.out,HS.out];simp only;rw[if_neg (by rw[B4.out];simp),HI.out],rfl⟩⟩
   .obtain⟨rfl,rfl⟩:iv=.int .i64 0/\ev=faultV f:=by simpa using he
    have Bo:=oh C6;have HE:=oh hE;clear C6 hE he;go_wp2_with fail;refine (wrap_any Ah.out.env _ _ _ _ HE.out).mono ?_;rintro e w10 ⟨b,rfl,Az,B0⟩;have Bp:=oh Az;have B1:=oh B0;clear Az B0;go_wp2_with fail;refine bodyPost_ret (v:=.tuple #[.int .i64 0,.bool false,faultV b]) (by simp[results,Tryz.results54,go_sem]) rfl ?_;refine⟨P9,F9,_,_,C5.out.at B1.out,Ah.out.trans (Nxt.ext Ah.out.env Ah.out.sub B1.out),.inr ⟨_,b,_,by rw[B2.out,HS.out];simp only;rw[if_neg (by rw[B4.out];simp),Bo.out],?_,rfl,Bp.out⟩⟩;rw[(jD Bo.out gen).1,(jD Bo.out gen).2];exact Cp.out
 .have HS:=oh hs;have HE:=oh hE;have Cq:=oh C0;clear hs hE C0;go_wp2_with fail;refine (wrap_any A2.out.env _ _ _ _ HE.out).mono ?_;rintro e w5 ⟨b,rfl,Az,B0⟩;have Bp:=oh Az;have B1:=oh B0;clear Az B0;go_wp2_with fail;refine bodyPost_ret (v:=.tuple #[.int .i64 0,.bool false,faultV b]) (by simp[results,Tryz.results54,go_sem]) rfl ?_;exact⟨P4,F4,G4,l4,Bl.out.at B1.out,A2.out.trans (Nxt.ext A2.out.env A2.out.sub B1.out),.inr ⟨k,b,_,by rw[B2.out,HS.out],Cq.out,rfl,Bp.out⟩⟩
end
end
end Go.Proofs.YteabpacpngaoaaaGreatDoor
