import Derived.BigQuiet
import Derived.Test.YtalpfcaakpgkmaaGreatDoorR22
import Derived.Deep.DrawnRows
import Derived.Deep.RegionHeld3
import Derived.IntWalk
namespace Go.Proofs.YtalpfcaakpgkmaaGreatDoor
open Lib renaming hid->oh
set_option maxRecDepth 100000
section
open Go.RowKit
section
variable {F:NP}{ad:Nat->Addr}{w w':World}
theorem zO7(kb:Nat)(e:zM)(key:ByteArray)(hk:w.cell? ⟨kb,0,none⟩=some (.string key)) :
  Calls Tryz.prog 178 #[.agg #[.string e.key,.string e.value,.int .i64 e.chain,.int .i64 e.size],.pointer (some ⟨kb,0,none⟩)] w λx w'=>x=.returned (.bool (!ltS e.key key))/\zF w w':=by
 have A1:=yN hk;have Bj:(w.alloc (.cells #[.string e.key,.string e.value,.int .i64 e.chain,.int .i64 e.size] 208)).cell? ⟨kb,0,none⟩=some (.string key):=zE ((zss w).alloc _) hk
 go_enter Tryz.func178, Tryz.ntmps178
 go_wp2_with fail;go_ret;exact⟨rfl,(zss w).alloc _⟩
theorem zO8(kb:Nat)(k:ByteArray)(key:ByteArray)(hk:w.cell? ⟨kb,0,none⟩=some (.string key)) :
  Calls Tryz.prog 180 #[.string k,.pointer (some ⟨kb,0,none⟩)] w λx w'=>x=.returned (.bool (!leS k key))/\zF w w':=by
 go_enter Tryz.func180, Tryz.ntmps180
 go_wp2_with fail;go_ret;exact⟨yB (by simp[leS]),zA.refl _ _⟩
theorem zHC{α:Type}{p:α->Bool}{l:List α}{k:Nat}(hk:k<l.length)(h:∀x∈l.take k,p x=false)(hp:p l[k]=true):l.findIdx p=k:=by
 rw[List.findIdx_eq hk];exact⟨hp,λj hj=>h _ (List.mem_take_iff_getElem.2 ⟨j,by omega,rfl⟩)⟩
theorem zIJ{α:Type}{p:α->Bool}{l:List α}(h:∀x∈l,p x=false):l.findIdx p=l.length:=List.findIdx_eq_length.2 h
theorem zIK(kb:Nat)(key:ByteArray)(hk:w.cell? ⟨kb,0,none⟩=some (.string key))(ve:Value)(l:List zM)(A5:Sl F w 4 zAQ ve l) :
  Calls Tryz.prog 177 #[ve,.func (.func 178) #[] #[.pointer (some ⟨kb,0,none⟩)]] w λx w'=>x=.returned (.int .i64 (l.findIdx λe=>!ltS e.key key:Nat))/\zF w w':=by
 obtain⟨ae,ce,rfl,Ah,A7,Ai,A2⟩:=A5;unfold maxLen at A7
 go_enter Tryz.func177, Tryz.ntmps177
 go_wp2_with fail;go_loopg [9] l.length (λm i wr=>∃k:Nat,k+m=l.length/\i=.int .i64 k/\Hid (∀x∈l.take k,(!ltS x.key key)=false)/\zF w wr)
 case atStart=>exact⟨0,by omega,rfl,oh (by simp),zA.refl _ _⟩
 case round =>
  obtain⟨k,Aa,rfl,HZ,hm⟩:=hrel;by_cases A1:k<l.length
  .obtain⟨b,off,rfl,hb,hF,hc⟩:=Sl.at A2 hm (λ_ _ f=>f.elim) k A1;have c0:=hc 0 _ rfl;simp only[uT] at c0;have c1:=hc 1 _ rfl;have c2:=hc 2 _ rfl;have c3:=hc 3 _ rfl;have Al:=zE hm hk;have HM:=oh hm;have Aj:=oh A2;have HK:=oh hk;clear hc A2 hk hm;have Am:=λv=>zE ((zss wr).alloc v) Al
   go_wp2_with fail;refine (zO7 kb l[k] key (Am _)).mono ?_;rintro x w1 ⟨rfl,A0⟩;have A6:Hid (zF w w1):=oh ((HM.out.alloc _).trans A0);clear A0 Al Am;cases ht:ltS l[k].key key
   .have HT:=oh ht;clear ht;go_wp2_with fail;go_ret;exact⟨by rw[zHC A1 HZ.out (by rw[HT.out];rfl)];rfl,A6.out⟩
   .have HT:=oh ht;clear ht;go_wp2_with fail;go_roundg (gk-1)
    case measure=>omega
    case rel=>exact⟨k+1,by omega,by go_num,oh (λx hx=>by
     rw[vO l k l[k] (by simp[A1])] at hx;rcases uM.1 hx with h|h
     .exact HZ.out x h
     .rw[wO.1 h,HT.out];rfl),A6.out⟩
  .have A4:k=l.length:=by omega
   go_wp2_with fail;go_ret;exact⟨by rw[zIJ (by have:=HZ.out;rwa [A4,wZ] at this)];rfl,hm⟩
theorem zM6(kb:Nat)(key:ByteArray)(hk:w.cell? ⟨kb,0,none⟩=some (.string key))(ve:Value)(l:List ByteArray)(A5:Sl F w 1 vW ve l) :
  Calls Tryz.prog 179 #[ve,.func (.func 180) #[] #[.pointer (some ⟨kb,0,none⟩)]] w λx w'=>x=.returned (.int .i64 (l.findIdx λk=>!leS k key:Nat))/\zF w w':=by
 obtain⟨ae,ce,rfl,Ah,A7,Ai,A2⟩:=A5;unfold maxLen at A7
 go_enter Tryz.func179, Tryz.ntmps179
 go_wp2_with fail;go_loopg [9] l.length (λm i wr=>∃k:Nat,k+m=l.length/\i=.int .i64 k/\Hid (∀x∈l.take k,(!leS x key)=false)/\zF w wr)
 case atStart=>exact⟨0,by omega,rfl,oh (by simp),zA.refl _ _⟩
 case round =>
  obtain⟨k,Aa,rfl,HZ,hm⟩:=hrel;by_cases A1:k<l.length
  .obtain⟨b,off,rfl,hb,hF,hc⟩:=Sl.at A2 hm (λ_ _ f=>f.elim) k A1;have c0:=hc 0 _ rfl;simp only[uT,wC] at c0;have Al:=zE hm hk;have HM:=oh hm;have Aj:=oh A2;have HK:=oh hk;clear hc A2 hk hm;go_wp2_with fail;refine (zO8 kb l[k] key Al).mono ?_;rintro x w1 ⟨rfl,A0⟩;have A6:Hid (zF w w1):=oh (HM.out.trans A0);clear A0 Al;cases ht:leS l[k] key
   .have HT:=oh ht;clear ht;go_wp2_with fail;go_ret;exact⟨by rw[zHC A1 HZ.out (by rw[HT.out];rfl)];rfl,A6.out⟩
   .have HT:=oh ht;clear ht;go_wp2_with fail;go_roundg (gk-1)
    case measure=>omega
    case rel=>exact⟨k+1,by omega,by go_num,oh (λx hx=>by
     rw[vO l k l[k] (by simp[A1])] at hx;rcases uM.1 hx with h|h
     .exact HZ.out x h
     .rw[wO.1 h,HT.out];rfl),A6.out⟩
  .have A4:k=l.length:=by omega
   go_wp2_with fail;go_ret;exact⟨by rw[zIJ (by have:=HZ.out;rwa [A4,wZ] at this)];rfl,hm⟩
theorem zSv(a b:ByteArray):(a.toList == b.toList)=decide (a=b):=by
 by_cases h:a=b
 .rw[h];simp
 .rw[wM h,uR];intro e;rw[ByteArray.toList_eq,ByteArray.toList_eq] at e;exact h (pN (Array.toList_inj.1 e))
def zAN(n:zI)(key:ByteArray):Nat × Bool :=
 if n.leaf then
  let i:=n.entries.findIdx λe=>!ltS e.key key
  (i,match n.entries[i]? with|some e=>decide (e.key=key)|none=>false)
 else (n.keys.findIdx λk=>!leS k key,false)
theorem zC4(n:zI)(key:ByteArray)(ve vk vi:Value)(A5:Sl F w 4 zAQ ve n.entries)(Ac:Sl F w 1 vW vk n.keys) :
  Calls Tryz.prog 105 #[.agg #[.bool n.leaf,ve,vk,vi],.string key] w λx w'=>x=.returned (.tuple #[.int .i64 ((zAN n key).1:Nat),.bool (zAN n key).2])/\zF w w':=by
 have m0:zF w ((w.alloc (.cells #[.bool n.leaf,ve,vk,vi] 200)).alloc (.cells #[.string key] 9)):=((zss w).alloc _).alloc _;have HE:=oh (A5.ext m0);have HK:=oh (Ac.ext m0);have M0:=oh m0;clear A5 Ac m0;cases A3:n.leaf
 .have HR:Hid (zAN n key=(n.keys.findIdx λk=>!leS k key,false)):=oh (by unfold zAN;rw[A3];rfl);rw[A3] at HE HK M0;clear A3
  go_enter Tryz.func105, Tryz.ntmps105
  go_wp2_with fail;refine (zM6 (w.heap.size+1) key (by go_cell) vk n.keys HK.out).mono ?_;rintro x w1 ⟨rfl,A0⟩;have A6:=oh (M0.out.trans A0);clear A0;go_wp2_with fail;go_ret2
  exact⟨by rw[HR.out];rfl,A6.out⟩
 .rw[A3] at HE HK M0;have HL:=oh A3;clear A3;obtain⟨q,hq⟩:∃q,q=n.entries.findIdx λe=>!ltS e.key key:=⟨_,rfl⟩
  have HR:Hid (zAN n key=(q,match n.entries[q]? with|some e=>decide (e.key=key)|none=>false)):=oh (by unfold zAN;rw[HL.out,hq];rfl);have HQ:=oh hq;clear hq;obtain⟨ae,ce,rfl,Ah,A7,Ai,A2⟩:=_root_.id HE.out;have Aj:=oh A2;clear A2;by_cases A1:q<n.entries.length
  .go_enter Tryz.func105, Tryz.ntmps105
   go_wp2_with fail;refine (zIK (w.heap.size+1) key (by go_cell) _ n.entries HE.out).mono ?_;rintro x w1 ⟨rfl,A0⟩;rw[<- HQ.out];have A6:=oh (M0.out.trans A0);obtain⟨b,off,rfl,hb,hF,hc⟩:=Sl.at Aj.out A0 (λ_ _ f=>f.elim) q A1;have c0:=hc 0 _ rfl;simp only[uT] at c0;have x1:w1.cell? ⟨w.heap.size,1,none⟩=some (.slice (some ⟨b,off,none⟩) n.entries.length ce):=zE A0 (by go_cell);have x2:w1.cell? ⟨w.heap.size+1,0,none⟩=some (.string key):=zE A0 (by go_cell);have hd:decide ((q:Int)<(n.entries.length:Int))=true:=wL (by omega);have HG:Hid (n.entries[q]? = some n.entries[q]):=oh (uB A1);clear A0 hc;go_wp2_with fail;go_quiet (fail)
   go_wp2_with fail;go_ret2
   exact⟨by rw[zSv,HR.out,HG.out];rfl,A6.out.drewN _⟩
  .go_enter Tryz.func105, Tryz.ntmps105
   go_wp2_with fail;refine (zIK (w.heap.size+1) key (by go_cell) _ n.entries HE.out).mono ?_;rintro x w1 ⟨rfl,A0⟩;rw[<- HQ.out];have A6:=oh (M0.out.trans A0);have x1:w1.cell? ⟨w.heap.size,1,none⟩=some (.slice ae n.entries.length ce):=zE A0 (by go_cell);have hd:decide ((q:Int)<(n.entries.length:Int))=false:=wM (by omega);have HG:Hid (n.entries[q]? = none):=oh (wT (by omega));clear A0;go_wp2_with fail;go_quiet (fail)
   go_wp2_with fail;go_ret2
   exact⟨by rw[HR.out,HG.out];rfl,A6.out.drewN _⟩
end
end
section
theorem zQa(a b:ByteArray):(!leS a b)=ltS b a:=by
 cases h:ltS b a with
 | true =>
  rw[Bool.not_eq_true',<- pJ];intro e;rcases (zN0 a b).1 e with k|k
  .rw[zE8 h] at k;cases k
  .rw[k,jJ] at h;cases h
 | false =>
  rw[Bool.not_eq_false',zN0];exact (zDX h).imp id Eq.symm
theorem zFm{n:zI}(h:n.leaf=true)(key:ByteArray):zAN n key=(jA key n.entries,zAY key n.entries):=by
 unfold zAN;rw[h];rfl
theorem zEu{n:zI}(h:n.leaf=false)(key:ByteArray):zAN n key=(vZ key n.keys,false):=by
 have e:(λk=>!leS k key)=λs=>ltS key s:=by funext s;exact zQa s key
 unfold zAN vZ;rw[h,e];rfl
end
section
open Go.RowKit
def qJ(p:zY):zI ⊕ Err :=
 if p.kind=3\/p.kind=2 then (match zEk (decide (p.kind=3)) p.body with|some n=>.inl n|none=>.inr ([zBz p.id],5)) else .inr ([zBz p.id],5)
def GA.load(G:GA)(id:Int):zI ⊕ Err :=
 match G.get id with
 | .inr (l,k)=>.inr (-1 :: l,k)
 | .inl p=>match qJ p with
  | .inl n=>.inl n
  | .inr (l,k)=>.inr (-1 :: l,k)
def jM(G:GA)(key:ByteArray):Nat->List (Int × Nat)->Int->(List (Int × Nat) × zI) ⊕ Err
 | 0,_,id=>.inr ([zBz id],5)
 | f+1,st,id=>match G.load id with
  | .inr e=>.inr e
  | .inl n=>if n.leaf then .inl (st++[(id,(zAN n key).1)],n) else jM G key f (st++[(id,(zAN n key).1)]) (n.kids.getD (zAN n key).1 0)
def zD9(G:GA)(key:ByteArray):Nat->Int->Prop
 | 0,_=>True
 | f+1,id=>G.knows id/\∀n,G.load id=.inl n->n.leaf=false->zD9 G key f (n.kids.getD (zAN n key).1 0)
def jQ(G:GA)(e:zM):ByteArray ⊕ Err :=
 if e.chain=0 then .inl e.value else match zAZ G e.chain e.size with
  | none=>.inl ⟨((qN G e.size.toNat e.chain e.size).1.flatMap (·.2)).toArray⟩
  | some (l,k)=>.inr (-1 :: l,k)
def zCU(G:GA)(e:zM):Prop:=e.chain≠0->25<=e.size->e.size<=4096->zAi G e.size.toNat e.chain e.size
def zTU(G:GA)(root:Int)(key:ByteArray):(List (Int × Nat) × Bool) ⊕ Err :=
 match zCT key with
 | some e=>.inr e
 | none=>if root=0 then .inl ([],false) else match jM G key 16 [] root with
  | .inr (l,k)=>.inr (-1 :: l,k)
  | .inl (st,n)=>.inl (st,(zAN n key).2)
def zBj(G:GA)(root:Int)(key:ByteArray):Option ByteArray ⊕ Err :=
 match zCT key with
 | some e=>.inr e
 | none=>if root=0 then .inl none else match jM G key 16 [] root with
  | .inr (l,k)=>.inr (-1 :: l,k)
  | .inl (_,n)=>match n.entries[(zAN n key).1]? with
   | none=>.inl none
   | some e=>if (zAN n key).2=true then (match jQ G e with | .inl v=>.inl (some v) | .inr (l,k)=>.inr (-1 :: l,k)) else .inl none
def zKc(G:GA)(root:Int)(key:ByteArray):Prop:=zD9 G key 16 root/\∀st n e,jM G key 16 [] root=.inl (st,n)->n.entries[(zAN n key).1]? = some e->zCU G e
theorem zFR{p:zY}{n:zI}(h:qJ p=.inl n):zO n=true/\n.leaf=decide (p.kind=3):=by
 unfold qJ at h;split at h
 .split at h
  .rename_i h1;injection h with h;subst h;unfold zEk at h1;simp only at h1;split at h1
   .rename_i h2;injection h1 with h1;subst h1;refine⟨h2.2.1,?_⟩;unfold zAR;simp only;split
    .rename_i h3;simpa using h3.symm
    .rename_i h3;simpa using h3
   .cases h1
  .cases h
 .cases h
theorem GA.load_right{G:GA}{id:Int}{n:zI}(h:G.load id=.inl n):zO n=true:=by
 unfold GA.load at h;split at h
 .cases h
 .split at h
  .rename_i h1;injection h with h;subst h;exact (zFR h1).1
  .cases h
theorem zHD{G:GA}{key:ByteArray}:∀(f:Nat) (pre:List (Int × Nat)) (id:Int) {st:List (Int × Nat)} {n:zI},jM G key f pre id=.inl (st,n)->zO n=true/\n.leaf=true
 | 0,_,_,_,_,h=>by cases h
 | f+1,pre,id,st,n,h=>by
  rw[jM] at h;split at h
  .cases h
  .rename_i m hm;split at h
   .rename_i hl;injection h with h;injection h with _ h;subst h;exact⟨GA.load_right hm,hl⟩
   .exact zHD f _ _ h
def GA.node(G:GA)(id:Nat):Option zI:=if id<G.blocks then (match G.view id with
 | some (.inl p)=>(match qJ p with | .inl n=>some n | .inr _=>none)
 | _=>none) else none
theorem GA.node_load{G:GA}{id:Nat}{n:zI}(h:G.node id=some n):G.knows (id:Int)/\G.load (id:Int)=.inl n:=by
 unfold GA.node at h;split at h
 .rename_i A1;split at h
  .rename_i p hp;refine⟨λ_=>⟨_,by rw[uH];exact hp⟩,?_⟩;unfold GA.load;rw[zEs A1 hp];simp only;split at h
   .rename_i h1;injection h with h;subst h;rw[h1]
   .cases h
  .cases h
 .cases h
theorem zN9{n:zI}{i:Nat}{k:Int}(h:n.kids[i]? = some k):n.kids.getD i 0=k:=by
 simp[List.getD,h]
def GA.R(G:GA)(c s:Int):Option ByteArray:=match zAZ G c s with
 | none=>some ⟨((qN G s.toNat c s).1.flatMap (·.2)).toArray⟩
 | some _=>none
structure zGe(R:Int->Int->Option ByteArray)(m:zI)(p:List zL):Prop where
 leaf:m.leaf=true
 right:zO m=true
 len:m.entries.length=p.length
 tells:∀(i:Nat) (e:zM) (x:zL),m.entries[i]? = some e->p[i]? = some x->e.key=x.1/\zDK R e=some x.2
noncomputable def GA.R2 (G:GA) (c s:Int):Option ByteArray:=open Classical in if zAi G s.toNat c s then G.R c s else none
theorem GA.R2_some{G:GA}{c s:Int}{v:ByteArray}(h:G.R2 c s=some v):zAi G s.toNat c s/\G.R c s=some v:=by
 unfold GA.R2 at h;split at h
 .rename_i hw;exact⟨hw,h⟩
 .cases h
theorem zDb{G:GA}{e:zM}{v:ByteArray}(h:zDK G.R2 e=some v):jQ G e=.inl v/\zCU G e:=by
 unfold zDK at h;unfold jQ zCU;by_cases hc:e.chain=0
 .rw[if_pos hc] at h ⊢;exact⟨by rw[Option.some.inj h],λhn=>absurd hc hn⟩
 .rw[if_neg hc] at h ⊢;obtain⟨h1,h2⟩:=GA.R2_some h;refine⟨?_,λ_ _ _=>h1⟩;unfold GA.R at h2;split at h2
  .rename_i h3;rw[h3];simp only;rw[Option.some.inj h2]
  .cases h2
theorem zEA(k:ByteArray):inB e0 none k:=by
 refine⟨?_,λh hh=>by cases hh⟩;unfold ltS;have:e0.toList=[]:=by simp[ByteArray.toList_eq]
 rw[this];cases k.toList <;> rfl
theorem zM7{key:ByteArray}(h:jO key=true):zCT key=none:=by unfold zCT;rw[if_pos h]
theorem zRe{R:Int->Int->Option ByteArray}{m:zI}{p:List zL}(h:zGe R m p)(key:ByteArray):qI key p=zFA R key m:=zOj (zBS h.right h.leaf) h.len h.tells key
theorem zGe.ent{R:Int->Int->Option ByteArray}{m:zI}{p:List zL}(h:zGe R m p){i:Nat}{e:zM}(he:m.entries[i]? = some e):∃v,zDK R e=some v:=by
 have hi:=(uA.1 he).1;have hp:i<p.length:=by rw[<- h.len];exact hi
 exact⟨_,(h.tells i e _ he (uB hp)).2⟩
theorem zJh{R:Int->Int->Option ByteArray}{m:zI}{p:List zL}(h:zGe R m p)(key:ByteArray) :
  (zAY key m.entries=true/\∃e v,m.entries[jA key m.entries]? = some e/\e.key=key/\zDK R e=some v/\qI key p=some v)\/(zAY key m.entries=false/\qI key p=none):=by
 rw[zRe h];unfold zFA zAY;cases hm:m.entries[jA key m.entries]? with
 | none=>exact .inr ⟨rfl,rfl⟩
 | some e =>
  simp only;by_cases hk:e.key=key
  .rw[if_pos hk,wL hk];obtain⟨v,hv⟩:=h.ent hm;exact .inl ⟨rfl,e,v,rfl,hk,hv,hv⟩
  .rw[if_neg hk,wM hk];exact .inr ⟨rfl,rfl⟩
structure WkS where
 pages:List Int
 keys:List ByteArray
 depth:Nat
end
section
open Go.RowKit
attribute [local go_sem ↓] Go.wp_at_zero Go.wp_at_succ
theorem zFn:∀{l:List ByteArray},zAG l=true ↔ ∀(i:Nat) (a b:ByteArray),l[i]? = some a->l[i+1]? = some b->ltS a b=true
 | []=>by simp[zAG]
 | [_]=>by simp[zAG]
 | x :: y :: l=>by
  rw[zAG,uI,zFn (l:=y :: l)];constructor
  .rintro⟨h1,h2⟩ i a b ha hb;cases i with
   | zero=>simp at ha hb;subst ha hb;exact h1
   | succ i=>exact h2 i a b (by simpa using ha) (by simpa using hb)
  .intro h;exact⟨h 0 x y rfl rfl,λi a b ha hb=>h (i+1) a b (by simpa using ha) (by simpa using hb)⟩
def zQb(l:List ByteArray)(k:Nat):Prop:=∀(i:Nat) (a b:ByteArray),i+1<k->l[i]? = some a->l[i+1]? = some b->ltS a b=true
theorem zLn{l:List ByteArray}{k:Nat}(h:zQb l k)(hk:l.length<=k):zAG l=true :=
 zFn.2 λi a b ha hb=>h i a b (by have:=(uA.1 hb).1;omega) ha hb
theorem zJi{l:List ByteArray}{k:Nat}{a b:ByteArray}(h:zQb l (k+1))(ha:l[k]? = some a)(hb:l[k+1]? = some b)(hl:leS b a=false):zQb l (k+2):=by
 intro i x y hi hx hy;by_cases e:i=k
 .subst e;rw[ha] at hx;rw[hb] at hy;injection hx with hx;injection hy with hy;subst hx hy;have:=zQa b a;rw[hl] at this;exact this.symm
 .exact h i x y (by omega) hx hy
theorem zIL{l:List ByteArray}{k:Nat}{a b:ByteArray}(ha:l[k]? = some a)(hb:l[k+1]? = some b)(hl:leS b a=true):zAG l=false:=by
 rw[<- pJ];intro h;have h1:=zFn.1 h k a b ha hb;have:=zQa b a;rw[hl,h1] at this;cases this
section
variable {F:NP}{ad:Nat->Addr}{w w':World}
theorem zEv(n:Int)(w:World) : Calls Tryz.prog 328 #[.int .i64 n] w λe w'=>e=.returned (.bool (zCn n))/\w=w':=by
 by_cases h1:2<=n
 all_goals
  have h2:=oh h1
  go_enter Tryz.func328, Tryz.ntmps328
  go_wp2
  go_ret;exact⟨yB (by have:=h2.out;simp only[zCn];first|(rw[wL this];simp)|(rw[wM (by omega)];simp)),rfl⟩
theorem zM8(e:zM)(w:World) : Calls Tryz.prog 325 #[.agg #[.string e.key,.string e.value,.int .i64 e.chain,.int .i64 e.size]] w λx w'=>x=.returned (.bool (qR e))/\zF w w':=by
 have M0:Hid (zF w (w.alloc (.cells #[.string e.key,.string e.value,.int .i64 e.chain,.int .i64 e.size] 208))):=oh ((zss w).alloc _);cases hk:jO e.key with
 | false =>
  have HR:Hid (qR e=false):=oh (by unfold qR;rw[hk];rfl)
  go_enter Tryz.func325, Tryz.ntmps325
  go_wp2_with fail;refine (zBk _ _).mono ?_;rintro x w1 ⟨rfl,rfl⟩;rw[hk];go_wp2_with fail;go_ret;exact⟨yB HR.out.symm,M0.out⟩
 | true =>
  by_cases hz:e.chain=0
  .have B8:(e.chain == 0)=true:=rE.2 hz;have HR:Hid (qR e=(decide (e.size=0) && decide (e.value.size<=24))):=oh (by unfold qR;rw[hk,if_pos hz];rfl);clear hz;by_cases hs:e.size=0
   .have B9:(e.size == 0)=true:=rE.2 hs;have HS:=oh hs;clear hs;by_cases hv:(e.value.size:Int)<=24
    all_goals
     have HV:=oh hv
     go_enter Tryz.func325, Tryz.ntmps325
     go_wp2_with fail;refine (zBk _ _).mono ?_;rintro x w1 ⟨rfl,rfl⟩;rw[hk];go_wp2_with fail;go_ret;exact⟨yB (by rw[HR.out,HS.out];have:=HV.out;first|(rw[wL (show e.value.size<=24 by omega)];simp;done)|(rw[wM (show ¬ e.value.size<=24 by omega)];simp;omega)),M0.out⟩
   .have B9:(e.size == 0)=false:=uR.2 hs;have HS:=oh hs;clear hs
    go_enter Tryz.func325, Tryz.ntmps325
    go_wp2_with fail;refine (zBk _ _).mono ?_;rintro x w1 ⟨rfl,rfl⟩;rw[hk];go_wp2_with fail;go_ret;exact⟨yB (by rw[HR.out,wM HS.out];rfl),M0.out⟩
  .have B8:(e.chain == 0)=false:=uR.2 hz;have HR:Hid (qR e=(zCn e.chain && decide (e.value.size=0) && decide (24<e.size) && decide (e.size<=4096))):=oh (by unfold qR;rw[hk,if_neg hz];rfl);clear hz;cases Ak:zCn e.chain with
   | false =>
    rw[Ak] at HR
    go_enter Tryz.func325, Tryz.ntmps325
    go_wp2_with fail;refine (zBk _ _).mono ?_;rintro x w1 ⟨rfl,rfl⟩;rw[hk];go_wp2_with fail;refine (zEv _ _).mono ?_;rintro x w1 ⟨rfl,rfl⟩;rw[Ak];go_wp2_with fail;go_ret;exact⟨yB (by rw[HR.out];rfl),M0.out⟩
   | true =>
    rw[Ak] at HR;have A5:(e.value.toList == [])=decide (e.value.size=0):=by
     rw[ByteArray.toList_eq];have:e.value.data.toList.length=e.value.size:=by rw[rB];rfl
     by_cases Ab:e.value.size=0
     .rw[wL Ab,tE (by omega:e.value.data.toList.length=0)];rfl
     .rw[wM Ab,uR];intro h;rw[h] at this;simp at this;omega
    by_cases Ab:e.value.size=0
    .have Ao:e.value=⟨#[]⟩:=pN (rV Ab);rw[wL Ab] at HR;clear A5 Ab;by_cases B1:24<e.size
     .rw[wL B1] at HR;by_cases h4:e.size<=4096
      all_goals
       have HV:=oh Ao;have HD:=oh h4;clear Ao
       go_enter Tryz.func325, Tryz.ntmps325
       go_wp2_with fail;refine (zBk _ _).mono ?_;rintro x w1 ⟨rfl,rfl⟩;rw[hk];go_wp2_with fail;refine (zEv _ _).mono ?_;rintro x w1 ⟨rfl,rfl⟩;rw[Ak,HV.out];go_wp2_with fail;go_ret;exact⟨yB (by rw[HR.out];have:=HD.out;first|(rw[wL (show e.size<=4096 by omega)];rfl)|(rw[wM (show ¬ e.size<=4096 by omega)];rfl)),(zss w).alloc _⟩
     .rw[wM B1] at HR;have HV:=oh Ao;clear Ao
      go_enter Tryz.func325, Tryz.ntmps325
      go_wp2_with fail;refine (zBk _ _).mono ?_;rintro x w1 ⟨rfl,rfl⟩;rw[hk];go_wp2_with fail;refine (zEv _ _).mono ?_;rintro x w1 ⟨rfl,rfl⟩;rw[Ak,HV.out];go_wp2_with fail;go_ret;exact⟨yB (by rw[HR.out];rfl),(zss w).alloc _⟩
    .rw[wM Ab] at A5 HR;clear Ab
     go_enter Tryz.func325, Tryz.ntmps325
     go_wp2_with fail;refine (zBk _ _).mono ?_;rintro x w1 ⟨rfl,rfl⟩;rw[hk];go_wp2_with fail;refine (zEv _ _).mono ?_;rintro x w1 ⟨rfl,rfl⟩;rw[Ak];go_wp2_with fail;go_ret;exact⟨yB (by rw[HR.out];rfl),M0.out⟩
theorem zJj(e:zM)(w:World) : Calls Tryz.prog 327 #[.agg #[.string e.key,.string e.value,.int .i64 e.chain,.int .i64 e.size]] w λx w'=>x=.returned (.string e.key)/\zF w w':=by
 go_enter Tryz.func327, Tryz.ntmps327
 go_wp2_with fail;go_ret;exact⟨rfl,(zss w).alloc _⟩
theorem zM9(k:ByteArray)(w:World) : Calls Tryz.prog 331 #[.string k] w λx w'=>x=.returned (.string k)/\w=w':=by
 go_enter Tryz.func331, Tryz.ntmps331
 go_wp2_with fail;go_ret;exact⟨rfl,rfl⟩
theorem zLo(ve:Value)(l:List zM)(A5:Sl F w 4 zAQ ve l) :
    Calls Tryz.prog 326 #[ve,.func (.func 327) #[] #[]] w λx w'=>x=.returned (.bool (zAG (l.map (·.key))))/\zF w w':=by
  obtain⟨ae,ce,rfl,Ah,A7,Ai,A2⟩:=A5
  unfold maxLen at A7
  go_enter Tryz.func326, Tryz.ntmps326
  go_wp2_with fail
  go_loopg [5] l.length (λm i wr=>∃k:Nat,k+m=l.length/\i=.int .i64 ((k+1:Nat):Int)/\Hid (zQb (l.map (·.key)) (k+1))/\zF w wr)
  case atStart=>exact⟨0,by omega,rfl,oh (λi a b hi=>by omega),zA.refl _ _⟩
  case round =>
    obtain⟨k,Aa,rfl,HZ,hm⟩:=hrel
    by_cases A1:k+1<l.length
    . obtain⟨b,off,rfl,hb,hF,hc⟩:=Sl.at A2 hm (λ_ _ f=>f.elim) (k+1) A1
      obtain⟨b',off',Ad,hb',hF',hd⟩:=Sl.at A2 hm (λ_ _ f=>f.elim) k (by omega)
      injection Ad with Ad
      injection Ad with Ae Af
      subst Ae Af
      have c0:=hc 0 _ rfl
      simp only[uT] at c0
      have c1:=hc 1 _ rfl
      have c2:=hc 2 _ rfl
      have c3:=hc 3 _ rfl
      have d0:=hd 0 _ rfl
      simp only[uT] at d0
      have d1:=hd 1 _ rfl
      have d2:=hd 2 _ rfl
      have d3:=hd 3 _ rfl
      have HM:=oh hm
      have Aj:=oh A2
      clear hc hd A2 hm
      have i1:(0:Int)<=(k:Int)+1:=by omega
      have i2:(k:Int)+1<(l.length:Int):=by omega
      have i3:(0:Int)<=(k:Int):=by omega
      have i4:(k:Int)<(l.length:Int):=by omega
      have As:IntKind.i64.wrap ((k:Int)+1-1)=(k:Int):=by rw[show (k:Int)+1-1=k by omega];exact IntWalk.i64_in _ (by omega)
      have At:IntKind.i64.wrap (k:Int)=(k:Int):=IntWalk.i64_in _ (by omega)
      go_wp2_with fail
      go_region_held3 (λw'=>w'.cell? ⟨b,off+(k+1) * 4,none⟩=some (.string l[k+1].key)/\w'.cell? ⟨b,off+(k+1) * 4+1,none⟩=some (.string l[k+1].value)/\w'.cell? ⟨b,off+(k+1) * 4+2,none⟩=some (.int .i64 l[k+1].chain)/\w'.cell? ⟨b,off+(k+1) * 4+3,none⟩=some (.int .i64 l[k+1].size) /\
          w'.cell? ⟨b,off+k * 4,none⟩=some (.string l[k].key)/\w'.cell? ⟨b,off+k * 4+1,none⟩=some (.string l[k].value)/\w'.cell? ⟨b,off+k * 4+2,none⟩=some (.int .i64 l[k].chain)/\w'.cell? ⟨b,off+k * 4+3,none⟩=some (.int .i64 l[k].size))
        (first|(with_reducible exact⟨x0,x1,x2,x3,y0,y1,y2,y3⟩)|go_keep)
        (first
          | (go_at_call 327;(with_reducible refine (zJj l[k+1] _).mono ?_);rintro x w1 ⟨rfl,A0⟩;have x0:=zE A0 c0;have x1:=zE A0 c1;have x2:=zE A0 c2;have x3:=zE A0 c3;have y0:=zE A0 d0;have y1:=zE A0 d1;have y2:=zE A0 d2;have y3:=zE A0 d3)
          | (go_at_call 327;(with_reducible refine (zJj l[k] _).mono ?_);rintro x w2 ⟨rfl,B2⟩;have A8:=A0.trans B2;have x0:=zE A8 c0;have x1:=zE A8 c1;have x2:=zE A8 c2;have x3:=zE A8 c3;have y0:=zE A8 d0;have y1:=zE A8 d1;have y2:=zE A8 d2;have y3:=zE A8 d3)
          | fail)
      clear c0 c1 c2 c3 d0 d1 d2 d3 x0 x1 x2 x3 y0 y1 y2 y3
      have An:Hid (zF w w2):=oh (HM.out.drew.trans A8)
      clear A0 B2 A8
      have g0:(l.map (·.key))[k]? = some l[k].key:=by simp[uB (show k<l.length by omega)]
      have g1:(l.map (·.key))[k+1]? = some l[k+1].key:=by simp[uB A1]
      have G0:=oh g0
      have G1:=oh g1
      clear g0 g1 As At
      go_wp2_with fail
      all_goals rename_i hh
      all_goals have HT:=oh hh
      all_goals clear hh
      all_goals first
        | (go_ret
           exact⟨yB (zIL G0.out G1.out (by unfold leS;have:=HT.out;simpa using this)).symm,An.out⟩)
        | (go_roundg (gk - 1)
           case measure => omega
           case rel=>exact⟨k+1,by omega,by go_num,oh (zJi HZ.out G0.out G1.out (by unfold leS;have:=HT.out;simpa using this)),An.out⟩)
    . have A4:l.length<=k+1:=by omega
      have HK:=oh A4
      go_wp2_with fail
      go_ret
      exact⟨yB (zLn HZ.out (by rw[wS];exact HK.out)).symm,hm⟩
theorem zLp(ve:Value)(l:List ByteArray)(A5:Sl F w 1 vW ve l) :
    Calls Tryz.prog 330 #[ve,.func (.func 331) #[] #[]] w λx w'=>x=.returned (.bool (zAG l))/\zF w w':=by
  obtain⟨ae,ce,rfl,Ah,A7,Ai,A2⟩:=A5
  unfold maxLen at A7
  go_enter Tryz.func330, Tryz.ntmps330
  go_wp2_with fail
  go_loopg [5] l.length (λm i wr=>∃k:Nat,k+m=l.length/\i=.int .i64 ((k+1:Nat):Int)/\Hid (zQb l (k+1))/\zF w wr)
  case atStart=>exact⟨0,by omega,rfl,oh (λi a b hi=>by omega),zA.refl _ _⟩
  case round =>
    obtain⟨k,Aa,rfl,HZ,hm⟩:=hrel
    by_cases A1:k+1<l.length
    . obtain⟨b,off,rfl,hb,hF,hc⟩:=Sl.at A2 hm (λ_ _ f=>f.elim) (k+1) A1
      obtain⟨b',off',Ad,hb',hF',hd⟩:=Sl.at A2 hm (λ_ _ f=>f.elim) k (by omega)
      injection Ad with Ad
      injection Ad with Ae Af
      subst Ae Af
      have c0:=hc 0 _ rfl
      simp only[uT,wC] at c0
      have d0:=hd 0 _ rfl
      simp only[uT,wC] at d0
      have HM:=oh hm
      have Aj:=oh A2
      clear hc hd A2 hm
      have i1:(0:Int)<=(k:Int)+1:=by omega
      have i2:(k:Int)+1<(l.length:Int):=by omega
      have i3:(0:Int)<=(k:Int):=by omega
      have i4:(k:Int)<(l.length:Int):=by omega
      have As:IntKind.i64.wrap ((k:Int)+1-1)=(k:Int):=by rw[show (k:Int)+1-1=k by omega];exact IntWalk.i64_in _ (by omega)
      have At:IntKind.i64.wrap (k:Int)=(k:Int):=IntWalk.i64_in _ (by omega)
      go_wp2_with fail
      go_region_held3 (λw'=>w'.cell? ⟨b,off+(k+1),none⟩=some (.string l[k+1])/\w'.cell? ⟨b,off+k,none⟩=some (.string l[k]))
        (first|(with_reducible exact⟨c0,d0⟩)|go_keep)
        (first
          | (go_at_call 331;(with_reducible refine (zM9 _ _).mono ?_);rintro x w1 ⟨rfl,rfl⟩)
          | fail)
      clear c0 d0
      have An:Hid (zF w wr.drew):=oh HM.out.drew
      have G0:Hid (l[k]? = some l[k]):=oh (uB (by omega))
      have G1:Hid (l[k+1]? = some l[k+1]):=oh (uB A1)
      clear As At
      go_wp2_with fail
      all_goals rename_i hh
      all_goals have HT:=oh hh
      all_goals clear hh
      all_goals first
        | (go_ret
           exact⟨yB (zIL G0.out G1.out (by unfold leS;have:=HT.out;simpa using this)).symm,An.out⟩)
        | (go_roundg (gk - 1)
           case measure => omega
           case rel=>exact⟨k+1,by omega,by go_num,oh (zJi HZ.out G0.out G1.out (by unfold leS;have:=HT.out;simpa using this)),An.out⟩)
    . have A4:l.length<=k+1:=by omega
      have HK:=oh A4
      go_wp2_with fail
      go_ret
      exact⟨yB (zLn HZ.out HK.out).symm,hm⟩
end
end
section
open Go.RowKit
section
variable {F:NP}{ad:Nat->Addr}{w w':World}
theorem zJF{α:Type}{l:List α}{k:Nat}{x:α}(hk:k<l.length)(h:x ∉ l.take k)(hx:l[k]≠x):x ∉ l.take (k+1):=by
 rw[vO l k l[k] (by simp[hk])];intro hm;rcases uM.1 hm with h1|h1
 .exact h h1
 .exact hx (wO.1 h1).symm
def zTI(l:List Int)(n:Int)(w:World)(e:Ending)(w':World):Prop:=∃i:Int,e=.returned (.int .i64 i)/\(n∈l/\0<=i\/n ∉ l/\i = -1)/\w=w'
theorem zNA(v:Value)(l:List Int)(n:Int)(hv:Sl F w 1 yI v l) : Calls Tryz.prog 332 #[v,.int .i64 n] w (zTI l n w):=by
 obtain⟨a,c,rfl,h1,h2,h3,hc⟩:=hv;unfold maxLen at h2
 go_enter Tryz.func332, Tryz.ntmps332
 go_wp2_with fail;go_loopg [8] l.length (λm i wr=>∃k:Nat,k+m=l.length/\i=.int .i64 k/\Hid (n ∉ l.take k)/\w=wr)
 case atStart=>exact⟨0,by omega,rfl,oh (by simp),rfl⟩
 case round =>
  obtain⟨k,Aa,rfl,HZ,rfl⟩:=hrel;by_cases A1:k<l.length
  .obtain⟨b,off,rfl,hb,hF,hd⟩:=Sl.at hc (zA.refl (λ_=>False) w) (λ_ _ f=>f.elim) k A1;have c0:=hd 0 _ rfl;simp only[uT,wC] at c0;clear hd;by_cases hn:l[k]=n
   .have Ba:(n == l[k])=true:=by rw[hn];simp
    have HN:=oh hn;clear hn;go_wp2_with fail;go_ret;exact⟨(k:Int),rfl,.inl ⟨by rw[<- HN.out];exact tB A1,by omega⟩,rfl⟩
   .have Ba:(n == l[k])=false:=uR.2 (λh=>hn h.symm);have HN:=oh hn;clear hn;go_wp2_with fail;go_roundg (gk-1)
    case measure=>omega
    case rel=>exact⟨k+1,by omega,by go_num,oh (zJF A1 HZ.out HN.out),rfl⟩
  .have A4:k=l.length:=by omega
   go_wp2_with fail;go_ret;exact⟨-1,rfl,.inr ⟨by have:=HZ.out;rwa [A4,wZ] at this,rfl⟩,rfl⟩
theorem zJG(v:Value)(l:List Int)(n:Int)(hv:Sl F w 1 yI v l) : Calls Tryz.prog 329 #[v,.int .i64 n] w λe w'=>e=.returned (.bool (decide (n∈l)))/\w=w':=by
 have HV:=oh hv;clear hv
 go_enter Tryz.func329, Tryz.ntmps329
 go_wp2_with fail;refine (zNA v l n HV.out).mono ?_;rintro e w1 ⟨i,rfl,⟨hm,hi⟩|⟨hm,rfl⟩,rfl⟩
 .have HM:=oh hm;clear hm;go_wp2_with fail;go_ret;exact⟨yB (by rw[wL HM.out]),rfl⟩
 .have HM:=oh hm;clear hm;go_wp2_with fail;go_ret;exact⟨yB (by rw[wM HM.out]),rfl⟩
end
def zGC(n:zI):Bool:=n.entries.all qR && (n.keys.isEmpty && n.kids.isEmpty) && zAG (n.entries.map (·.key))
def zEB(n:zI):Bool:=n.entries.isEmpty && decide (2<=n.kids.length) && decide (n.kids.length=n.keys.length+1) && decide (n.kids.length<=256) && n.kids.all zCn && decide n.kids.Nodup && n.keys.all jO && zAG n.keys
theorem zFo{n:zI}(h:n.leaf=true):zO n=(zGC n && decide (n.entries.length<=65535)):=by
 unfold zO zGC;rw[if_pos h];simp only[Bool.and_assoc]
theorem zCe{n:zI}(h:n.leaf=false):zO n=zEB n:=by
 unfold zO zEB;rw[if_neg (by rw[h];simp)]
theorem zIM{α:Type}{p:α->Bool}{l:List α}{k:Nat}(hk:k<l.length)(h:∀x∈l.take k,p x=true)(hp:p l[k]=true):∀x∈l.take (k+1),p x=true:=by
 intro x hx;rw[vO l k l[k] (by simp[hk])] at hx;rcases uM.1 hx with h1|h1
 .exact h x h1
 .rw[wO.1 h1];exact hp
theorem zIN{α:Type}{p:α->Bool}{l:List α}{k:Nat}(hk:k=l.length)(h:∀x∈l.take k,p x=true):l.all p=true:=by
 rw[hk,wZ] at h;exact tA.2 h
theorem zKd{α:Type}{p:α->Bool}{l:List α}{k:Nat}(hk:k<l.length)(hp:p l[k]=false):l.all p=false:=by
 rw[<- pJ,tA];intro h;have:=h l[k] (tB hk);rw[hp] at this;cases this
theorem Sl.pre{α:Type}{F:NP}{w:World}{sz:Nat}{enc:α->List Value}{a:Option Addr}{n cap:Nat}{l:List α}(h:Sl F w sz enc (.slice a n cap) l)(k:Nat)(hk:k<=l.length):Sl F w sz enc (.slice a k cap) (l.take k):=by
 obtain⟨a',cap',e,h1,h2,h3,h4⟩:=h;injection e with e1 e2 e3;subst e1 e3;have hl:(l.take k).length=k:=by simp;omega
 refine⟨a,cap,by rw[hl],by omega,h2,by omega,?_⟩;rcases h4 with rfl|⟨b,off,rfl,hb,hF,hc⟩
 .exact .inl (by simp)
 .exact .inr ⟨b,off,rfl,hb,hF,λi x hi j u hu=>hc i x (by
   rw[rX] at hi;split at hi
   .exact hi
   .cases hi) j u hu⟩
section
variable {F:NP}{ad:Nat->Addr}{w w':World}
theorem zO9(n:zI)(ve vk vi:Value)(A5:Sl F w 4 zAQ ve n.entries)(Ac:Sl F w 1 vW vk n.keys)(Ap:Sl F w 1 yI vi n.kids) :
  Calls Tryz.prog 320 #[.agg #[.bool n.leaf,ve,vk,vi]] w λe w'=>e=.returned (.bool (zGC n))/\zF w w':=by
 have Bb:=oh A5;obtain⟨ae,ce,rfl,Ah,A7,Ai,A2⟩:=A5;obtain⟨ak,ck,rfl,Bc,Au,Bd,A9⟩:=Ac;obtain⟨ai,ci,rfl,B3,Av,B4,Ag⟩:=Ap;unfold maxLen at A7 Au Av;clear A9 Ag;generalize Aw:n.leaf=lf
 clear Aw
 go_enter Tryz.func320, Tryz.ntmps320
 go_wp2_with fail;go_loopg [8] n.entries.length (λm i wr=>∃k:Nat,k+m=n.entries.length/\i=.int .i64 k/\Hid (∀x∈n.entries.take k,qR x=true)/\zF w wr/\wr.cell? ⟨w.heap.size,1,none⟩=some (.slice ae n.entries.length ce)/\wr.cell? ⟨w.heap.size,2,none⟩=some (.slice ak n.keys.length ck)/\wr.cell? ⟨w.heap.size,3,none⟩=some (.slice ai n.kids.length ci))
 case atStart=>exact⟨0,by omega,rfl,oh (by simp),zr.alloc _,by go_cell,by go_cell,by go_cell⟩
 case round =>
  obtain⟨k,Aa,rfl,HZ,hm,b1,b2,b3⟩:=hrel;by_cases A1:k<n.entries.length
  .obtain⟨b,off,rfl,hb,hF,hc⟩:=Sl.at A2 hm (λ_ _ f=>f.elim) k A1;have c0:=hc 0 _ rfl;simp only[uT] at c0;have c1:=hc 1 _ rfl;have c2:=hc 2 _ rfl;have c3:=hc 3 _ rfl;have HM:=oh hm;have Aj:=oh A2;clear hc A2 hm;go_wp2_with fail;refine (zM8 n.entries[k] _).mono ?_;rintro x w1 ⟨rfl,A0⟩;have Be:=zE A0 (zR b1 _);have Bf:=zE A0 (zR b2 _);have Bg:=zE A0 (zR b3 _);have A6:Hid (zF w w1):=oh ((HM.out.alloc _).trans A0);clear A0 c0 c1 c2 c3 b1 b2 b3;cases ht:qR n.entries[k]
   .have HT:=oh ht;clear ht;go_wp2_with fail;go_ret;exact⟨yB (by unfold zGC;rw[zKd A1 HT.out];rfl),A6.out⟩
   .have HT:=oh ht;clear ht;go_wp2_with fail;go_roundg (gk-1)
    case measure=>omega
    case rel=>exact⟨k+1,by omega,by go_num,oh (zIM A1 HZ.out HT.out),A6.out,Be,Bf,Bg⟩
  .have A4:k=n.entries.length:=by omega
   have HA:Hid (n.entries.all qR=true):=oh (zIN A4 HZ.out);have HM:=oh hm;have Ax:=oh (Bb.out.ext hm);clear HZ A4 A2 hm;by_cases hz:n.keys.length=0/\n.kids.length=0
   .have hd:((n.keys.length:Int)+(n.kids.length:Int) == 0)=true:=by rw[rE];omega
    have HZ:=oh hz;clear hz;go_wp2_with fail;refine (zLo _ _ Ax.out).mono ?_;rintro x w1 ⟨rfl,A0⟩;have A6:=oh (HM.out.trans A0);clear A0;go_wp2_with fail;go_ret;exact⟨yB (by
     unfold zGC;rw[HA.out,wR.2 (tE HZ.out.1),wR.2 (tE HZ.out.2)];rfl),A6.out⟩
   .have hd:((n.keys.length:Int)+(n.kids.length:Int) == 0)=false:=by rw[uR];omega
    have HZ:=oh hz;clear hz;go_wp2_with fail;go_ret;exact⟨yB (by
     unfold zGC;have:(n.keys.isEmpty && n.kids.isEmpty)=false:=by
      rw[<- pJ,uI,wR,wR];rintro⟨a,b⟩;exact HZ.out ⟨by rw[a];rfl,by rw[b];rfl⟩
     rw[this];simp),HM.out⟩
end
def zIO(n:zI):Bool:=n.entries.isEmpty && decide (2<=n.kids.length) && decide (n.kids.length=n.keys.length+1) && decide (n.kids.length<=256)
theorem zCM(n:zI):zEB n=(zIO n && (n.kids.all zCn && decide n.kids.Nodup) && n.keys.all jO && zAG n.keys):=by
 unfold zEB zIO;simp only[Bool.and_assoc]
theorem zEC(n:zI):zIO n=true ↔ n.entries.length=0/\2<=n.kids.length/\n.kids.length=n.keys.length+1/\n.kids.length<=256:=by
 unfold zIO;simp only[uI,uO,wR,List.length_eq_zero_iff,and_assoc]
theorem zNB{l:List Int}{k:Nat}(hk:k<l.length)(h:(l.take k).Nodup)(hn:l[k] ∉ l.take k):(l.take (k+1)).Nodup:=by
 rw[vO l k l[k] (by simp[hk])];rw[uX];refine⟨h,by simp,λa ha b hb e=>?_⟩;rw[wO.1 hb] at e;rw[e] at ha;exact hn ha
theorem zPA{l:List Int}{k:Nat}(hk:k<l.length)(hn:l[k]∈l.take k):¬ l.Nodup:=by
 intro h;obtain⟨i,hi,e⟩:=wF hn;rw[pV] at e;have Bh:i<k:=by simp at hi;omega
 exact tO.1 h i k (by omega) hk Bh e
section
variable {F:NP}{ad:Nat->Addr}{w w':World}
theorem zNC(n:zI)(ve vk vi:Value)(A5:Sl F w 4 zAQ ve n.entries)(Ac:Sl F w 1 vW vk n.keys)(Ap:Sl F w 1 yI vi n.kids) :
  Calls Tryz.prog 321 #[.agg #[.bool n.leaf,ve,vk,vi]] w λe w'=>e=.returned (.bool (zEB n))/\zF w w':=by
 have B5:=oh Ap;have B6:=oh Ac;obtain⟨ae,ce,rfl,Ah,A7,Ai,A2⟩:=A5;obtain⟨ak,ck,rfl,Bc,Au,Bd,A9⟩:=Ac;obtain⟨ai,ci,rfl,B3,Av,B4,Ag⟩:=Ap;unfold maxLen at A7 Au Av;clear A2;generalize Aw:n.leaf=lf
 clear Aw;cases hh:zIO n with
 | false =>
  have HR:Hid (zEB n=false):=oh (by rw[zCM,hh];rfl);have hn:¬ (n.entries.length=0/\2<=n.kids.length/\n.kids.length=n.keys.length+1/\n.kids.length<=256):=λh=>by rw[(zEC n).2 h] at hh;cases hh
  clear hh A9 Ag B5 B6;generalize n.entries.length=N1 at *
  generalize n.kids.length=N2 at *
  generalize n.keys.length=N3 at *
  by_cases h1:(0:Int)<(N1:Int)
  .clear hn
   go_enter Tryz.func321, Tryz.ntmps321
   go_wp2_with fail;go_ret;exact⟨yB HR.out.symm,(zss w).alloc _⟩
  .by_cases h2:(N2:Int)<2
   .clear hn
    go_enter Tryz.func321, Tryz.ntmps321
    go_wp2_with fail;go_ret;exact⟨yB HR.out.symm,(zss w).alloc _⟩
   .by_cases h3:N2=N3+1
    .subst h3;have h4:(256:Int)<(N3:Int)+1:=by omega
     clear hn
     go_enter Tryz.func321, Tryz.ntmps321
     go_wp2_with fail;go_ret;exact⟨yB HR.out.symm,(zss w).alloc _⟩
    .have h5:((N2:Int) != (N3:Int)+1)=true:=by rw[bne_iff_ne];omega
     clear hn h3
     go_enter Tryz.func321, Tryz.ntmps321
     go_wp2_with fail;go_ret;exact⟨yB HR.out.symm,(zss w).alloc _⟩
 | true =>
  have HR:Hid (zEB n=((n.kids.all zCn && decide n.kids.Nodup) && n.keys.all jO && zAG n.keys)):=oh (by rw[zCM,hh,Bool.true_and]);obtain⟨g1,g2,g3,g4⟩:=(zEC n).1 hh;rw[g3] at B3 B4 g2 g4;rw[g1,g3];have Ay:=oh g3;have h2:¬ (n.keys.length:Int)+1<2:=by omega
  have h4:¬ (256:Int)<(n.keys.length:Int)+1:=by omega
  clear hh g1 g3
  go_enter Tryz.func321, Tryz.ntmps321
  go_wp2_with fail;go_loopg [36] (n.keys.length+1) (λm i wr=>∃k:Nat,k+m=n.keys.length+1/\i=.int .i64 k/\Hid ((∀x∈n.kids.take k,zCn x=true)/\(n.kids.take k).Nodup)/\zF w wr/\wr.cell? ⟨w.heap.size,2,none⟩=some (.slice ak n.keys.length ck)/\wr.cell? ⟨w.heap.size,3,none⟩=some (.slice ai (n.keys.length+1) ci))
  case atStart=>exact⟨0,by omega,rfl,oh ⟨by simp,by simp⟩,zr.alloc _,by go_cell,by go_cell⟩
  case round =>
   obtain⟨k,Aa,rfl,HZ,hm,b2,b3⟩:=hrel;by_cases Az:k<n.keys.length+1
   .have A1:k<n.kids.length:=by rw[Ay.out];exact Az
    obtain⟨b,off,rfl,hb,hF,hc⟩:=Sl.at Ag hm (λ_ _ f=>f.elim) k A1;have c0:=hc 0 _ rfl;simp only[uT,wC] at c0;have HM:=oh hm;have Bk:=oh Ag;have Bi:=oh A9;have HP:=oh ((B5.out.ext hm).pre k (by rw[Ay.out];omega));have Aq:=oh A1;generalize B7:n.kids[k]=kx at c0
    have Ar:=oh B7;clear B7;clear hc A1 Ag hm A9;go_wp2_with fail;refine (zEv kx _).mono ?_;rintro x w1 ⟨rfl,rfl⟩;cases ht:zCn kx
    .have HT:=oh ht;clear ht;go_wp2_with fail;go_ret;exact⟨yB (by rw[HR.out,zKd Aq.out ((congrArg zCn Ar.out).trans HT.out)];rfl),HM.out⟩
    .have HT:=oh ht;clear ht;go_wp2_with fail;refine (zJG _ _ kx HP.out).mono ?_;rintro x w1 ⟨rfl,rfl⟩;by_cases hc:kx∈n.kids.take k
     .have HC:=oh hc;rw[wL hc];clear hc;go_wp2_with fail;go_ret;exact⟨yB (by rw[HR.out,wM (zPA Aq.out (Ar.out ▸ HC.out))];simp),HM.out⟩
     .have HC:=oh hc;rw[wM hc];clear hc;go_wp2_with fail;go_roundg (gk-1)
      case measure=>omega
      case rel=>exact⟨k+1,by omega,by go_num,oh ⟨zIM Aq.out HZ.out.1 ((congrArg zCn Ar.out).trans HT.out),zNB Aq.out HZ.out.2 (Ar.out ▸ HC.out)⟩,HM.out,b2,b3⟩
   .have A4:k=n.kids.length:=by rw[Ay.out];omega
    have HA:Hid ((n.kids.all zCn && decide n.kids.Nodup)=true):=oh (by
     rw[zIN A4 HZ.out.1];have:=HZ.out.2;rw[A4,wZ] at this;rw[wL this];rfl)
    have HM:=oh hm;clear Ag HZ A4 hm Aa;go_wp2_with fail;have hm:=HM.out;clear HM;obtain⟨wo,rfl⟩:∃wo:World,wo=wr:=⟨_,rfl⟩;go_loopg [56] n.keys.length (λm i wr=>∃k:Nat,k+m=n.keys.length/\i=.int .i64 k/\Hid (∀x∈n.keys.take k,jO x=true)/\zF w wr/\wr.cell? ⟨w.heap.size,2,none⟩=some (.slice ak n.keys.length ck))
    case atStart=>exact⟨0,by omega,rfl,oh (by simp),hm,b2⟩
    case round =>
     obtain⟨k,Aa,rfl,HZ,hm,b2⟩:=hrel;by_cases A1:k<n.keys.length
     .obtain⟨b,off,rfl,hb,hF,hc⟩:=Sl.at A9 hm (λ_ _ f=>f.elim) k A1;have c0:=hc 0 _ rfl;simp only[uT,wC] at c0;have HM:=oh hm;have Bi:=oh A9;clear hc A9 hm;go_wp2_with fail;refine (zBk n.keys[k] _).mono ?_;rintro x w1 ⟨rfl,rfl⟩;cases ht:jO n.keys[k]
      .have HT:=oh ht;clear ht;go_wp2_with fail;go_ret;exact⟨yB (by rw[HR.out,zKd A1 HT.out];simp),HM.out⟩
      .have HT:=oh ht;clear ht;go_wp2_with fail;go_roundg (gk-1)
       case measure=>omega
       case rel=>exact⟨k+1,by omega,by go_num,oh (zIM A1 HZ.out HT.out),HM.out,b2⟩
     .have A4:k=n.keys.length:=by omega
      have HB:Hid (n.keys.all jO=true):=oh (zIN A4 HZ.out);have HM:=oh hm;have B0:=oh (B6.out.ext hm);clear HZ A4 hm A9;go_wp2_with fail;refine (zLp _ _ B0.out).mono ?_;rintro x w1 ⟨rfl,A0⟩;have A6:=oh (HM.out.trans A0);clear A0;go_wp2_with fail;go_ret;exact⟨yB (by rw[HR.out,HA.out,HB.out];rfl),A6.out⟩
end
end
end Go.Proofs.YtalpfcaakpgkmaaGreatDoor
