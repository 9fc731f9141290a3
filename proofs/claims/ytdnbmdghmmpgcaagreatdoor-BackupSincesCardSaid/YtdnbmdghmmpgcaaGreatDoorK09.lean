import Derived.Test.YtdnbmdghmmpgcaaGreatDoorK08
import Derived.Test.YtdnbmdghmmpgcaaGreatDoorK04
namespace Go.Proofs.YtdnbmdghmmpgcaaGreatDoor
open Lib renaming hid→oh
section
open Go.RowKit
theorem Blk.set5{w:World}{R:Nat}{t:TypeId}{a0 a1 a2 a3 a4:Value}(h:Blk w R #[a0,a1,a2,a3,a4] t)(v0 v1 v2 v3 v4:Value) :
  Blk (((((w.setCell ⟨R,0,none⟩ v0).setCell ⟨R,1,none⟩ v1).setCell ⟨R,2,none⟩ v2).setCell ⟨R,3,none⟩ v3).setCell ⟨R,4,none⟩ v4) R #[v0,v1,v2,v3,v4] t:=by
 simpa using ((((h.set 0 v0).set 1 v1).set 2 v2).set 3 v3).set 4 v4
theorem Mods.set5{F:Nat→Prop}{w w':World}(m:Mods F w w'){R:Nat}(hR:w.heap.size≤R∨F R)(v0 v1 v2 v3 v4:Value) :
  Mods F w (((((w'.setCell ⟨R,0,none⟩ v0).setCell ⟨R,1,none⟩ v1).setCell ⟨R,2,none⟩ v2).setCell ⟨R,3,none⟩ v3).setCell ⟨R,4,none⟩ v4) :=
 (m.set4 hR v0 v1 v2 v3).setCell (p:=⟨R,4,none⟩) hR _
def spMark(l:List Nat)(id:Int):List Nat × Option Err :=
 match spCheck l id with
 | some e=>(l,some e)
 | none=>if l[id.toNat]? = some 0 then (l.set id.toNat 1,none) else (l,some ([pgOf id],1))
theorem Mark_any{F:Nat→Prop}{ad:Nat→Addr}{w:World}(hL:Env F ad w)(b b2:Nat)(l:List Nat)(h:SpR w b b2 l)(id:Int) :
  Calls Tryz.prog 89 #[.pointer (some ⟨b,0,none⟩),.int .i64 id] w λe w' =>
   ∃ev,e=.returned ev∧ErrR F ad w' ev (spMark l id).2∧SpR w' b b2 (spMark l id).1∧Mods (spF b b2) w w':=by
 have HS:=oh h;have HL:=oh hL;have hl:=h.len;have hl2:=h.len2;clear h hL;cases hc:spCheck l id with
 | some er =>
  have HR:Hid (spMark l id=(l,some er)):=oh (by unfold spMark;rw[hc])
  go_enter Tryz.func89, Tryz.ntmps89
  go_wp2_with fail;refine (spCheck_any HL.out b b2 l HS.out _ id).mono ?_;rintro e w1 ⟨ev,rfl,hE,hm⟩;rw[hc] at hE;obtain⟨el,ek⟩:=er;obtain⟨f,rfl,hE⟩:=hE;have HE:=oh hE;clear hE hc;go_wp2
  go_ret;exact⟨_,rfl,by rw[HR.out];exact⟨f,rfl,HE.out⟩,by rw[HR.out];exact HS.out.mods hm (λf=>f) (λf=>f),hm.ext⟩
 | none =>
  have hid:2≤id∧id<(l.length:Int):=by
   unfold spCheck at hc;split at hc
   ·cases hc
   ·omega
  obtain⟨i,rfl⟩:∃i:Nat,id=i:=⟨id.toNat,by omega⟩;have hlt:i<l.length:=by omega
  obtain⟨x,hx⟩:∃x,l[i]? = some x:=⟨_,List.getElem?_eq_getElem hlt⟩;have HG:Hid (spMark l i=if x=0 then (l.set i 1,none) else (l,some ([pgOf i],1))):=oh (by
   unfold spMark;rw[hc];simp only[Int.toNat_natCast,hx,Option.some.injEq])
  go_enter Tryz.func89, Tryz.ntmps89
  go_wp2_with fail;refine (spCheck_any HL.out b b2 l HS.out _ i).mono ?_;rintro e w1 ⟨ev,rfl,hE,hm⟩;rw[hc] at hE;cases hE
  have HS1:=oh (HS.out.mods hm (λf=>f) (λf=>f));have HL1:=oh (HL.out.mods hm.ext);have c0:=HS1.out.own.cell (o:=0) (v:=.slice (some ⟨b2,0,none⟩) l.length l.length) rfl;have c1:=HS1.out.row.cell (spCells_at l i x hx);have hfr:=HS1.out.row.frozen i;have g1:=HL1.out.c1;clear hx hc;by_cases hx2:x=0
  ·subst hx2;rw[if_pos rfl] at HG;go_wp2
   go_ret;exact⟨_,rfl,by rw[HG.out];rfl,by rw[HG.out];exact HS1.out.set i 1,hm.ext.trans (Mods.at _ _ b2 i _ (.inr rfl))⟩
  ·rw[if_neg hx2] at HG;go_wp2_with fail;refine (at_any HL1.out _ _ _ _ 1 (.sent 1 (by decide) (by decide))).mono ?_;rintro e w2 ⟨f,rfl,hE,hm2⟩;have HE:=oh hE;clear hE;go_wp2
   go_ret;exact⟨_,by rfl,by rw[HG.out];exact⟨f,rfl,HE.out⟩,by rw[HG.out];exact HS1.out.mods hm2 (λf=>f) (λf=>f),(hm.trans hm2).ext⟩
end
section
def kidB(n:Int):Bool:=decide (2≤n) && decide (n<256)
def rightE(e:EntryA):Bool :=
 keyB e.key && (if e.chain=0 then decide (e.size=0) && decide (e.value.size≤24) else kidB e.chain && decide (e.value.size=0) && decide (24<e.size) && decide (e.size≤4096))
def risingS:List ByteArray→Bool
 | []=>true
 | [_]=>true
 | a :: b :: l=>ltS a b && risingS (b :: l)
def rightN(n:NodeA):Bool :=
 if n.leaf then n.entries.all rightE && n.keys.isEmpty && n.kids.isEmpty && risingS (n.entries.map (·.key)) && decide (n.entries.length≤65535)
 else n.entries.isEmpty && decide (2≤n.kids.length) && decide (n.kids.length=n.keys.length+1) && decide (n.kids.length≤256) && n.kids.all kidB && decide n.kids.Nodup && n.keys.all keyB && risingS n.keys
def bytesT(s:ByteArray):List UInt8:=leB 1 s.size++s.data.toList
def bytesE(e:EntryA):List UInt8 :=
 bytesT e.key++(if e.chain=0 then leB 1 0++bytesT e.value else leB 1 1++(leB 4 e.chain.toNat++leB 4 e.size.toNat))
def bytesK(p:ByteArray × Int):List UInt8:=bytesT p.1++leB 4 p.2.toNat
def bytesN(n:NodeA):List UInt8 :=
 if n.leaf then leB 2 n.entries.length++n.entries.flatMap bytesE
 else leB 2 n.kids.length++(leB 4 (n.kids.headD 0).toNat++(n.keys.zip n.kids.tail).flatMap bytesK)
structure RdA where
 at_:Int
 bad:Bool
def rdNum(b:List UInt8)(r:RdA)(W:Nat):Nat × RdA:=((takeF b r.at_ W).1,⟨r.at_+W,r.bad || (takeF b r.at_ W).2.isSome⟩)
def rdText(b:List UInt8)(r:RdA):ByteArray × RdA :=
 let x:=rdNum b r 1
 if x.2.bad=true∨(b.length:Int)-x.2.at_<(x.1:Int) then (⟨#[]⟩,⟨x.2.at_,true⟩)
 else (⟨((b.drop x.2.at_.toNat).take x.1).toArray⟩,⟨x.2.at_+x.1,false⟩)
def rdEntry(b:List UInt8)(r:RdA):EntryA × RdA :=
 let k:=rdText b r
 let c:=rdNum b k.2 1
 if c.1=0 then
  let v:=rdText b c.2
  (⟨k.1,v.1,0,0⟩,v.2)
 else
  let x:=rdNum b c.2 4
  let y:=rdNum b x.2 4
  (⟨k.1,⟨#[]⟩,x.1,y.1⟩,y.2)
def rdEntries(b:List UInt8):Nat→RdA→List EntryA→List EntryA × RdA
 | 0,r,l=>(l,r)
 | k+1,r,l=>if r.bad then (l,r) else rdEntries b k (rdEntry b r).2 (l++[(rdEntry b r).1])
def rdKeys(b:List UInt8):Nat→RdA→List ByteArray→List Int→List ByteArray × List Int × RdA
 | 0,r,l,m=>(l,m,r)
 | k+1,r,l,m=>if r.bad then (l,m,r) else
  let s:=rdText b r
  let x:=rdNum b s.2 4
  rdKeys b k x.2 (l++[s.1]) (m++[(x.1:Int)])
def rdNode(leaf:Bool)(b:List UInt8):NodeA × RdA :=
 let m:=rdNum b ⟨0,false⟩ 2
 if leaf then
  let x:=rdEntries b m.1 m.2 []
  (⟨true,x.1,[],[]⟩,x.2)
 else
  let k:=rdNum b m.2 4
  let x:=rdKeys b (m.1-1) k.2 [] [(k.1:Int)]
  (⟨false,[],x.1,x.2.1⟩,x.2.2)
def getN(leaf:Bool)(b:List UInt8):Option NodeA :=
 let x:=rdNode leaf b
 if x.2.bad=false∧rightN x.1=true∧bytesN x.1=b then some x.1 else none
theorem takeF_at(p q:List UInt8)(W n:Nat)(hn:n<256 ^ W):takeF (p++(leB W n++q)) (p.length:Int) W=(n,none):=by
 unfold takeF;rw[if_neg (by simp;omega),if_neg (by simp[leB_length];omega)];have e:((p++(leB W n++q)).drop ((p.length:Int)).toNat).take W=leB W n:=by
  rw[Int.toNat_natCast,List.drop_left,List.take_left' (leB_length W n)]
 rw[e,ofLe_leB,Nat.mod_eq_of_lt hn]
theorem rdNum_at(p q:List UInt8)(W n:Nat)(hn:n<256 ^ W):rdNum (p++(leB W n++q)) ⟨(p.length:Int),false⟩ W=(n,⟨((p++leB W n).length:Int),false⟩):=by
 unfold rdNum;simp only[takeF_at p q W n hn];simp[leB_length]
theorem rdText_at(p q:List UInt8)(s:ByteArray)(hs:s.size<256):rdText (p++(bytesT s++q)) ⟨(p.length:Int),false⟩=(s,⟨((p++bytesT s).length:Int),false⟩):=by
 unfold rdText bytesT;have h:=rdNum_at p (s.data.toList++q) 1 s.size (by simpa using hs);rw[List.append_assoc] at *;simp only at h ⊢;rw[h];have hl:s.data.toList.length=s.size:=by rw[Array.length_toList];rfl
 simp only;rw[if_neg (by simp[leB_length];omega)];have e:((p++(leB 1 s.size++(s.data.toList++q))).drop ((((p++leB 1 s.size).length:Nat):Int)).toNat).take s.size=s.data.toList:=by
  rw[Int.toNat_natCast,← List.append_assoc,List.drop_left,List.take_left' hl]
 rw[e];simp[leB_length,hl];omega
theorem rdEntry_at(p q:List UInt8)(e:EntryA)(he:rightE e=true):rdEntry (p++(bytesE e++q)) ⟨(p.length:Int),false⟩=(e,⟨((p++bytesE e).length:Int),false⟩):=by
 obtain⟨key,value,chain,size⟩:=e;unfold rightE at he;simp only[Bool.and_eq_true] at he;obtain⟨hk,he⟩:=he;have hk2:key.size<256:=by have:=(keyB_iff key).1 hk;omega
 unfold rdEntry bytesE;by_cases hc:chain=0
 ·rw[if_pos hc] at he;simp only[Bool.and_eq_true,decide_eq_true_eq] at he;obtain⟨h1,h2⟩:=he;subst hc h1;simp only[if_pos];have a:=rdText_at p (leB 1 0++bytesT value++q) key hk2;have b:=rdNum_at (p++bytesT key) (bytesT value++q) 1 0 (by decide);have c:=rdText_at (p++bytesT key++leB 1 0) q value (by omega);simp only[List.append_assoc] at a b c ⊢;rw[a];simp only;rw[b];simp only[if_pos];rw[c]
 ·rw[if_neg hc] at he;simp only[Bool.and_eq_true,decide_eq_true_eq,kidB] at he;obtain⟨⟨⟨⟨h1,h2⟩,h3⟩,h4⟩,h5⟩:=he;obtain⟨cn,rfl⟩:∃cn:Nat,chain=(cn:Int):=⟨chain.toNat,by omega⟩;obtain⟨sn,rfl⟩:∃sn:Nat,size=(sn:Int):=⟨size.toNat,by omega⟩;have hv:value=⟨#[]⟩:=by
   apply ByteArray.ext
   exact Array.eq_empty_of_size_eq_zero h3
  subst hv;simp only[if_neg hc,Int.toNat_natCast];have a:=rdText_at p (leB 1 1++(leB 4 cn++(leB 4 sn++q))) key hk2;have b:=rdNum_at (p++bytesT key) (leB 4 cn++(leB 4 sn++q)) 1 1 (by decide);have c:=rdNum_at (p++bytesT key++leB 1 1) (leB 4 sn++q) 4 cn (by omega);have d:=rdNum_at (p++bytesT key++leB 1 1++leB 4 cn) q 4 sn (by omega);simp only[List.append_assoc] at a b c d ⊢;rw[a];simp only;rw[b];simp only[if_neg (show ¬ (1:Nat)=0 by omega)];rw[c];simp only;rw[d]
theorem rdEntries_at:∀(m:List EntryA) (p q:List UInt8) (l:List EntryA),m.all rightE=true→rdEntries (p++(m.flatMap bytesE++q)) m.length ⟨(p.length:Int),false⟩ l=(l++m,⟨((p++m.flatMap bytesE).length:Int),false⟩)
 | [],p,q,l,_=>by simp[rdEntries]
 | e :: m,p,q,l,h=>by
  simp only[List.all_cons,Bool.and_eq_true] at h;have a:=rdEntry_at p (m.flatMap bytesE++q) e h.1;have b:=rdEntries_at m (p++bytesE e) q (l++[e]) h.2;rw[List.length_cons,rdEntries];simp only[List.flatMap_cons,List.append_assoc] at a b ⊢;rw[if_neg (by simp),a];simp only;rw[b];simp
theorem rdKeys_at:∀(m:List (ByteArray × Int)) (p q:List UInt8) (l:List ByteArray) (k:List Int),(∀x∈m,keyB x.1=true∧kidB x.2=true) →
  rdKeys (p++(m.flatMap bytesK++q)) m.length ⟨(p.length:Int),false⟩ l k=(l++m.map (·.1),k++m.map (·.2),⟨((p++m.flatMap bytesK).length:Int),false⟩)
 | [],p,q,l,k,_=>by simp[rdKeys]
 | x :: m,p,q,l,k,h=>by
  obtain⟨s,c⟩:=x;obtain⟨h1,h2⟩:=h _ List.mem_cons_self;simp only at h1 h2;have hs:s.size<256:=by have:=(keyB_iff s).1 h1;omega
  simp only[kidB,Bool.and_eq_true,decide_eq_true_eq] at h2;obtain⟨cn,rfl⟩:∃cn:Nat,c=(cn:Int):=⟨c.toNat,by omega⟩;have a:=rdText_at p (leB 4 cn++(m.flatMap bytesK++q)) s hs;have b:=rdNum_at (p++bytesT s) (m.flatMap bytesK++q) 4 cn (by omega);have d:=rdKeys_at m (p++(bytesT s++leB 4 cn)) q (l++[s]) (k++[(cn:Int)]) (λy hy=>h y (List.mem_cons_of_mem _ hy));rw[List.length_cons,rdKeys];simp only[List.flatMap_cons,bytesK,Int.toNat_natCast,List.append_assoc] at a b d ⊢;rw[if_neg (by simp),a];simp only;rw[b];simp only;rw[d];simp
theorem rdNode_bytes(n:NodeA)(h:rightN n=true):rdNode n.leaf (bytesN n)=(n,⟨((bytesN n).length:Int),false⟩):=by
 obtain⟨leaf,entries,keys,kids⟩:=n;cases leaf with
 | true =>
  unfold rightN at h;simp only[if_true,Bool.and_eq_true,List.isEmpty_iff,decide_eq_true_eq] at h;obtain⟨⟨⟨⟨h1,h2⟩,h3⟩,_⟩,h5⟩:=h;subst h2 h3;have a:=rdNum_at [] (entries.flatMap bytesE) 2 entries.length (by omega);have b:=rdEntries_at entries (leB 2 entries.length) [] [] h1;simp only[List.nil_append,List.append_nil,List.length_nil] at a b;unfold rdNode bytesN;simp only[if_true];rw[show ((⟨0,false⟩:RdA))=⟨((0:Nat):Int),false⟩ from rfl,a];simp only;rw[b]
 | false =>
  unfold rightN at h;simp only[Bool.false_eq_true,if_false,Bool.and_eq_true,List.isEmpty_iff,decide_eq_true_eq] at h;obtain⟨⟨⟨⟨⟨⟨⟨h1,h2⟩,h3⟩,h4⟩,h5⟩,_⟩,h7⟩,_⟩:=h;subst h1;cases kids with
  | nil=>simp at h2
  | cons k0 ks =>
   simp only[List.length_cons] at h3 h4 h2;simp only[List.all_cons,Bool.and_eq_true] at h5;obtain⟨hk0,hks⟩:=h5;have hk1:2≤k0∧k0<256:=by simpa[kidB] using hk0
   obtain⟨c0,rfl⟩:∃c0:Nat,k0=(c0:Int):=⟨k0.toNat,by omega⟩;have hz1:(keys.zip ks).map (·.1)=keys:=List.map_fst_zip (by omega);have hz2:(keys.zip ks).map (·.2)=ks:=List.map_snd_zip (by omega);have hzl:(keys.zip ks).length=ks.length:=by rw[List.length_zip];omega
   have a:=rdNum_at [] (leB 4 c0++(keys.zip ks).flatMap bytesK) 2 (ks.length+1) (by omega);have b:=rdNum_at (leB 2 (ks.length+1)) ((keys.zip ks).flatMap bytesK) 4 c0 (by omega);have d:=rdKeys_at (keys.zip ks) (leB 2 (ks.length+1)++leB 4 c0) [] [] [(c0:Int)] (λx hx=>by
    have hm:=List.of_mem_zip hx;exact⟨List.all_eq_true.1 h7 _ hm.1,List.all_eq_true.1 hks _ hm.2⟩)
   simp only[List.nil_append,List.append_nil,List.length_nil,List.append_assoc] at a b d;unfold rdNode bytesN;simp only[Bool.false_eq_true,if_false,List.length_cons,List.headD_cons,List.tail_cons,Int.toNat_natCast];rw[show ((⟨0,false⟩:RdA))=⟨((0:Nat):Int),false⟩ from rfl,a];simp only;rw[b];simp only[Nat.add_sub_cancel];rw[hzl] at d;rw[d,hz1,hz2];rfl
theorem getN_iff(leaf:Bool)(b:List UInt8)(n:NodeA):getN leaf b=some n ↔ rightN n=true∧n.leaf=leaf∧bytesN n=b:=by
 have hlf:(rdNode leaf b).1.leaf=leaf:=by cases leaf <;> rfl
 constructor
 ·intro h;unfold getN at h;simp only at h;split at h
  ·rename_i hc;injection h with h;subst h;exact⟨hc.2.1,hlf,hc.2.2⟩
  ·cases h
 ·rintro⟨h1,rfl,rfl⟩;unfold getN;rw[rdNode_bytes n h1];simp[h1]
end
section
open Go.RowKit
def tellsE(R:Int→Int→Option ByteArray)(e:EntryA):Option ByteArray:=if e.chain=0 then some e.value else R e.chain e.size
def inB(lo:ByteArray)(hi:Option ByteArray)(k:ByteArray):Prop:=ltS k lo=false∧∀h,hi=some h→ltS k h=true
def loAt(lo:ByteArray)(keys:List ByteArray)(i:Nat):ByteArray:=if i=0 then lo else keys.getD (i-1) lo
def hiAt(hi:Option ByteArray)(keys:List ByteArray)(i:Nat):Option ByteArray:=match keys[i]? with
 | some s=>some s
 | none=>hi
inductive Tr (V:Nat→Option NodeA) (R:Int→Int→Option ByteArray):ByteArray→Option ByteArray→Nat→Nat→List PairS→Prop
 | leaf {lo hi id n} {l:List PairS}:V id=some n→n.leaf=true→rightN n=true→n.entries.length=l.length→(∀(i:Nat) (e:EntryA) (x:PairS),n.entries[i]? = some e→l[i]? = some x→e.key=x.1∧tellsE R e=some x.2)→(∀x∈l,inB lo hi x.1)→Tr V R lo hi id 1 l
 | inner {lo hi id n d} {parts:List (List PairS)}:V id=some n→n.leaf=false→rightN n=true→parts.length=n.kids.length→(∀(i:Nat) (k:Int) (p:List PairS),n.kids[i]? = some k→parts[i]? = some p→Tr V R (loAt lo n.keys i) (hiAt hi n.keys i) k.toNat d p)→(∀s∈n.keys,inB lo hi s)→Tr V R lo hi id (d+1) parts.flatten
theorem not_lt_trans{a b c:ByteArray}(h1:ltS b a=false)(h2:ltS c b=false):ltS c a=false:=by
 cases h:ltS c a with
 | false=>rfl
 | true =>
  rcases not_ltS h2 with k|rfl
  ·have:=ltS_trans k h;rw[h1] at this;cases this
  ·rw[h1] at h;cases h
theorem lt_of_lt_not{a b c:ByteArray}(h1:ltS a b=true)(h2:ltS c b=false):ltS a c=true:=by
 rcases not_ltS h2 with k|rfl
 ·exact ltS_trans h1 k
 ·exact h1
theorem rising_pw:∀{l:List ByteArray},risingS l=true→l.Pairwise λa b=>ltS a b=true
 | [],_=>List.Pairwise.nil
 | [_],_=>List.pairwise_singleton _ _
 | a :: b :: l,h=>by
  simp only[risingS,Bool.and_eq_true] at h;have h2:=rising_pw h.2;refine List.pairwise_cons.2 ⟨λy hy=>?_,h2⟩;rcases List.mem_cons.1 hy with rfl|hy
  ·exact h.1
  ·exact ltS_trans h.1 ((List.pairwise_cons.1 h2).1 y hy)
theorem pw_at{l:List ByteArray}(h:l.Pairwise λa b=>ltS a b=true){i j:Nat}{a b:ByteArray}(hij:i<j)(hi:l[i]? = some a)(hj:l[j]? = some b):ltS a b=true:=by
 obtain⟨h1,rfl⟩:=List.getElem?_eq_some_iff.1 hi;obtain⟨h2,rfl⟩:=List.getElem?_eq_some_iff.1 hj;exact List.pairwise_iff_getElem.1 h i j h1 h2 hij
theorem inB_kid{lo:ByteArray}{hi:Option ByteArray}{keys:List ByteArray}(hs:∀s∈keys,inB lo hi s){i:Nat}{k:ByteArray}(h:inB (loAt lo keys i) (hiAt hi keys i) k):inB lo hi k:=by
 refine⟨?_,λq hq=>?_⟩
 ·unfold loAt at h;by_cases hi0:i=0
  ·rw[if_pos hi0] at h;exact h.1
  ·rw[if_neg hi0] at h;have h1:=h.1;by_cases hl:i-1<keys.length
   ·have e:keys.getD (i-1) lo=keys[i-1]:=by simp[List.getD,hl]
    rw[e] at h1;exact not_lt_trans (hs _ (List.getElem_mem hl)).1 h1
   ·have e:keys.getD (i-1) lo=lo:=by simp[List.getD,List.getElem?_eq_none (by omega:keys.length≤i-1)]
    rw[e] at h1;exact h1
 ·have h2:=h.2;unfold hiAt at h2;cases hk:keys[i]? with
  | none=>rw[hk] at h2;exact h2 q hq
  | some s =>
   rw[hk] at h2;obtain⟨hl,rfl⟩:=List.getElem?_eq_some_iff.1 hk;exact ltS_trans (h2 _ rfl) ((hs _ (List.getElem_mem hl)).2 q hq)
theorem Tr.keys{V:Nat→Option NodeA}{R:Int→Int→Option ByteArray}{lo:ByteArray}{hi:Option ByteArray}{id d:Nat}{l:List PairS}(h:Tr V R lo hi id d l):∀x∈l,inB lo hi x.1:=by
 induction h with
 | leaf _ _ _ _ _ h6=>exact h6
 | @inner lo hi id n d parts h1 h2 h3 h4 h5 h6 ih =>
  intro x hx;obtain⟨p,hp,hx⟩:=List.mem_flatten.1 hx;obtain⟨i,hi,e⟩:=List.getElem_of_mem hp;have hp2:parts[i]? = some p:=by rw[← e];exact List.getElem?_eq_getElem hi
  have hk:i<n.kids.length:=by omega
  exact inB_kid h6 (ih i n.kids[i] p (List.getElem?_eq_getElem hk) hp2 x hx)
def kidAt(key:ByteArray)(keys:List ByteArray):Nat:=keys.findIdx λs=>ltS key s
def entAt(key:ByteArray)(es:List EntryA):Nat:=es.findIdx λe=>!ltS e.key key
def entIs(key:ByteArray)(es:List EntryA):Bool:=match es[entAt key es]? with
 | some e=>decide (e.key=key)
 | none=>false
theorem flat_find(key:ByteArray):∀(parts:List (List PairS)) (at_:Nat) (p:List PairS),parts[at_]? = some p→(∀(j:Nat) (q:List PairS),j≠at_→parts[j]? = some q→∀x∈q,x.1≠key)→findP key parts.flatten=findP key p
 | [],_,_,h,_=>by simp at h
 | q :: parts,0,p,h,hn=>by
  simp at h;subst h;rw[List.flatten_cons,findP_append];have:findP key parts.flatten=none:=findP_none (λx hx=>by
   obtain⟨r,hr,hx⟩:=List.mem_flatten.1 hx;obtain⟨i,hi,e⟩:=List.getElem_of_mem hr;exact hn (i+1) r (by omega) (by rw[List.getElem?_cons_succ,← e];exact List.getElem?_eq_getElem hi) x hx)
  rw[this];cases findP key q <;> rfl
 | q :: parts,at_+1,p,h,hn=>by
  rw[List.flatten_cons,findP_append,findP_none (λx hx=>hn 0 q (by omega) rfl x hx),flat_find key parts at_ p (by simpa using h) (λj r hj hr=>hn (j+1) r (by omega) (by simpa using hr))];rfl
theorem findIdx_lt{α:Type}{f:α→Bool}{l:List α}{i:Nat}{a:α}(hi:i<l.findIdx f)(ha:l[i]? = some a):f a=false:=by
 obtain⟨h,rfl⟩:=List.getElem?_eq_some_iff.1 ha;simpa using List.not_of_lt_findIdx hi
theorem findIdx_at{α:Type}{f:α→Bool}{l:List α}{a:α}(ha:l[l.findIdx f]? = some a):f a=true:=by
 obtain⟨h,rfl⟩:=List.getElem?_eq_some_iff.1 ha;exact List.findIdx_getElem
theorem inner_find{V:Nat→Option NodeA}{R:Int→Int→Option ByteArray}{lo:ByteArray}{hi:Option ByteArray}{n:NodeA}{d:Nat}{parts:List (List PairS)}{key:ByteArray}(hr:n.keys.Pairwise λa b=>ltS a b=true)(hkl:n.kids.length=n.keys.length+1)(hpl:parts.length=n.kids.length)
  (hT:∀(i:Nat) (k:Int) (p:List PairS),n.kids[i]? = some k→parts[i]? = some p→Tr V R (loAt lo n.keys i) (hiAt hi n.keys i) k.toNat d p) (hk:inB lo hi key) :
  ∃(k:Int) (p:List PairS),n.kids[kidAt key n.keys]? = some k∧parts[kidAt key n.keys]? = some p∧inB (loAt lo n.keys (kidAt key n.keys)) (hiAt hi n.keys (kidAt key n.keys)) key∧findP key parts.flatten=findP key p:=by
 obtain⟨a,ha⟩:∃a,a=kidAt key n.keys:=⟨_,rfl⟩;rw[← ha];have hal:a≤n.keys.length:=by rw[ha];exact List.findIdx_le_length
 have hak:a<n.kids.length:=by omega
 have hap:a<parts.length:=by omega
 refine⟨n.kids[a],parts[a],List.getElem?_eq_getElem hak,List.getElem?_eq_getElem hap,⟨?_,λq hq=>?_⟩,flat_find key parts a parts[a] (List.getElem?_eq_getElem hap) (λj q hj hq x hx=>?_)⟩
 ·unfold loAt;by_cases h0:a=0
  ·rw[if_pos h0];exact hk.1
  ·rw[if_neg h0];have hl:a-1<n.keys.length:=by omega
   have e:n.keys.getD (a-1) lo=n.keys[a-1]:=by simp[List.getD,hl]
   rw[e];exact findIdx_lt (f:=λs=>ltS key s) (i:=a-1) (by show a-1<kidAt key n.keys;omega) (List.getElem?_eq_getElem hl)
 ·unfold hiAt at hq;cases hs:n.keys[a]? with
  | none=>rw[hs] at hq;exact hk.2 q hq
  | some s =>
   rw[hs] at hq;injection hq with hq;subst hq;rw[ha] at hs;exact findIdx_at (f:=λs=>ltS key s) hs
 ·have hjp:=(List.getElem?_eq_some_iff.1 hq).1;have hjk:j<n.kids.length:=by omega
  have hx2:=(hT j n.kids[j] q (List.getElem?_eq_getElem hjk) hq).keys x hx;rcases Nat.lt_or_gt_of_ne hj with hlt|hgt
  ·have hl:j<n.keys.length:=by omega
   have h1:ltS x.1 n.keys[j]=true:=hx2.2 _ (by unfold hiAt;rw[List.getElem?_eq_getElem hl]);have h2:ltS key n.keys[j]=false:=findIdx_lt (f:=λs=>ltS key s) (i:=j) (by show j<kidAt key n.keys;omega) (List.getElem?_eq_getElem hl);exact λe=>by rw[e] at h1;rw[h1] at h2;cases h2
  ·have hl:j-1<n.keys.length:=by omega
   have h1:=hx2.1;unfold loAt at h1;rw[if_neg (by omega)] at h1;have e:n.keys.getD (j-1) lo=n.keys[j-1]:=by simp[List.getD,hl]
   rw[e] at h1;have hal2:a<n.keys.length:=by omega
   have h2:ltS key n.keys[a]=true:=by
    have hs:n.keys[kidAt key n.keys]? = some n.keys[a]:=by rw[← ha];exact List.getElem?_eq_getElem hal2
    exact findIdx_at (f:=λs=>ltS key s) hs
   have h3:ltS key n.keys[j-1]=true:=by
    by_cases e:a=j-1
    ·subst e;exact h2
    ·exact ltS_trans h2 (pw_at hr (by omega) (List.getElem?_eq_getElem hal2) (List.getElem?_eq_getElem hl))
   exact λe=>by rw[e] at h1;rw[h1] at h3;cases h3
theorem rightN_inner{n:NodeA}(h:rightN n=true)(hl:n.leaf=false):(n.keys.Pairwise λa b=>ltS a b=true)∧n.kids.length=n.keys.length+1∧∀k∈n.kids,2≤k∧k<256:=by
 unfold rightN at h;rw[if_neg (by rw[hl];simp)] at h;simp only[Bool.and_eq_true,decide_eq_true_eq,List.all_eq_true] at h;obtain⟨⟨⟨⟨⟨⟨⟨h1,h2⟩,h3⟩,h4⟩,h5⟩,h6⟩,h7⟩,h8⟩:=h;exact⟨rising_pw h8,h3,λk hk=>by simpa[kidB] using h5 k hk⟩
def apartA(n:NodeA)(a:Nat):NodeA × ByteArray × NodeA :=
 if n.leaf=true then (⟨true,n.entries.take a,[],[]⟩,(match n.entries[a]? with|some e=>e.key|none=>⟨#[]⟩),⟨true,n.entries.drop a,[],[]⟩)
 else (⟨false,[],n.keys.take (a-1),n.kids.take a⟩,n.keys.getD (a-1) ⟨#[]⟩,⟨false,[],n.keys.drop a,n.kids.drop a⟩)
def weightA(n:NodeA):Nat:=(bytesN n).length
def unlikeA(n:NodeA)(a:Nat):Nat:=((weightA (apartA n a).1:Int)-(weightA (apartA n a).2.2:Int)).natAbs
def firstMin(d:Nat→Nat):Nat→Nat→Nat→Nat
 | b,_,0=>b
 | b,a,m+1=>firstMin d (if d a<d b then a else b) (a+1) m
def cutFrom(n:NodeA):Nat:=if n.leaf=true then 1 else 2
def cutMany(n:NodeA):Nat:=if n.leaf=true then n.entries.length-1 else n.kids.length-3
def cutA(n:NodeA):Option (NodeA × ByteArray × NodeA) :=
 if rightN n=true∧0<cutMany n then some (apartA n (firstMin (unlikeA n) (cutFrom n) (cutFrom n) (cutMany n))) else none
section
variable {F:Nat→Prop}{w w':World}
theorem step02_any(r b:Nat)(hr:r<4294967296)(w:World) : Calls Tryz.prog 165 #[.int .u32 (r:Int),.int .u32 (b:Int)] w λe w'=>e=.returned (.int .u32 (docStep r b:Int))∧w=w':=by
 have hxor:bits .xor .u32 ((r:Int) / 2) 3988292384=(((r / 2) ^^^ 3988292384:Nat):Int):=by
  have:=u32_xor_nat (r / 2) 3988292384 (by omega) (by decide);simpa using this
 by_cases h:r % 2=b
 ·have hd:docStep r b=r / 2:=by unfold docStep;rw[if_neg (λh2=>h2 h)]
  have hn:((r:Int) % 2 != (b:Int))=false:=by simp;omega
  rw[hd]
  go_enter Tryz.func165, Tryz.ntmps165
  go_wp2
  go_ret;exact⟨ret_int (by omega),rfl⟩
 ·have hd:docStep r b=(r / 2) ^^^ 3988292384:=by unfold docStep;rw[if_pos h]
  have hn:((r:Int) % 2 != (b:Int))=true:=by simp;omega
  rw[hd]
  go_enter Tryz.func165, Tryz.ntmps165
  go_wp2
  go_ret;exact⟨ret_int rfl,rfl⟩
theorem More02_any(s:Nat)(hs:s<4294967296)(bv:Value)(l:List UInt8)(w:World)(hb:Sl F w 1 encB bv l) :
  Calls Tryz.prog 111 #[.int .u32 (s:Int),bv] w λe w'=>e=.returned (.int .u32 ((4294967295 ^^^ crcMore (4294967295 ^^^ s) l:Nat):Int))∧Ext w w':=by
 have HB:=oh hb;obtain⟨a,cap,rfl,h1,h2,h3, -⟩:=hb;unfold maxLen at h2;have hs2:4294967295 ^^^ s<4294967296:=Nat.xor_lt_two_pow (n:=32) (by decide) hs;have hsc:(4294967295:Int)-(s:Int)=((4294967295 ^^^ s:Nat):Int):=by have:=comp32 s hs;omega
 have H0:=oh hsc;obtain⟨t,ht⟩:∃t,t=4294967295 ^^^ s:=⟨_,rfl⟩;rw[← ht] at hs2 hsc ⊢;clear ht H0
 go_enter Tryz.func111, Tryz.ntmps111
 go_wp2
 go_loopg [5,6] l.length (λm v5 v6 wr=>∃(k r:Nat),k+m=l.length∧v5=.int .u32 (r:Int)∧v6=.int .i64 (k:Int)∧r<4294967296∧Hid (crcMore r (l.drop k)=crcMore t l)∧Hid (Ext w wr))
 case atStart=>exact⟨0,t,by omega,by first|rfl|rw[hsc],rfl,hs2,oh rfl,oh (Mods.refl _ _)⟩
 case round =>
  obtain⟨k,r,hkm,rfl,rfl,hr,HQ,HM⟩:=hrel;by_cases hlt:k<l.length
  ·obtain⟨qb,qoff,hqa,hc⟩:=HB.out.elem hlt HM.out;have c0:=hc 0 (.int .u8 (l[k].toNat:Int)) rfl;simp only[Nat.add_zero,Nat.mul_one] at c0;subst hqa;have hdr:l.drop k=l[k] :: l.drop (k+1):=List.drop_eq_getElem_cons hlt;have hx8:=l[k].toNat_lt;obtain⟨x,hx⟩:∃x,x=l[k].toNat:=⟨_,rfl⟩;have hq:=HQ.out;rw[hdr,crcMore,← hx,← docByte_eq r x (by rw[hx];exact hx8)] at hq;rw[← hx] at c0 hx8;have HQ:=oh hq;clear hc hdr hx hq;have i1:(0:Int)≤(k:Int):=by omega
   have i2:(k:Int)<(l.length:Int):=by omega
   go_wp2
   go_loopg [5,7,8] 8 (λm v5 v7 v8 wq=>∃(j q y:Nat),wq=wr∧j+m=8∧v5=.int .u32 (q:Int)∧v7=.int .u32 (y:Int)∧v8=.int .i64 (j:Int)∧q<4294967296∧y<256∧Hid (docBits m q y=docBits 8 r x))
   case atStart=>exact⟨0,r,x,rfl,rfl,rfl,by first|rfl|(congr 1;omega),rfl,hr,hx8,oh rfl⟩
   case round =>
    obtain⟨j,q,y,rfl,hj,rfl,rfl,rfl,hq,hy,HY⟩:=hrel;by_cases hlj:j<8
    ·obtain⟨m,rfl⟩:∃m,gk=m+1:=⟨gk-1,by omega⟩;have hy2:(y:Int) % 2=((y % 2:Nat):Int):=by omega
     have hq2:=docStep_lt (bit:=y % 2) hq;have hst:=HY.out;rw[docBits] at hst;have HST:=oh hst;have HSP:=oh (λW=>step02_any q (y % 2) hq W);obtain⟨q2,hqe⟩:∃q2,q2=docStep q (y % 2):=⟨_,rfl⟩;rw[← hqe] at hq2 HST HSP;obtain⟨b2,hb2⟩:∃b2,b2=y % 2:=⟨_,rfl⟩;rw[← hb2] at hy2 HSP;clear hst hqe hb2;go_wp2_with fail;refine (HSP.out _).mono ?_;rintro e w1 ⟨rfl,rfl⟩;go_wp2
     go_roundg m
     case measure=>omega
     case rel=>exact⟨j+1,q2,y / 2,rfl,by omega,rfl,val_int (by omega),by go_num,hq2,by omega,HST⟩
    ·obtain rfl:gk=0:=by omega
     have hqe:=HY.out;rw[docBits] at hqe;have hql:q<4294967296:=hq;have HF:Hid (crcMore q (l.drop (k+1))=crcMore t l):=oh (by rw[hqe];exact HQ.out);clear hqe;go_wp2
     go_roundg (l.length-k-1)
     case measure=>omega
     case rel=>exact⟨k+1,q,by omega,rfl,by go_num,hql,HF,HM⟩
  ·have hq2:Hid (r=crcMore t l):=oh (by have:=HQ.out;rw[List.drop_eq_nil_of_le (by omega)] at this;exact this);have hx2:(4294967295:Int)-(r:Int)=((4294967295 ^^^ r:Nat):Int):=by have:=comp32 r hr;omega
   have HX2:=oh hx2;clear hx2;go_wp2
   go_ret;exact⟨ret_int (by rw[← hq2.out];first|exact HX2.out|rfl),HM.out⟩
theorem Sum02_any(bv:Value)(l:List UInt8)(w:World)(hb:Sl F w 1 encB bv l) :
  Calls Tryz.prog 59 #[bv] w λe w'=>e=.returned (.int .u32 (crcSum l:Int))∧Ext w w':=by
 have HC:=oh (More02_any 0 (by decide) bv l w hb);rw[show (4294967295 ^^^ 0:Nat)=4294967295 from rfl] at HC;obtain⟨a,c,rfl, -⟩:=hb;have HE:=oh (show crcSum l=4294967295 ^^^ crcMore 4294967295 l from rfl);obtain⟨cs,hcs⟩:∃cs,cs=4294967295 ^^^ crcMore 4294967295 l:=⟨_,rfl⟩;rw[← hcs] at HC HE;clear hcs
 go_enter Tryz.func59, Tryz.ntmps59
 go_wp2_with fail;refine HC.out.mono ?_;rintro e w1 ⟨rfl,hm⟩;have HM:=oh hm;clear hm;go_wp2
 go_ret;exact⟨by rw[HE.out];rfl,HM.out⟩
end
end
end Go.Proofs.YtdnbmdghmmpgcaaGreatDoor
