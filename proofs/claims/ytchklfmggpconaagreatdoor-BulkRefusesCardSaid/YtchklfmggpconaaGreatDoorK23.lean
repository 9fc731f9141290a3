import Derived.Test.YtchklfmggpconaaGreatDoorK22
namespace Go.Proofs.YtchklfmggpconaaGreatDoor
open Lib renaming hid→oh
set_option maxHeartbeats 2000000
set_option maxRecDepth 100000
section
open Go.RowKit
abbrev StC:=List (NodeA × Int)
def endsA(n:NodeA):Nat:=if n.leaf then n.entries.length else n.kids.length
def lastI(n:NodeA):Int:=max 0 ((endsA n:Int)-1)
def pushA(G:GA)(st:StC)(id:Int):StC ⊕ Err :=
 if 16≤st.length then .inr ([pgOf id],5) else match G.load id with
  | .inr e=>.inr e
  | .inl n=>.inl ((n,0) :: st)
def edgeTop(last:Bool)(st:StC):StC:=match st with
 | []=>[]
 | (n,a) :: r=>if last=true then (n,lastI n) :: r else (n,a) :: r
def downA(G:GA)(last:Bool):Nat→StC→StC ⊕ Err
 | 0,st=>.inl st
 | _+1,[]=>.inl []
 | f+1,(n,a) :: r=>if n.leaf=true then .inl ((n,a) :: r) else
  match pushA G ((n,a) :: r) (n.kids.getD a.toNat 0) with
  | .inr e=>.inr e
  | .inl st=>downA G last f (edgeTop last st)
def downF(G:GA)(last:Bool)(st:StC):StC ⊕ Err:=downA G last (18-st.length) st
def moveA(G:GA)(by_:Int):StC→StC ⊕ Err
 | []=>.inl []
 | (n,a) :: r=>if 0≤a+by_∧a+by_<(endsA n:Int) then downF G (decide (by_<0)) ((n,a+by_) :: r) else moveA G by_ r
def topNone(st:StC):Bool:=match st with
 | []=>false
 | (n,_) :: _=>n.entries.isEmpty
def edgeA(G:GA)(root:Int)(last:Bool):StC ⊕ Err :=
 if root=0 then .inl [] else match pushA G [] root with
  | .inr e=>.inr e
  | .inl st=>match downF G last (edgeTop last st) with
   | .inr e=>.inr e
   | .inl st1=>if topNone st1=true then .inl [] else .inl st1
def seekDown(G:GA)(key:ByteArray):Nat→StC→Int→StC ⊕ Err
 | 0,_,id=>.inr ([pgOf id],5)
 | f+1,st,id=>match pushA G st id with
  | .inr e=>.inr e
  | .inl []=>.inl []
  | .inl ((n,_) :: r)=>if n.leaf=true then .inl ((n,((findN n key).1:Int)) :: r) else seekDown G key f ((n,((findN n key).1:Int)) :: r) (n.kids.getD (findN n key).1 0)
def seekA(G:GA)(root:Int)(key:ByteArray):StC ⊕ Err :=
 if root=0 then .inl [] else match seekDown G key 17 [] root with
  | .inr e=>.inr e
  | .inl []=>.inl []
  | .inl ((n,a) :: r)=>if a<(n.entries.length:Int) then .inl ((n,a) :: r) else moveA G 1 ((n,a-1) :: r)
def FrOkA(x:NodeA × Int):Prop:=rightN x.1=true ∧ -2≤x.2∧x.2≤65537
def TopOk(x:NodeA × Int):Prop:=x.1.leaf=false→0≤x.2∧x.2<(x.1.kids.length:Int)
def StOk(st:StC):Prop:=(∀x∈st,FrOkA x)∧st.length≤16
section
variable {G:GA}{st st1:StC}{id:Int}{last:Bool}
theorem rightN_few{n:NodeA}(h:rightN n=true):n.entries.length≤65535∧n.kids.length≤256∧(n.leaf=false→2≤n.kids.length):=by
 unfold rightN at h;split at h
 ·rename_i hl;simp only[Bool.and_eq_true,decide_eq_true_eq,List.isEmpty_iff] at h;refine⟨h.2,by rw[h.1.1.2];simp,λhf=>by rw[hl] at hf;cases hf⟩
 ·simp only[Bool.and_eq_true,decide_eq_true_eq,List.isEmpty_iff] at h;obtain⟨⟨⟨⟨⟨⟨⟨h1,h2⟩,h3⟩,h4⟩,h5⟩,h6⟩,h7⟩,h8⟩:=h;exact⟨by rw[h1];simp,h4,λ_=>h2⟩
theorem lastI_ok{n:NodeA}(h:rightN n=true):FrOkA (n,lastI n)∧TopOk (n,lastI n):=by
 obtain⟨h1,h2,h3⟩:=rightN_few h;have he:(endsA n:Int)≤65535:=by unfold endsA;split <;> omega
 refine⟨⟨h,by show (-2:Int)≤max 0 ((endsA n:Int)-1);omega,by show max 0 ((endsA n:Int)-1)≤65537;omega⟩,λhl=>?_⟩;have:=h3 hl;show 0≤lastI n∧lastI n<(n.kids.length:Int);unfold lastI endsA;rw[if_neg (by rw[show n.leaf=false from hl];simp)];omega
theorem zero_ok{n:NodeA}(h:rightN n=true):FrOkA (n,0)∧TopOk (n,0):=by
 obtain⟨h1,h2,h3⟩:=rightN_few h;refine⟨⟨h,by show (-2:Int)≤0;omega,by show (0:Int)≤65537;omega⟩,λhl=>?_⟩;have:=h3 hl;show (0:Int)≤0∧(0:Int)<(n.kids.length:Int);omega
theorem pushA_ok(h:StOk st)(hp:pushA G st id=.inl st1):StOk st1∧∃n,st1=(n,0) :: st∧G.load id=.inl n:=by
 unfold pushA at hp;split at hp
 ·cases hp
 ·rename_i hl;split at hp
  ·cases hp
  ·rename_i n hn;injection hp with hp;subst hp;refine⟨⟨λx hx=>?_,by simp;omega⟩,n,rfl,hn⟩;rcases List.mem_cons.1 hx with rfl|hx
   ·exact (zero_ok (GA.load_right hn)).1
   ·exact h.1 x hx
theorem edgeTop_len(last:Bool)(st:StC):(edgeTop last st).length=st.length:=by
 unfold edgeTop;cases st with
 | nil=>rfl
 | cons x r=>obtain⟨n,a⟩:=x;simp only;split <;> rfl
theorem findN_le{n:NodeA}(hr:rightN n=true)(key:ByteArray):(findN n key).1≤65535∧(n.leaf=true→(findN n key).1≤n.entries.length)∧(n.leaf=false→(findN n key).1<n.kids.length):=by
 obtain⟨h1,h2,h3⟩:=rightN_few hr;cases hl:n.leaf with
 | true =>
  rw[findN_leaf hl];have:entAt key n.entries≤n.entries.length:=List.findIdx_le_length;exact⟨by show entAt key n.entries≤_;omega,λ_=>this,λh=>by cases h⟩
 | false =>
  have hk:=(rightN_inner hr hl).2.1;rw[findN_inner hl];have:kidAt key n.keys≤n.keys.length:=List.findIdx_le_length;exact⟨by show kidAt key n.keys≤_;omega,λh=>(by cases h),λ_=>(by show kidAt key n.keys<_;omega)⟩
theorem downF_step{n:NodeA}{a:Int}{r:StC}(hl:n.leaf=false)(hlen:r.length+1≤16):downF G last ((n,a) :: r)=match pushA G ((n,a) :: r) (n.kids.getD a.toNat 0) with | .inr e=>.inr e | .inl st=>downF G last (edgeTop last st):=by
 unfold downF;have e:18-((n,a) :: r).length=(16-r.length)+1:=by simp only[List.length_cons];omega
 rw[e,downA,if_neg (by rw[hl];simp)];cases hp:pushA G ((n,a) :: r) (n.kids.getD a.toNat 0) with
 | inr e=>rfl
 | inl st =>
  simp only;have hst:st.length=r.length+2:=by
   unfold pushA at hp;split at hp
   ·cases hp
   ·split at hp
    ·cases hp
    ·injection hp with hp;subst hp;simp
  rw[edgeTop_len,hst];congr 1
  omega
theorem downF_leaf{n:NodeA}{a:Int}{r:StC}(hl:n.leaf=true)(hlen:r.length+1≤16):downF G last ((n,a) :: r)=.inl ((n,a) :: r):=by
 unfold downF;have e:18-((n,a) :: r).length=(16-r.length)+1:=by simp only[List.length_cons];omega
 rw[e,downA,if_pos hl]
end
inductive TrE (V:Nat→Option NodeA):Nat→Nat→Prop
 | leaf {id n}:V id=some n→n.leaf=true→n.entries≠[]→TrE V id 1
 | inner {id n d}:V id=some n→n.leaf=false→(∀k∈n.kids,TrE V k.toNat d)→TrE V id (d+1)
inductive Ctx (G:GA) (L:List PairS) (D:Nat):StC→List PairS→List PairS→List PairS→Nat→ByteArray→Option ByteArray→Prop
 | nil:Ctx G L D [] [] L [] D e0 none
 | cons {n:NodeA} {j:Nat} {r pre suf d lo hi} {parts:List (List PairS)} {p:List PairS}:Ctx G L D r pre parts.flatten suf (d+1) lo hi→n.leaf=false→rightN n=true→parts.length=n.kids.length →
   (∀(i:Nat) (k:Int) (p:List PairS),n.kids[i]? = some k→parts[i]? = some p→Tr G.node G.R2 (loAt lo n.keys i) (hiAt hi n.keys i) k.toNat d p)→(∀k∈n.kids,TrE G.node k.toNat d)→(∀s∈n.keys,inB lo hi s)→parts[j]? = some p →
   Ctx G L D ((n,(j:Int)) :: r) (pre++(parts.take j).flatten) p ((parts.drop (j+1)).flatten++suf) d (loAt lo n.keys j) (hiAt hi n.keys j)
def AtPos(G:GA)(L:List PairS)(D:Nat)(st:StC)(i:Nat):Prop :=
 ∃(n:NodeA) (a:Nat) (r:StC) (pre p suf:List PairS) (lo:ByteArray) (hi:Option ByteArray),st=(n,(a:Int)) :: r∧Ctx G L D r pre p suf 1 lo hi∧LeafOf G.R2 n p∧a<p.length∧i=pre.length+a
def OnPos(G:GA)(L:List PairS)(D:Nat)(st:StC)(i:Int):Prop:=(0≤i∧i<(L.length:Int)∧AtPos G L D st i.toNat)∨((i<0∨(L.length:Int)≤i)∧st=[])
section
variable {G:GA}{L pre f suf p:List PairS}{D d id:Nat}{st r:StC}{lo:ByteArray}{hi:Option ByteArray}{n:NodeA}
theorem split_at{α:Type}{l:List α}{j:Nat}{x:α}(h:l[j]? = some x):l=l.take j++x :: l.drop (j+1):=by
 obtain⟨hj,rfl⟩:=List.getElem?_eq_some_iff.1 h;rw[List.getElem_cons_drop,List.take_append_drop]
theorem flat_at{parts:List (List PairS)}{j:Nat}(h:parts[j]? = some p):parts.flatten=(parts.take j).flatten++p++(parts.drop (j+1)).flatten:=by
 conv=>lhs;rw[split_at h]
 simp
theorem flat_take{parts:List (List PairS)}{j:Nat}(h:parts[j]? = some p):(parts.take (j+1)).flatten.length=(parts.take j).flatten.length+p.length:=by
 rw[List.take_add_one,h,List.flatten_append,List.length_append];simp only[Option.toList_some,List.flatten_cons,List.flatten_nil,List.append_nil]
theorem Ctx.whole(h:Ctx G L D r pre f suf d lo hi):L=pre++f++suf:=by
 induction h with
 | nil=>simp
 | cons _ _ _ _ _ _ _ h8 ih=>rw[ih,flat_at h8];simp
theorem Ctx.deep(h:Ctx G L D r pre f suf d lo hi):r.length+d=D:=by
 induction h with
 | nil=>simp
 | cons _ _ _ _ _ _ _ _ ih=>simp only[List.length_cons];omega
theorem TrE.ne{R:Int→Int→Option ByteArray}{V:Nat→Option NodeA}(h:Tr V R lo hi id d f):TrE V id d→f≠[]:=by
 induction h with
 | @leaf lo hi id n l h1 h2 h3 h4 h5 h6 =>
  intro he;cases he with
  | leaf k1 k2 k3 =>
   rw[h1] at k1;injection k1 with k1;subst k1;rintro rfl;exact k3 (List.length_eq_zero_iff.1 h4)
  | inner k1 k2 k3=>rw[h1] at k1;injection k1 with k1;subst k1;rw[h2] at k2;cases k2
 | @inner lo hi id n d parts h1 h2 h3 h4 h5 h6 ih =>
  intro he hf;cases he with
  | leaf k1 k2 k3=>rw[h1] at k1;injection k1 with k1;subst k1;rw[h2] at k2;cases k2
  | inner k1 k2 k3 =>
   rw[h1] at k1;injection k1 with k1;subst k1;have h7:=(rightN_few h3).2.2 h2;have hk:0<n.kids.length:=by omega
   have hp:0<parts.length:=by omega
   have:=ih 0 n.kids[0] parts[0] (List.getElem?_eq_getElem hk) (List.getElem?_eq_getElem hp) (k3 _ (List.getElem_mem hk));exact this (List.flatten_eq_nil_iff.1 hf _ (List.getElem_mem hp))
def goA(G:GA)(last:Bool)(r:StC)(id:Int):StC ⊕ Err:=match pushA G r id with
 | .inr e=>.inr e
 | .inl st=>downF G last (edgeTop last st)
theorem edge_top(last:Bool)(n:NodeA)(r:StC):edgeTop last ((n,0) :: r)=(n,if last=true then lastI n else 0) :: r:=by
 unfold edgeTop;cases last <;> rfl
theorem kid_at{n:NodeA}(hn:rightN n=true)(hl:n.leaf=false){j:Nat}(hj:j<n.kids.length):n.kids.getD j 0=((n.kids[j].toNat:Nat):Int):=by
 have:=((rightN_inner hn hl).2.2 _ (List.getElem_mem hj)).1;rw[List.getD_eq_getElem?_getD,List.getElem?_eq_getElem hj];simp only[Option.getD_some];omega
theorem go_tr(last:Bool)(h:Tr G.node G.R2 lo hi id d f):∀{r:StC} {pre suf:List PairS},TrE G.node id d→Ctx G L D r pre f suf d lo hi→D≤16 →
  ∃st',goA G last r (id:Int)=.inl st'∧AtPos G L D st' (if last=true then pre.length+f.length-1 else pre.length):=by
 induction h with
 | @leaf lo hi id n l h1 h2 h3 h4 h5 h6 =>
  intro r pre suf hE hC hD;have hdp:=hC.deep;have hne:=TrE.ne (.leaf h1 h2 h3 h4 h5 h6:Tr G.node G.R2 lo hi id 1 l) hE;have hpos:0<l.length:=List.length_pos_iff.2 hne;have hp:pushA G r (id:Int)=.inl ((n,0) :: r):=by
   unfold pushA;rw[if_neg (by omega),(GA.node_load h1).2]
  unfold goA;rw[hp];simp only;rw[edge_top,downF_leaf h2 (by omega)];cases last with
  | false=>exact⟨_,rfl,n,0,r,pre,l,suf,lo,hi,rfl,hC,⟨h2,h3,h4,h5⟩,hpos,by simp⟩
  | true =>
   refine⟨_,rfl,n,l.length-1,r,pre,l,suf,lo,hi,?_,hC,⟨h2,h3,h4,h5⟩,by omega,by simp;omega⟩;simp only[if_true];congr 2
   unfold lastI endsA;rw[if_pos h2,h4];omega
 | @inner lo hi id n d parts h1 h2 h3 h4 h5 h6 ih =>
  intro r pre suf hE hC hD;have hdp:=hC.deep;have hkids:=(rightN_few h3).2.2 h2;cases hE with
  | leaf k1 k2 k3=>rw[h1] at k1;injection k1 with k1;subst k1;rw[h2] at k2;cases k2
  | inner k1 k2 k3 =>
   rw[h1] at k1;injection k1 with k1;subst k1;have hp:pushA G r (id:Int)=.inl ((n,0) :: r):=by
    unfold pushA;rw[if_neg (by omega),(GA.node_load h1).2]
   unfold goA;rw[hp];simp only;obtain⟨j,hj,hjt,hjl⟩:∃j:Nat,(if last=true then lastI n else 0)=(j:Int)∧j<n.kids.length∧(j=if last=true then n.kids.length-1 else 0):=by
    cases last with
    | false=>exact⟨0,rfl,by omega,rfl⟩
    | true =>
     refine⟨n.kids.length-1,?_,by omega,rfl⟩;simp only[if_true];unfold lastI endsA;rw[if_neg (by rw[h2];simp)];omega
   rw[edge_top,hj,downF_step h2 (by omega),Int.toNat_natCast,kid_at h3 h2 hjt];have hjp:j<parts.length:=by omega
   have hpj:parts[j]? = some parts[j]:=List.getElem?_eq_getElem hjp;have hCj:=Ctx.cons hC h2 h3 h4 h5 k3 h6 hpj;obtain⟨st',e1,e2⟩:=ih j n.kids[j] parts[j] (List.getElem?_eq_getElem hjt) hpj (k3 _ (List.getElem_mem hjt)) hCj hD;refine⟨st',e1,?_⟩;have hfl:=congrArg List.length (flat_at hpj);simp only[List.length_append] at hfl e2 ⊢;cases last with
   | false =>
    simp only[if_false,Bool.false_eq_true] at hjl e2 ⊢;rw[hjl] at e2;simpa using e2
   | true =>
    simp only[if_true] at hjl e2 ⊢;have hd:parts.drop (j+1)=[]:=List.drop_eq_nil_of_le (by omega);rw[hd] at hfl;simp only[List.flatten_nil,List.length_nil,Nat.add_zero] at hfl;rw[hfl];rwa [Nat.add_assoc] at e2
theorem next_ctx(hD:D≤16)(h:Ctx G L D r pre f suf d lo hi):(suf=[]∧moveA G 1 r=.inl [])∨(suf≠[]∧∃st',moveA G 1 r=.inl st'∧AtPos G L D st' (pre.length+f.length)):=by
 induction h with
 | nil=>exact .inl ⟨rfl,rfl⟩
 | @cons n j r pre suf d lo hi parts p h1 h2 h3 h4 h5 h6 h7 h8 ih =>
  have hdp:=h1.deep;have hj:=(List.getElem?_eq_some_iff.1 h8).1;have hfl:=congrArg List.length (flat_at h8);simp only[List.length_append] at hfl;by_cases hn:j+1<n.kids.length
  ·have hjp:j+1<parts.length:=by omega
   have hpj:parts[j+1]? = some parts[j+1]:=List.getElem?_eq_getElem hjp;have hCj:=Ctx.cons h1 h2 h3 h4 h5 h6 h7 hpj;have hT:=h5 (j+1) n.kids[j+1] parts[j+1] (List.getElem?_eq_getElem hn) hpj;have hE:=h6 _ (List.getElem_mem hn);obtain⟨st',e1,e2⟩:=go_tr false hT hE hCj hD;refine .inr ⟨?_,st',?_,?_⟩
   ·intro hs;have:=TrE.ne hT hE;rw[List.drop_eq_getElem_cons hjp,List.flatten_cons] at hs;exact this (List.append_eq_nil_iff.1 (List.append_eq_nil_iff.1 hs).1).1
   ·unfold moveA;rw[if_pos (by unfold endsA;rw[if_neg (by rw[h2];simp)];omega),show decide ((1:Int)<0)=false from rfl,show ((j:Int)+1)=((j+1:Nat):Int) by omega,downF_step h2 (by omega),Int.toNat_natCast,kid_at h3 h2 hn];exact e1
   ·simp only[Bool.false_eq_true,if_false,List.length_append] at e2 ⊢;have hs:(parts.take (j+1)).flatten.length=(parts.take j).flatten.length+p.length:=flat_take h8;rw[hs] at e2;rwa [Nat.add_assoc]
  ·have hd:parts.drop (j+1)=[]:=List.drop_eq_nil_of_le (by omega);have hm:moveA G 1 ((n,(j:Int)) :: r)=moveA G 1 r:=by
    conv=>lhs;unfold moveA
    rw[if_neg (by unfold endsA;rw[if_neg (by rw[h2];simp)];omega)]
   rw[hm,hd];rw[hd] at hfl;simp only[List.flatten_nil,List.nil_append,List.length_append,List.length_nil,Nat.add_zero] at hfl ⊢;rcases ih with ⟨i1,i2⟩|⟨i1,st',i2,i3⟩
   ·exact .inl ⟨i1,i2⟩
   ·refine .inr ⟨i1,st',i2,?_⟩;rw[hfl] at i3;rwa [Nat.add_assoc]
theorem prev_ctx(hD:D≤16)(h:Ctx G L D r pre f suf d lo hi):(pre=[]∧moveA G (-1) r=.inl [])∨(pre≠[]∧∃st',moveA G (-1) r=.inl st'∧AtPos G L D st' (pre.length-1)):=by
 induction h with
 | nil=>exact .inl ⟨rfl,rfl⟩
 | @cons n j r pre suf d lo hi parts p h1 h2 h3 h4 h5 h6 h7 h8 ih =>
  have hdp:=h1.deep;have hj:=(List.getElem?_eq_some_iff.1 h8).1;by_cases hn:1≤j
  ·have hjp:j-1<parts.length:=by omega
   have hjk:j-1<n.kids.length:=by omega
   have hpj:parts[j-1]? = some parts[j-1]:=List.getElem?_eq_getElem hjp;have hCj:=Ctx.cons h1 h2 h3 h4 h5 h6 h7 hpj;have hT:=h5 (j-1) n.kids[j-1] parts[j-1] (List.getElem?_eq_getElem hjk) hpj;have hE:=h6 _ (List.getElem_mem hjk);have hne:=TrE.ne hT hE;obtain⟨st',e1,e2⟩:=go_tr true hT hE hCj hD;have hs:(parts.take j).flatten.length=(parts.take (j-1)).flatten.length+parts[j-1].length:=by
    obtain⟨q,rfl⟩:∃q,j=q+1:=⟨j-1,by omega⟩;exact flat_take hpj
   have hpos:0<parts[j-1].length:=List.length_pos_iff.2 hne;refine .inr ⟨?_,st',?_,?_⟩
   ·intro hs2;have:=congrArg List.length hs2;simp only[List.length_append,List.length_nil] at this;omega
   ·unfold moveA;rw[if_pos (by unfold endsA;rw[if_neg (by rw[h2];simp)];omega),show decide ((-1:Int)<0)=true from rfl,show ((j:Int) + -1)=((j-1:Nat):Int) by omega,downF_step h2 (by omega),Int.toNat_natCast,kid_at h3 h2 hjk];exact e1
   ·simp only[if_true,List.length_append] at e2 ⊢;rw[hs];have e3:pre.length+(parts.take (j-1)).flatten.length+parts[j-1].length-1=pre.length+((parts.take (j-1)).flatten.length+parts[j-1].length)-1:=by omega
    rwa [e3] at e2
  ·have hj0:j=0:=by omega
   subst hj0;have hm:moveA G (-1) ((n,((0:Nat):Int)) :: r)=moveA G (-1) r:=by
    conv=>lhs;unfold moveA
    rw[if_neg (by omega)]
   rw[hm];simp only[List.take_zero,List.flatten_nil,List.append_nil];exact ih
end
def TreeE(G:GA)(root d:Nat)(l:List PairS):Prop:=TreeG G root d l∧(root≠0→TrE G.node root d)
def seekP(key:ByteArray)(l:List PairS):Nat:=l.findIdx λx=>!ltS x.1 key
section
variable {G:GA}{L pre f suf p:List PairS}{D d id i root:Nat}{st r:StC}{lo:ByteArray}{hi:Option ByteArray}{n:NodeA}{key:ByteArray}
theorem AtPos.lt(h:AtPos G L D st i):i<L.length:=by
 obtain⟨n,a,r,pre,p,suf,lo,hi,rfl,hC,hl,ha,rfl⟩:=h;have:=congrArg List.length hC.whole;simp only[List.length_append] at this;omega
theorem AtPos.on(h:AtPos G L D st i):OnPos G L D st (i:Int):=.inl ⟨by omega,by have:=h.lt;omega,by rwa [Int.toNat_natCast]⟩
theorem AtPos.pair(h:AtPos G L D st i):∃(n:NodeA) (a:Nat) (r:StC) (e:EntryA) (x:PairS),st=(n,(a:Int)) :: r∧n.entries[a]? = some e∧L[i]? = some x∧e.key=x.1∧valueA G e=.inl x.2∧valueOk G e∧rightN n=true∧n.leaf=true:=by
 obtain⟨n,a,r,pre,p,suf,lo,hi,rfl,hC,hl,ha,rfl⟩:=h;have hea:a<n.entries.length:=by rw[hl.len];exact ha
 have h1:=hl.tells a n.entries[a] p[a] (List.getElem?_eq_getElem hea) (List.getElem?_eq_getElem ha);refine⟨n,a,r,n.entries[a],p[a],rfl,List.getElem?_eq_getElem hea,?_,h1.1,(value_tells h1.2).1,(value_tells h1.2).2,hl.right,hl.leaf⟩;rw[hC.whole,List.append_assoc,List.getElem?_append_right (by omega),Nat.add_sub_cancel_left,List.getElem?_append_left ha,List.getElem?_eq_getElem ha]
theorem Ctx.small(h:Ctx G L D r pre f suf d lo hi):∀y∈r,0≤y.2∧y.2≤65535:=by
 induction h with
 | nil=>intro y hy;simp at hy
 | @cons n j r pre suf d lo hi parts p h1 h2 h3 h4 h5 h6 h7 h8 ih =>
  intro y hy;rcases List.mem_cons.1 hy with rfl|hy
  ·have hj:=(List.getElem?_eq_some_iff.1 h8).1;have:=(rightN_few h3).2.1;show 0≤(j:Int)∧(j:Int)≤65535;omega
  ·exact ih y hy
theorem OnPos.small{i:Int}(h:OnPos G L D st i):∀y∈st,0≤y.2∧y.2≤65535:=by
 rcases h with ⟨_,_,n,a,r,pre,p,suf,lo,hi,rfl,hC,hl,ha,_⟩|⟨_,rfl⟩
 ·intro y hy;rcases List.mem_cons.1 hy with rfl|hy
  ·have:=(rightN_few hl.right).1;have:=hl.len;show 0≤(a:Int)∧(a:Int)≤65535;omega
  ·exact hC.small y hy
 ·intro y hy;simp at hy
theorem next_pos(hD:D≤16)(h:AtPos G L D st i):∃st',moveA G 1 st=.inl st'∧OnPos G L D st' ((i:Int)+1):=by
 obtain⟨n,a,r,pre,p,suf,lo,hi,rfl,hC,hl,ha,rfl⟩:=h;have hw:=congrArg List.length hC.whole;have hdp:=hC.deep;simp only[List.length_append] at hw;by_cases hn:a+1<p.length
 ·refine⟨(n,((a+1:Nat):Int)) :: r,?_,?_⟩
  ·unfold moveA;rw[if_pos (by unfold endsA;rw[if_pos hl.leaf,hl.len];omega),show ((a:Int)+1)=((a+1:Nat):Int) by omega,downF_leaf hl.leaf (by omega)]
  ·have:AtPos G L D ((n,((a+1:Nat):Int)) :: r) (pre.length+a+1):=⟨n,a+1,r,pre,p,suf,lo,hi,rfl,hC,hl,hn,by omega⟩;exact this.on
 ·have hm:moveA G 1 ((n,(a:Int)) :: r)=moveA G 1 r:=by
   conv=>lhs;unfold moveA
   rw[if_neg (by unfold endsA;rw[if_pos hl.leaf,hl.len];omega)]
  rw[hm];rcases next_ctx hD hC with ⟨k1,k2⟩|⟨k1,st',k2,k3⟩
  ·refine⟨[],k2,.inr ⟨.inr ?_,rfl⟩⟩;subst k1;simp only[List.length_nil] at hw;omega
  ·refine⟨st',k2,?_⟩;have:=k3.on;rwa [show ((pre.length+p.length:Nat):Int)=((pre.length+a:Nat):Int)+1 by omega] at this
theorem prev_pos(hD:D≤16)(h:AtPos G L D st i):∃st',moveA G (-1) st=.inl st'∧OnPos G L D st' ((i:Int)-1):=by
 obtain⟨n,a,r,pre,p,suf,lo,hi,rfl,hC,hl,ha,rfl⟩:=h;have hdp:=hC.deep;by_cases hn:1≤a
 ·refine⟨(n,((a-1:Nat):Int)) :: r,?_,?_⟩
  ·unfold moveA;rw[if_pos (by unfold endsA;rw[if_pos hl.leaf,hl.len];omega),show ((a:Int) + -1)=((a-1:Nat):Int) by omega,downF_leaf hl.leaf (by omega)]
  ·have:AtPos G L D ((n,((a-1:Nat):Int)) :: r) (pre.length+a-1):=⟨n,a-1,r,pre,p,suf,lo,hi,rfl,hC,hl,by omega,by omega⟩;have:=this.on;rwa [show ((pre.length+a-1:Nat):Int)=((pre.length+a:Nat):Int)-1 by omega] at this
 ·have ha0:a=0:=by omega
  subst ha0;have hm:moveA G (-1) ((n,((0:Nat):Int)) :: r)=moveA G (-1) r:=by
   conv=>lhs;unfold moveA
   rw[if_neg (by omega)]
  rw[hm];rcases prev_ctx hD hC with ⟨k1,k2⟩|⟨k1,st',k2,k3⟩
  ·refine⟨[],k2,.inr ⟨.inl ?_,rfl⟩⟩;subst k1;simp only[List.length_nil];omega
  ·refine⟨st',k2,?_⟩;have hp:0<pre.length:=List.length_pos_iff.2 k1;have:=k3.on;rwa [show ((pre.length-1:Nat):Int)=((pre.length+0:Nat):Int)-1 by omega] at this
theorem edge_pos(last:Bool)(h:TreeE G root d L):∃st',edgeA G (root:Int) last=.inl st'∧OnPos G L d st' (if last=true then (L.length:Int)-1 else 0):=by
 obtain⟨h1,h2⟩:=h;rcases h1 with ⟨rfl,rfl,rfl⟩|⟨h1,_,h3,h4⟩
 ·refine⟨[],by unfold edgeA;exact if_pos rfl,.inr ⟨?_,rfl⟩⟩;cases last
  ·exact .inr (by simp)
  ·exact .inl (by simp)
 ·have hE:=h2 (by omega);have hv:L≠[]:=TrE.ne h4 hE;have hpos:0<L.length:=List.length_pos_iff.2 hv;obtain⟨st',e1,e2⟩:=go_tr (L:=L) (D:=d) last h4 hE .nil h3;have he:edgeA G (root:Int) last=.inl st':=by
   unfold edgeA;rw[if_neg (by omega)];unfold goA at e1;cases hp:pushA G [] (root:Int) with
   | inr e=>rw[hp] at e1;cases e1
   | inl st =>
    rw[hp] at e1;simp only at e1 ⊢;rw[e1];simp only;obtain⟨n,a,r,pre,p,suf,lo,hi,rfl,hC,hl,ha,_⟩:=e2;rw[if_neg];unfold topNone;simp only;rw[List.isEmpty_iff];intro hne;have:=hl.len;rw[hne] at this;simp at this;omega
  refine⟨st',he,?_⟩;have:=e2.on;cases last with
  | false=>simpa using this
  | true =>
   simp only[if_true,List.length_nil,Nat.zero_add] at this ⊢;rwa [show ((L.length-1:Nat):Int)=(L.length:Int)-1 by omega] at this
theorem Ctx.ahead(h:Ctx G L D r pre f suf d lo hi):(∀x∈pre,ltS x.1 lo=true)∧(∀x∈suf,∃h,hi=some h∧ltS x.1 h=false):=by
 induction h with
 | nil=>exact⟨λx hx=>by simp at hx,λx hx=>by simp at hx⟩
 | @cons n j r pre suf d lo hi parts p h1 h2 h3 h4 h5 h6 h7 h8 ih =>
  obtain⟨i1,i2⟩:=ih;obtain⟨q1,q2, -⟩:=rightN_inner h3 h2;have hj:=(List.getElem?_eq_some_iff.1 h8).1;refine⟨λx hx=>?_,λx hx=>?_⟩
  ·unfold loAt;by_cases hj0:j=0
   ·subst hj0;rw[if_pos rfl];simp only[List.take_zero,List.flatten_nil,List.append_nil] at hx;exact i1 x hx
   ·have hjk:j-1<n.keys.length:=by omega
    rw[if_neg hj0];have e:n.keys.getD (j-1) lo=n.keys[j-1]:=by simp[List.getD,hjk]
    rw[e];rcases List.mem_append.1 hx with hx|hx
    ·exact lt_of_lt_not (i1 x hx) (h7 _ (List.getElem_mem hjk)).1
    ·obtain⟨q,hq,hx⟩:=List.mem_flatten.1 hx;obtain⟨i,hi',e2⟩:=List.getElem_of_mem hq;rw[List.length_take] at hi';have hip:i<parts.length:=by omega
     have hik:i<n.kids.length:=by omega
     have hie:i<n.keys.length:=by omega
     rw[List.getElem_take] at e2;have hT:=h5 i n.kids[i] parts[i] (List.getElem?_eq_getElem hik) (List.getElem?_eq_getElem hip);have hb:=(hT.keys x (by rw[e2];exact hx)).2 n.keys[i] (by unfold hiAt;rw[List.getElem?_eq_getElem hie]);by_cases hij:i=j-1
     ·subst hij;exact hb
     ·exact ltS_trans hb (pw_at q1 (by omega) (List.getElem?_eq_getElem hie) (List.getElem?_eq_getElem hjk))
  ·unfold hiAt;rcases List.mem_append.1 hx with hx|hx
   ·obtain⟨q,hq,hx⟩:=List.mem_flatten.1 hx;obtain⟨i,hi',e2⟩:=List.getElem_of_mem hq;rw[List.length_drop] at hi';rw[List.getElem_drop] at e2;have hip:j+1+i<parts.length:=by omega
    have hik:j+1+i<n.kids.length:=by omega
    have hjk:j<n.keys.length:=by omega
    have hie:j+i<n.keys.length:=by omega
    have hT:=h5 (j+1+i) n.kids[j+1+i] parts[j+1+i] (List.getElem?_eq_getElem hik) (List.getElem?_eq_getElem hip);have hb:=(hT.keys x (by rw[e2];exact hx)).1;unfold loAt at hb;rw[if_neg (by omega)] at hb;have e:n.keys.getD (j+1+i-1) lo=n.keys[j+i]:=by
     rw[show j+1+i-1=j+i by omega];simp[List.getD,hie]
    rw[e] at hb;refine⟨n.keys[j],by rw[List.getElem?_eq_getElem hjk],?_⟩;by_cases hi0:i=0
    ·subst hi0;exact hb
    ·have:=pw_at q1 (show j<j+i by omega) (List.getElem?_eq_getElem hjk) (List.getElem?_eq_getElem hie);cases hc:ltS x.1 n.keys[j] with
     | false=>rfl
     | true=>have:=ltS_trans hc this;rw[hb] at this;cases this
   ·obtain⟨h,rfl,hh⟩:=i2 x hx;cases hk:n.keys[j]? with
    | none=>exact⟨h,rfl,hh⟩
    | some s =>
     obtain⟨hjk,rfl⟩:=List.getElem?_eq_some_iff.1 hk;refine⟨n.keys[j],rfl,?_⟩;have:=(h7 _ (List.getElem_mem hjk)).2 h rfl;cases hc:ltS x.1 n.keys[j] with
     | false=>rfl
     | true=>have:=ltS_trans hc this;rw[hh] at this;cases this
theorem seekDown_tr(h:Tr G.node G.R2 lo hi id d f)(key:ByteArray):∀{fuel:Nat} {r:StC} {pre suf:List PairS},TrE G.node id d→Ctx G L D r pre f suf d lo hi→D≤16→d≤fuel→inB lo hi key →
  ∃(n:NodeA) (r':StC) (pre' p suf':List PairS) (lo':ByteArray) (hi':Option ByteArray),seekDown G key fuel r (id:Int)=.inl ((n,(entAt key n.entries:Int)) :: r')∧Ctx G L D r' pre' p suf' 1 lo' hi'∧LeafOf G.R2 n p∧inB lo' hi' key:=by
 induction h with
 | @leaf lo hi id n l h1 h2 h3 h4 h5 h6 =>
  intro fuel r pre suf hE hC hD hf hk;have hdp:=hC.deep;obtain⟨fuel,rfl⟩:∃q,fuel=q+1:=⟨fuel-1,by omega⟩;have hp:pushA G r (id:Int)=.inl ((n,0) :: r):=by
   unfold pushA;rw[if_neg (by omega),(GA.node_load h1).2]
  refine⟨n,r,pre,l,suf,lo,hi,?_,hC,⟨h2,h3,h4,h5⟩,hk⟩;rw[seekDown,hp];simp only;rw[if_pos h2,findN_leaf h2]
 | @inner lo hi id n d parts h1 h2 h3 h4 h5 h6 ih =>
  intro fuel r pre suf hE hC hD hf hk;have hdp:=hC.deep;obtain⟨fuel,rfl⟩:∃q,fuel=q+1:=⟨fuel-1,by omega⟩;cases hE with
  | leaf k1 k2 k3=>rw[h1] at k1;injection k1 with k1;subst k1;rw[h2] at k2;cases k2
  | inner k1 k2 k3 =>
   rw[h1] at k1;injection k1 with k1;subst k1;obtain⟨r1,r2,_⟩:=rightN_inner h3 h2;obtain⟨k,p,q1,q2,q3,q4⟩:=inner_find r1 r2 h4 h5 hk;have hp:pushA G r (id:Int)=.inl ((n,0) :: r):=by
    unfold pushA;rw[if_neg (by omega),(GA.node_load h1).2]
   have hCj:=Ctx.cons hC h2 h3 h4 h5 k3 h6 q2;obtain⟨hjt,rfl⟩:=List.getElem?_eq_some_iff.1 q1;obtain⟨n',r',pre',p',suf',lo',hi',e1,e2⟩:=ih _ _ p q1 q2 (k3 _ (List.getElem_mem hjt)) hCj hD (by omega:d≤fuel) q3;refine⟨n',r',pre',p',suf',lo',hi',?_,e2⟩;rw[seekDown,hp];simp only;rw[if_neg (by rw[h2];simp),findN_inner h2];simp only;rw[kid_at h3 h2 hjt];exact e1
theorem findIdx_cut{α:Type}{q:α→Bool}{A B:List α}(hA:∀x∈A,q x=false)(hB:∀x,B[0]? = some x→q x=true):(A++B).findIdx q=A.length:=by
 induction A with
 | nil =>
  cases B with
  | nil=>rfl
  | cons b B=>simp only[List.nil_append,List.findIdx_cons,hB b rfl,cond_true,List.length_nil]
 | cons a A ih =>
  rw[List.cons_append,List.findIdx_cons,hA a List.mem_cons_self];simp only[cond_false,List.length_cons];rw[ih (λx hx=>hA x (List.mem_cons_of_mem _ hx))]
theorem seek_pos(key:ByteArray)(h:TreeE G root d L):∃st',seekA G (root:Int) key=.inl st'∧OnPos G L d st' (seekP key L:Int):=by
 obtain⟨h1,h2⟩:=h;rcases h1 with ⟨rfl,rfl,rfl⟩|⟨h1,_,h3,h4⟩
 ·exact⟨[],by unfold seekA;exact if_pos rfl,.inr ⟨.inr (by simp[seekP]),rfl⟩⟩
 ·have hE:=h2 (by omega);obtain⟨n,r,pre,p,suf,lo,hi,e1,hC,hl,hk⟩:=seekDown_tr (L:=L) (D:=d) (fuel:=17) h4 key hE .nil h3 (by omega) (inB_all key);have hw:=hC.whole;have hdp:=hC.deep;obtain⟨b1,b2⟩:=hC.ahead;obtain⟨a,ha⟩:∃a,a=entAt key n.entries:=⟨_,rfl⟩;rw[← ha] at e1;have hal:a≤n.entries.length:=by rw[ha];exact List.findIdx_le_length
  have hpl:=hl.len;have hpre:∀x∈pre,(!ltS x.1 key)=false:=λx hx=>by
   rw[lt_of_lt_not (b1 x hx) hk.1];rfl
  have hsuf:∀x∈suf,(!ltS x.1 key)=true:=λx hx=>by
   obtain⟨h,e,hh⟩:=b2 x hx;have:=hk.2 h e;cases hc:ltS x.1 key with
   | false=>rfl
   | true=>have:=ltS_trans hc this;rw[hh] at this;cases this
  have hlow:∀x∈p.take a,(!ltS x.1 key)=false:=λx hx=>by
   obtain⟨i,hi',e⟩:=List.getElem_of_mem hx;rw[List.length_take] at hi';rw[List.getElem_take] at e;have hie:i<n.entries.length:=by omega
   have hip:i<p.length:=by omega
   have k1:=(hl.tells i n.entries[i] p[i] (List.getElem?_eq_getElem hie) (List.getElem?_eq_getElem hip)).1;have k2:=findIdx_lt (f:=λe:EntryA=>!ltS e.key key) (i:=i) (by show i<entAt key n.entries;omega) (List.getElem?_eq_getElem hie);rw[k1,e] at k2;exact k2
  have hseek:seekP key L=pre.length+a:=by
   unfold seekP;have hL:L=(pre++p.take a)++(p.drop a++suf):=by
    rw[hw,List.append_assoc,List.append_assoc,← List.append_assoc (p.take a),List.take_append_drop]
   have hAl:(pre++p.take a).length=pre.length+a:=by rw[List.length_append,List.length_take];omega
   rw[hL,← hAl];refine findIdx_cut (λx hx=>?_) (λx hx=>?_)
   ·rcases List.mem_append.1 hx with hx|hx
    ·exact hpre x hx
    ·exact hlow x hx
   ·by_cases hap:a<p.length
    ·have hie:a<n.entries.length:=by omega
     rw[List.getElem?_append_left (by rw[List.length_drop];omega),List.getElem?_drop,Nat.add_zero,List.getElem?_eq_getElem hap] at hx;injection hx with hx;have k1:=(hl.tells a n.entries[a] p[a] (List.getElem?_eq_getElem hie) (List.getElem?_eq_getElem hap)).1;have k2:(!ltS n.entries[a].key key)=true:=findIdx_at (f:=λe:EntryA=>!ltS e.key key) (l:=n.entries) (by
      have:n.entries.findIdx (λe:EntryA=>!ltS e.key key)=a:=ha.symm;rw[this];exact List.getElem?_eq_getElem hie)
     rw[k1,hx] at k2;exact k2
    ·rw[List.drop_eq_nil_of_le (by omega),List.nil_append] at hx;exact hsuf x (List.mem_of_getElem? hx)
  rw[hseek];unfold seekA;rw[if_neg (by omega),e1];simp only;by_cases hap:a<p.length
  ·rw[if_pos (by omega)];have:AtPos G L d ((n,(a:Int)) :: r) (pre.length+a):=⟨n,a,r,pre,p,suf,lo,hi,rfl,hC,hl,hap,rfl⟩;exact⟨_,rfl,this.on⟩
  ·rw[if_neg (by omega)];have hm:moveA G 1 ((n,(a:Int)-1) :: r)=moveA G 1 r:=by
    conv=>lhs;unfold moveA
    rw[if_neg (by unfold endsA;rw[if_pos hl.leaf];omega)]
   rw[hm];have hwl:=congrArg List.length hw;simp only[List.length_append] at hwl;rcases next_ctx h3 hC with ⟨k1,k2⟩|⟨k1,st',k2,k3⟩
   ·refine⟨[],k2,.inr ⟨.inr ?_,rfl⟩⟩;subst k1;simp only[List.length_nil] at hwl;omega
   ·refine⟨st',k2,?_⟩;have:=k3.on;rwa [show pre.length+p.length=pre.length+a by omega] at this
end
theorem key07_t(s:ByteArray)(w:World)(b:Bool)(h:keyB s=b) : Calls Tryz.prog 57 #[.string s] w λe w'=>e=.returned (.bool b)∧w=w':=by
 have:=key07_any s w;rw[h] at this;exact this
variable {G:GA}{gen:Nat}
end
section
open Go.RowKit
attribute [local go_sem ↓] Go.wp_at_zero Go.wp_at_succ
theorem encCh_ok:EncOk encCh 5:=⟨λ_=>rfl,by intro x u hu;simp[encCh] at hu;rcases hu with rfl|rfl|rfl|rfl|rfl <;> rfl⟩
theorem take_snoc{α β:Type}(f:α→β){l:List α}{k:Nat}(h:k<l.length):(l.take (k+1)).map f=(l.take k).map f++[f l[k]]:=by
 rw[take_one _ _ _ (List.getElem?_eq_getElem h),List.map_append];rfl
theorem Tryz.mkCh:(Tryz.prog.info? 67).map (λi=>(i.zero,i.size,i.bytes))=some (some (.agg #[.string ⟨#[]⟩,.bool false,.bool false,.string ⟨#[]⟩,.string ⟨#[]⟩]),5,56):=by kernel_rfl
theorem Tryz.elCh:ElT Tryz.prog 42 67 (.agg #[.string ⟨#[]⟩,.bool false,.bool false,.string ⟨#[]⟩,.string ⟨#[]⟩]) 5 56:=⟨Tryz.underlying42,Tryz.mkCh,rfl,by decide,by decide⟩
theorem turn15_any{F:Nat→Prop}{w:World}(q:List ChV)(qv:Value)(hq:Sl F w 5 encCh qv q)(hlen:q.length≤100000) :
  Calls Tryz.prog 16 #[qv] w λe w'=>∃kv,e=.returned kv∧Own (λ_=>False) w' w.heap.size 67 5 encCh kv (q.map turnC)∧Ext w w':=by
 have HQ:=oh hq;obtain⟨qa,qc,rfl,b1,b2,b3, -⟩:=hq;unfold maxLen at b2
 go_enter Tryz.func16, Tryz.ntmps16
 go_wp2_with fail;go_loopg [3,8] q.length (λm v3 v8 wr=>∃(k:Nat) (kv:Value),k+m=q.length∧kv=v3∧v8=.int .i64 (k:Int)∧Hid (Own (λ_=>False) wr w.heap.size 67 5 encCh kv ((q.take k).map turnC)∧Ext w wr))
 case atStart=>exact⟨0,_,by omega,rfl,rfl,oh ⟨Own.nil _ _ _ _ _ _,Mods.refl _ _⟩⟩
 case round =>
  obtain⟨k,v3,hk,rfl,rfl,HR⟩:=hrel;by_cases hlt:k<q.length
  ·obtain⟨x,hx⟩:∃x,x=q[k]:=⟨_,rfl⟩;obtain⟨pa,pc,hv, -, -⟩:=_root_.id HR.out.1.form;have hl:((q.take k).map turnC).length=k:=by rw[List.length_map,List.length_take];omega
   rw[hl] at hv;obtain⟨qb,qoff,hqa,hc⟩:=HQ.out.elem hlt HR.out.2;have d0:=hc 0 (.string x.key) (by rw[hx];rfl);have d1:=hc 1 (.bool x.was) (by rw[hx];rfl);have d2:=hc 2 (.bool x.is) (by rw[hx];rfl);have d3:=hc 3 (.string x.old) (by rw[hx];rfl);have d4:=hc 4 (.string x.new) (by rw[hx];rfl);simp only[Nat.add_zero] at d0;have HX:Hid ((q.take (k+1)).map turnC=(q.take k).map turnC++[turnC x]):=oh (by rw[take_snoc _ hlt,hx]);have HLN:=oh hl;obtain⟨w2,hw2⟩:∃w2,w2=wr.alloc (.cells #[.string x.key,.bool x.was,.bool x.is,.string x.old,.string x.new] 67):=⟨_,rfl⟩;have hm2:Ext wr (w2.alloc (.cells #[.string x.key,.bool x.is,.bool x.was,.string x.new,.string x.old] 67)):=by rw[hw2];exact ((Mods.refl _ wr).alloc _).alloc _
   have HW2:=oh hw2;have hz2:w2.heap.size=wr.heap.size+1:=by rw[hw2];simp
   have HSO:Hid (Sl (λ_=>False) (w2.alloc (.cells #[.string x.key,.bool x.is,.bool x.was,.string x.new,.string x.old] 67)) 5 encCh (.slice (some ⟨wr.heap.size+1,0,none⟩) 1 1) [turnC x]):=oh (by rw[← hz2];exact Sl.one (F:=λ_=>False) (x:=turnC x) (t := 67) (fz:=(0,0)) (heap_at rfl) (λf=>f));have HOW:=oh (HR.out.1.ext hm2);have HM2:=oh hm2;have HSZ:=oh HR.out.2.size;subst hv;have i1:(0:Int)≤(k:Int):=by omega
   have i2:(k:Int)<(q.length:Int):=by omega
   subst hqa;clear hc hx hl hm2 hw2 hz2;go_wp2_with (first
    | (at_builtin;rw[← HW2.out];refine wpl_app2 Tryz.elCh encCh_ok rfl _ _ rfl w.heap.size (.slice pa k pc) (.slice (some ⟨wr.heap.size+1,0,none⟩) 1 1) ((q.take k).map turnC) [turnC x] rfl rfl HOW.out HSO.out (by rw[HLN.out];simp only[List.length_cons,List.length_nil];omega) (Nat.le_trans HSZ.out HM2.out.size) (λf=>f) ?_;intro a' c' w4 hown4 hmod4 hat4;rw[HLN.out] at hown4 ⊢;simp only[List.length_cons,List.length_nil,Nat.zero_add] at hown4 ⊢;have HO4:=oh hown4;have HM4:=oh hmod4;have HA4:=oh HR.out.1.lt;clear hown4 hmod4 hat4)
    | fail)
   go_roundg (gk-1)
   case measure=>omega
   case rel =>
    refine⟨k+1,_,by omega,rfl,by go_num,oh ⟨by rw[HX.out];exact HO4.out,(HR.out.2.trans HM2.out).trans' HM4.out (λi hi hg=>?_)⟩⟩;have:=(HA4.out i hg).1;omega
  ·have hkq:k=q.length:=by omega
   have HF:Hid (Own (λ_=>False) wr w.heap.size 67 5 encCh v3 (q.map turnC)):=oh (by have:=HR.out.1;rw[hkq,List.take_length] at this;exact this);have HM:=oh HR.out.2;clear hkq;go_wp2_with fail;go_ret;exact⟨_,rfl,HF.out,HM.out⟩
theorem Tryz.mkDh:(Tryz.prog.info? 95).map (λi=>(i.zero,i.size,i.bytes))=some (some (.agg #[.string ⟨#[]⟩,.bool false,.bool false,.string ⟨#[]⟩,.string ⟨#[]⟩]),5,56):=by kernel_rfl
theorem Tryz.elDh:ElT Tryz.prog 46 95 (.agg #[.string ⟨#[]⟩,.bool false,.bool false,.string ⟨#[]⟩,.string ⟨#[]⟩]) 5 56:=⟨Tryz.underlying46,Tryz.mkDh,rfl,by decide,by decide⟩
theorem changes15_any{F:Nat→Prop}{w:World}(q:List ChV)(qv:Value)(hq:Sl F w 5 encCh qv q)(hlen:q.length≤100000) :
  Calls Tryz.prog 44 #[qv] w λe w'=>∃kv,e=.returned kv∧Own (λ_=>False) w' w.heap.size 95 5 encCh kv q∧Ext w w':=by
 have HQ:=oh hq;obtain⟨qa,qc,rfl,b1,b2,b3, -⟩:=hq;unfold maxLen at b2;have HO0:Hid (Own (λ_=>False) (w.alloc (.cells #[] 95)) w.heap.size 95 5 encCh (.slice (some ⟨w.heap.size,0,none⟩) 0 0) ([]:List ChV)):=oh (Own.empty (λk f=>f.elim) _ _ _ encCh_ok.len);have HM0:Hid (Ext w (w.alloc (.cells #[] 95))):=oh ((Mods.refl _ w).alloc _)
 go_enter Tryz.func44, Tryz.ntmps44
 go_wp2_with fail;go_loopg [3,4] q.length (λm v3 v4 wr=>∃(k:Nat) (kv:Value),k+m=q.length∧kv=v3∧v4=.int .i64 (k:Int)∧Hid (Own (λ_=>False) wr w.heap.size 95 5 encCh kv (q.take k)∧Ext w wr))
 case atStart=>exact⟨0,_,by omega,rfl,rfl,oh ⟨HO0.out,HM0.out⟩⟩
 case round =>
  obtain⟨k,v3,hk,rfl,rfl,HR⟩:=hrel;by_cases hlt:k<q.length
  ·obtain⟨x,hx⟩:∃x,x=q[k]:=⟨_,rfl⟩;obtain⟨pa,pc,hv, -, -⟩:=_root_.id HR.out.1.form;have hl:(q.take k).length=k:=by rw[List.length_take];omega
   rw[hl] at hv;obtain⟨qb,qoff,hqa,hc⟩:=HQ.out.elem hlt HR.out.2.drew;have d0:=hc 0 (.string x.key) (by rw[hx];rfl);have d1:=hc 1 (.bool x.was) (by rw[hx];rfl);have d2:=hc 2 (.bool x.is) (by rw[hx];rfl);have d3:=hc 3 (.string x.old) (by rw[hx];rfl);have d4:=hc 4 (.string x.new) (by rw[hx];rfl);simp only[Nat.add_zero] at d0;have HX:Hid (q.take (k+1)=q.take k++[x]):=oh (by rw[take_one _ _ _ (List.getElem?_eq_getElem hlt),hx]);have HLN:=oh hl;have hm2:Ext wr (wr.alloc (.cells #[.string x.key,.bool x.was,.bool x.is,.string x.old,.string x.new] 95)).drew:=((Mods.refl _ wr).alloc _).drew;have HOW:=oh (HR.out.1.ext hm2);have HM2:=oh hm2;have HSZ:=oh HR.out.2.size;subst hv;have i1:(0:Int)≤(k:Int):=by omega
   have i2:(k:Int)<(q.length:Int):=by omega
   subst hqa;have HCL:Hid (∀W,Ext w W→W.cell? ⟨qb,qoff+k * 5,none⟩=some (.string x.key)∧W.cell? ⟨qb,qoff+k * 5+1,none⟩=some (.bool x.was)∧W.cell? ⟨qb,qoff+k * 5+2,none⟩=some (.bool x.is)∧W.cell? ⟨qb,qoff+k * 5+3,none⟩=some (.string x.old)∧W.cell? ⟨qb,qoff+k * 5+4,none⟩=some (.string x.new)):=oh (λW m=>by
    obtain⟨b',o',e,h5⟩:=HQ.out.elem hlt m;rw[← hx] at h5;injection e with e;injection e with e1 e2 _;subst e1 e2;exact⟨h5 0 _ rfl,h5 1 _ rfl,h5 2 _ rfl,h5 3 _ rfl,h5 4 _ rfl⟩)
   have z:=HCL.out _ (HR.out.2.trans hm2);clear hc hx hl hm2;go_wp2_with fail;go_region_held3 (λw'=>w'.cell? ⟨qb,qoff+k * 5,none⟩=some (.string x.key)∧w'.cell? ⟨qb,qoff+k * 5+1,none⟩=some (.bool x.was)∧w'.cell? ⟨qb,qoff+k * 5+2,none⟩=some (.bool x.is)∧w'.cell? ⟨qb,qoff+k * 5+3,none⟩=some (.string x.old)∧w'.cell? ⟨qb,qoff+k * 5+4,none⟩=some (.string x.new))
    (first|(with_reducible exact⟨d0,d1,d2,d3,d4⟩)|(with_reducible exact z)|(with_reducible exact z4)|go_keep)
    (first
     | (refine step_app2 Tryz.elDh encCh_ok (by rfl) _ _ (by rfl) w.heap.size (.slice pa k pc) (.slice (some ⟨wr.heap.size,0,none⟩) 1 1) (q.take k) [x] (by rfl) (by rfl) HOW.out (Sl.one (F:=λ_=>False) (x:=x) (t := 95) (fz:=(0,0)) (heap_at rfl) (λf=>f)) (by rw[HLN.out];simp only[List.length_cons,List.length_nil];omega) (Nat.le_trans HSZ.out HM2.out.size) (λf=>f) ?_;intro a' c' w4 hown4 hmod4 hat4;rw[HLN.out] at hown4 ⊢;simp only[List.length_cons,List.length_nil,Nat.zero_add] at hown4 ⊢;have HO4:=oh hown4;have HM4:=oh ((HR.out.2.trans HM2.out).trans' hmod4 (λi hi hg=>by have:=(HR.out.1.lt i hg).1;omega));clear hown4 hmod4 hat4;have z4:=HCL.out _ HM4.out)
     | fail)
   go_wp2_with fail;go_roundg (gk-1)
   case measure=>omega
   case rel =>
    exact⟨k+1,_,by omega,rfl,by go_num,oh ⟨by rw[HX.out];exact HO4.out,HM4.out⟩⟩
  ·have hkq:k=q.length:=by omega
   have HF:Hid (Own (λ_=>False) wr w.heap.size 95 5 encCh v3 q):=oh (by have:=HR.out.1;rw[hkq,List.take_length] at this;exact this);have HM:=oh HR.out.2;clear hkq;go_wp2_with fail;go_ret;exact⟨_,rfl,HF.out,HM.out⟩
theorem same15_any{F Q:Nat→Prop}{w:World}(L:List ChV)(av bv:Value)(ha:Sl F w 5 encCh av L)(hb:Sl Q w 5 encCh bv L)(hlen:L.length≤1000) :
  Calls Tryz.prog 14 #[av,bv] w λe w'=>e=.returned (.bool true)∧Ext w w':=by
 have HB:=oh hb;have HCH:=oh (changes15_any L av ha (by omega));obtain⟨ba,bc,rfl,b1,b2,b3, -⟩:=hb;unfold maxLen at b2;clear ha
 go_enter Tryz.func14, Tryz.ntmps14
 go_wp2_with fail;refine HCH.out.mono ?_;rintro e w1 ⟨kv,rfl,hO,hm⟩;obtain⟨ka,kc,rfl,k1,k2⟩:=hO.form;unfold maxLen at k2;have HA:=oh (hO.sl encCh_ok.len (by omega));have HM:=oh hm;clear hO hm;go_wp2_with fail;go_loopg [6] L.length (λm v6 wr=>∃(k:Nat),k+m=L.length∧v6=.int .i64 (k:Int)∧Hid (Ext w1 wr))
 case atStart=>exact⟨0,by omega,rfl,oh (Mods.refl _ w1)⟩
 case round =>
  obtain⟨k,hkm,rfl,HX⟩:=hrel;by_cases hlt:k<L.length
  ·obtain⟨y,hy⟩:∃y,y=L[k]:=⟨_,rfl⟩;obtain⟨qb,qoff,hqa,hc⟩:=HA.out.elem hlt HX.out;obtain⟨rb,roff,hra,hd⟩:=HB.out.elem hlt (HM.out.trans HX.out);have c0:=hc 0 (.string y.key) (by rw[hy];rfl);have c1:=hc 1 (.bool y.was) (by rw[hy];rfl);have c2:=hc 2 (.bool y.is) (by rw[hy];rfl);have c3:=hc 3 (.string y.old) (by rw[hy];rfl);have c4:=hc 4 (.string y.new) (by rw[hy];rfl);have d0:=hd 0 (.string y.key) (by rw[hy];rfl);have d1:=hd 1 (.bool y.was) (by rw[hy];rfl);have d2:=hd 2 (.bool y.is) (by rw[hy];rfl);have d3:=hd 3 (.string y.old) (by rw[hy];rfl);have d4:=hd 4 (.string y.new) (by rw[hy];rfl);simp only[Nat.add_zero] at c0 d0;subst hqa hra;have i2:(0:Int)≤(k:Int):=by omega
   have i3:(k:Int)<(L.length:Int):=by omega
   have HLT:=oh hlt;clear hc hd hy hlt;go_wp2_with fail;go_quiet (fail)
   go_wp2_with fail;go_roundg (gk-1)
   case measure=>have:=HLT.out;omega
   case rel=>exact⟨k+1,by have:=HLT.out;omega,by go_num,oh (HX.out.trans ((Mods.refl _ wr).drewN _))⟩
  ·have i3:¬ (k:Int)<(L.length:Int):=by omega
   clear hlt;go_wp2_with fail;go_ret;exact⟨rfl,HM.out.trans HX.out⟩
end
end Go.Proofs.YtchklfmggpconaaGreatDoor
