import Derived.Test.YtchklfmggpconaaGreatDoorK23
import Derived.BigQuiet
namespace Go.Proofs.YtchklfmggpconaaGreatDoor
open Lib renaming hid→oh
section
open Go.RowKit
def TreeE(G:GA)(root d:Nat)(l:List PairS):Prop:=TreeG G root d l∧(root≠0→TrE G.node root d)
def seekP(key:ByteArray)(l:List PairS):Nat:=l.findIdx λx=>!ltS x.1 key
section
variable {G:GA}{L pre f suf p:List PairS}{D d id i root:Nat}{st r:StC}{lo:ByteArray}{hi:Option ByteArray}{n:NodeA}{key:ByteArray}
theorem AtPos.lt(h:AtPos G L D st i):i<L.length:=by
 obtain⟨n,a,r,pre,p,suf,lo,hi,rfl,hC,hl,ha,rfl⟩:=h;have:=congrArg List.length hC.whole;simp only[List.length_append] at this;omega
theorem AtPos.on(h:AtPos G L D st i):OnPos G L D st (i:Int):=.inl ⟨by omega,by have:=h.lt;omega,by rwa [Int.toNat_natCast]⟩
theorem AtPos.pair(h:AtPos G L D st i):∃(n:NodeA) (a:Nat) (r:StC) (e:EntryA) (x:PairS),st=(n,(a:Int)) :: r∧n.entries[a]? = some e∧L[i]? = some x∧e.key=x.1∧valueA G e=.inl x.2∧valueOk G e∧rightN n=true∧n.leaf=true:=by
 obtain⟨n,a,r,pre,p,suf,lo,hi,rfl,hC,hl,ha,rfl⟩:=h;have hea:a<n.entries.length:=by rw[hl.len];exact ha
 have h1:=hl.tells a n.entries[a] p[a] (List.getElem?_eq_getElem hea) (List.getElem?_eq_getElem ha);refine⟨n,a,r,n.entries[a],p[a],rfl,List.getElem?_eq_getElem hea,?_,h1.1,(value_tells h1.2).1,(value_tells h1.2).2,hl.right,hl.leaf⟩;rw[hC.whole,List.append_assoc,List.getElem?_append_right (by omega),Nat.add_sub_cancel_left,List.getElem?_append_left ha,List.getElem?_eq_getElem ha]
theorem Ctx.small(h:Ctx G L D r pre f suf d lo hi):∀y∈r,0≤y.2∧y.2≤65535:=by
 induction h with
 | nil=>intro y hy;simp at hy
 | @cons n j r pre suf d lo hi parts p h1 h2 h3 h4 h5 h6 h7 h8 ih =>
  intro y hy;rcases List.mem_cons.1 hy with rfl|hy
  ·have hj:=(List.getElem?_eq_some_iff.1 h8).1;have:=(rightN_few h3).2.1;show 0≤(j:Int)∧(j:Int)≤65535;omega
  ·exact ih y hy
theorem OnPos.small{i:Int}(h:OnPos G L D st i):∀y∈st,0≤y.2∧y.2≤65535:=by
 rcases h with ⟨_,_,n,a,r,pre,p,suf,lo,hi,rfl,hC,hl,ha,_⟩|⟨_,rfl⟩
 ·intro y hy;rcases List.mem_cons.1 hy with rfl|hy
  ·have:=(rightN_few hl.right).1;have:=hl.len;show 0≤(a:Int)∧(a:Int)≤65535;omega
  ·exact hC.small y hy
 ·intro y hy;simp at hy
theorem next_pos(hD:D≤16)(h:AtPos G L D st i):∃st',moveA G 1 st=.inl st'∧OnPos G L D st' ((i:Int)+1):=by
 obtain⟨n,a,r,pre,p,suf,lo,hi,rfl,hC,hl,ha,rfl⟩:=h;have hw:=congrArg List.length hC.whole;have hdp:=hC.deep;simp only[List.length_append] at hw;by_cases hn:a+1<p.length
 ·refine⟨(n,((a+1:Nat):Int)) :: r,?_,?_⟩
  ·unfold moveA;rw[if_pos (by unfold endsA;rw[if_pos hl.leaf,hl.len];omega),show ((a:Int)+1)=((a+1:Nat):Int) by omega,downF_leaf hl.leaf (by omega)]
  ·have:AtPos G L D ((n,((a+1:Nat):Int)) :: r) (pre.length+a+1):=⟨n,a+1,r,pre,p,suf,lo,hi,rfl,hC,hl,hn,by omega⟩;exact this.on
 ·have hm:moveA G 1 ((n,(a:Int)) :: r)=moveA G 1 r:=by
   conv=>lhs;unfold moveA
   rw[if_neg (by unfold endsA;rw[if_pos hl.leaf,hl.len];omega)]
  rw[hm];rcases next_ctx hD hC with ⟨k1,k2⟩|⟨k1,st',k2,k3⟩
  ·refine⟨[],k2,.inr ⟨.inr ?_,rfl⟩⟩;subst k1;simp only[List.length_nil] at hw;omega
  ·refine⟨st',k2,?_⟩;have:=k3.on;rwa [show ((pre.length+p.length:Nat):Int)=((pre.length+a:Nat):Int)+1 by omega] at this
theorem prev_pos(hD:D≤16)(h:AtPos G L D st i):∃st',moveA G (-1) st=.inl st'∧OnPos G L D st' ((i:Int)-1):=by
 obtain⟨n,a,r,pre,p,suf,lo,hi,rfl,hC,hl,ha,rfl⟩:=h;have hdp:=hC.deep;by_cases hn:1≤a
 ·refine⟨(n,((a-1:Nat):Int)) :: r,?_,?_⟩
  ·unfold moveA;rw[if_pos (by unfold endsA;rw[if_pos hl.leaf,hl.len];omega),show ((a:Int) + -1)=((a-1:Nat):Int) by omega,downF_leaf hl.leaf (by omega)]
  ·have:AtPos G L D ((n,((a-1:Nat):Int)) :: r) (pre.length+a-1):=⟨n,a-1,r,pre,p,suf,lo,hi,rfl,hC,hl,by omega,by omega⟩;have:=this.on;rwa [show ((pre.length+a-1:Nat):Int)=((pre.length+a:Nat):Int)-1 by omega] at this
 ·have ha0:a=0:=by omega
  subst ha0;have hm:moveA G (-1) ((n,((0:Nat):Int)) :: r)=moveA G (-1) r:=by
   conv=>lhs;unfold moveA
   rw[if_neg (by omega)]
  rw[hm];rcases prev_ctx hD hC with ⟨k1,k2⟩|⟨k1,st',k2,k3⟩
  ·refine⟨[],k2,.inr ⟨.inl ?_,rfl⟩⟩;subst k1;simp only[List.length_nil];omega
  ·refine⟨st',k2,?_⟩;have hp:0<pre.length:=List.length_pos_iff.2 k1;have:=k3.on;rwa [show ((pre.length-1:Nat):Int)=((pre.length+0:Nat):Int)-1 by omega] at this
theorem edge_pos(last:Bool)(h:TreeE G root d L):∃st',edgeA G (root:Int) last=.inl st'∧OnPos G L d st' (if last=true then (L.length:Int)-1 else 0):=by
 obtain⟨h1,h2⟩:=h;rcases h1 with ⟨rfl,rfl,rfl⟩|⟨h1,_,h3,h4⟩
 ·refine⟨[],by unfold edgeA;exact if_pos rfl,.inr ⟨?_,rfl⟩⟩;cases last
  ·exact .inr (by simp)
  ·exact .inl (by simp)
 ·have hE:=h2 (by omega);have hv:L≠[]:=TrE.ne h4 hE;have hpos:0<L.length:=List.length_pos_iff.2 hv;obtain⟨st',e1,e2⟩:=go_tr (L:=L) (D:=d) last h4 hE .nil h3;have he:edgeA G (root:Int) last=.inl st':=by
   unfold edgeA;rw[if_neg (by omega)];unfold goA at e1;cases hp:pushA G [] (root:Int) with
   | inr e=>rw[hp] at e1;cases e1
   | inl st =>
    rw[hp] at e1;simp only at e1 ⊢;rw[e1];simp only;obtain⟨n,a,r,pre,p,suf,lo,hi,rfl,hC,hl,ha,_⟩:=e2;rw[if_neg];unfold topNone;simp only;rw[List.isEmpty_iff];intro hne;have:=hl.len;rw[hne] at this;simp at this;omega
  refine⟨st',he,?_⟩;have:=e2.on;cases last with
  | false=>simpa using this
  | true =>
   simp only[if_true,List.length_nil,Nat.zero_add] at this ⊢;rwa [show ((L.length-1:Nat):Int)=(L.length:Int)-1 by omega] at this
theorem Ctx.ahead(h:Ctx G L D r pre f suf d lo hi):(∀x∈pre,ltS x.1 lo=true)∧(∀x∈suf,∃h,hi=some h∧ltS x.1 h=false):=by
 induction h with
 | nil=>exact⟨λx hx=>by simp at hx,λx hx=>by simp at hx⟩
 | @cons n j r pre suf d lo hi parts p h1 h2 h3 h4 h5 h6 h7 h8 ih =>
  obtain⟨i1,i2⟩:=ih;obtain⟨q1,q2, -⟩:=rightN_inner h3 h2;have hj:=(List.getElem?_eq_some_iff.1 h8).1;refine⟨λx hx=>?_,λx hx=>?_⟩
  ·unfold loAt;by_cases hj0:j=0
   ·subst hj0;rw[if_pos rfl];simp only[List.take_zero,List.flatten_nil,List.append_nil] at hx;exact i1 x hx
   ·have hjk:j-1<n.keys.length:=by omega
    rw[if_neg hj0];have e:n.keys.getD (j-1) lo=n.keys[j-1]:=by simp[List.getD,hjk]
    rw[e];rcases List.mem_append.1 hx with hx|hx
    ·exact lt_of_lt_not (i1 x hx) (h7 _ (List.getElem_mem hjk)).1
    ·obtain⟨q,hq,hx⟩:=List.mem_flatten.1 hx;obtain⟨i,hi',e2⟩:=List.getElem_of_mem hq;rw[List.length_take] at hi';have hip:i<parts.length:=by omega
     have hik:i<n.kids.length:=by omega
     have hie:i<n.keys.length:=by omega
     rw[List.getElem_take] at e2;have hT:=h5 i n.kids[i] parts[i] (List.getElem?_eq_getElem hik) (List.getElem?_eq_getElem hip);have hb:=(hT.keys x (by rw[e2];exact hx)).2 n.keys[i] (by unfold hiAt;rw[List.getElem?_eq_getElem hie]);by_cases hij:i=j-1
     ·subst hij;exact hb
     ·exact ltS_trans hb (pw_at q1 (by omega) (List.getElem?_eq_getElem hie) (List.getElem?_eq_getElem hjk))
  ·unfold hiAt;rcases List.mem_append.1 hx with hx|hx
   ·obtain⟨q,hq,hx⟩:=List.mem_flatten.1 hx;obtain⟨i,hi',e2⟩:=List.getElem_of_mem hq;rw[List.length_drop] at hi';rw[List.getElem_drop] at e2;have hip:j+1+i<parts.length:=by omega
    have hik:j+1+i<n.kids.length:=by omega
    have hjk:j<n.keys.length:=by omega
    have hie:j+i<n.keys.length:=by omega
    have hT:=h5 (j+1+i) n.kids[j+1+i] parts[j+1+i] (List.getElem?_eq_getElem hik) (List.getElem?_eq_getElem hip);have hb:=(hT.keys x (by rw[e2];exact hx)).1;unfold loAt at hb;rw[if_neg (by omega)] at hb;have e:n.keys.getD (j+1+i-1) lo=n.keys[j+i]:=by
     rw[show j+1+i-1=j+i by omega];simp[List.getD,hie]
    rw[e] at hb;refine⟨n.keys[j],by rw[List.getElem?_eq_getElem hjk],?_⟩;by_cases hi0:i=0
    ·subst hi0;exact hb
    ·have:=pw_at q1 (show j<j+i by omega) (List.getElem?_eq_getElem hjk) (List.getElem?_eq_getElem hie);cases hc:ltS x.1 n.keys[j] with
     | false=>rfl
     | true=>have:=ltS_trans hc this;rw[hb] at this;cases this
   ·obtain⟨h,rfl,hh⟩:=i2 x hx;cases hk:n.keys[j]? with
    | none=>exact⟨h,rfl,hh⟩
    | some s =>
     obtain⟨hjk,rfl⟩:=List.getElem?_eq_some_iff.1 hk;refine⟨n.keys[j],rfl,?_⟩;have:=(h7 _ (List.getElem_mem hjk)).2 h rfl;cases hc:ltS x.1 n.keys[j] with
     | false=>rfl
     | true=>have:=ltS_trans hc this;rw[hh] at this;cases this
theorem seekDown_tr(h:Tr G.node G.R2 lo hi id d f)(key:ByteArray):∀{fuel:Nat} {r:StC} {pre suf:List PairS},TrE G.node id d→Ctx G L D r pre f suf d lo hi→D≤16→d≤fuel→inB lo hi key →
  ∃(n:NodeA) (r':StC) (pre' p suf':List PairS) (lo':ByteArray) (hi':Option ByteArray),seekDown G key fuel r (id:Int)=.inl ((n,(entAt key n.entries:Int)) :: r')∧Ctx G L D r' pre' p suf' 1 lo' hi'∧LeafOf G.R2 n p∧inB lo' hi' key:=by
 induction h with
 | @leaf lo hi id n l h1 h2 h3 h4 h5 h6 =>
  intro fuel r pre suf hE hC hD hf hk;have hdp:=hC.deep;obtain⟨fuel,rfl⟩:∃q,fuel=q+1:=⟨fuel-1,by omega⟩;have hp:pushA G r (id:Int)=.inl ((n,0) :: r):=by
   unfold pushA;rw[if_neg (by omega),(GA.node_load h1).2]
  refine⟨n,r,pre,l,suf,lo,hi,?_,hC,⟨h2,h3,h4,h5⟩,hk⟩;rw[seekDown,hp];simp only;rw[if_pos h2,findN_leaf h2]
 | @inner lo hi id n d parts h1 h2 h3 h4 h5 h6 ih =>
  intro fuel r pre suf hE hC hD hf hk;have hdp:=hC.deep;obtain⟨fuel,rfl⟩:∃q,fuel=q+1:=⟨fuel-1,by omega⟩;cases hE with
  | leaf k1 k2 k3=>rw[h1] at k1;injection k1 with k1;subst k1;rw[h2] at k2;cases k2
  | inner k1 k2 k3 =>
   rw[h1] at k1;injection k1 with k1;subst k1;obtain⟨r1,r2,_⟩:=rightN_inner h3 h2;obtain⟨k,p,q1,q2,q3,q4⟩:=inner_find r1 r2 h4 h5 hk;have hp:pushA G r (id:Int)=.inl ((n,0) :: r):=by
    unfold pushA;rw[if_neg (by omega),(GA.node_load h1).2]
   have hCj:=Ctx.cons hC h2 h3 h4 h5 k3 h6 q2;obtain⟨hjt,rfl⟩:=List.getElem?_eq_some_iff.1 q1;obtain⟨n',r',pre',p',suf',lo',hi',e1,e2⟩:=ih _ _ p q1 q2 (k3 _ (List.getElem_mem hjt)) hCj hD (by omega:d≤fuel) q3;refine⟨n',r',pre',p',suf',lo',hi',?_,e2⟩;rw[seekDown,hp];simp only;rw[if_neg (by rw[h2];simp),findN_inner h2];simp only;rw[kid_at h3 h2 hjt];exact e1
theorem findIdx_cut{α:Type}{q:α→Bool}{A B:List α}(hA:∀x∈A,q x=false)(hB:∀x,B[0]? = some x→q x=true):(A++B).findIdx q=A.length:=by
 induction A with
 | nil =>
  cases B with
  | nil=>rfl
  | cons b B=>simp only[List.nil_append,List.findIdx_cons,hB b rfl,cond_true,List.length_nil]
 | cons a A ih =>
  rw[List.cons_append,List.findIdx_cons,hA a List.mem_cons_self];simp only[cond_false,List.length_cons];rw[ih (λx hx=>hA x (List.mem_cons_of_mem _ hx))]
theorem seek_pos(key:ByteArray)(h:TreeE G root d L):∃st',seekA G (root:Int) key=.inl st'∧OnPos G L d st' (seekP key L:Int):=by
 obtain⟨h1,h2⟩:=h;rcases h1 with ⟨rfl,rfl,rfl⟩|⟨h1,_,h3,h4⟩
 ·exact⟨[],by unfold seekA;exact if_pos rfl,.inr ⟨.inr (by simp[seekP]),rfl⟩⟩
 ·have hE:=h2 (by omega);obtain⟨n,r,pre,p,suf,lo,hi,e1,hC,hl,hk⟩:=seekDown_tr (L:=L) (D:=d) (fuel:=17) h4 key hE .nil h3 (by omega) (inB_all key);have hw:=hC.whole;have hdp:=hC.deep;obtain⟨b1,b2⟩:=hC.ahead;obtain⟨a,ha⟩:∃a,a=entAt key n.entries:=⟨_,rfl⟩;rw[← ha] at e1;have hal:a≤n.entries.length:=by rw[ha];exact List.findIdx_le_length
  have hpl:=hl.len;have hpre:∀x∈pre,(!ltS x.1 key)=false:=λx hx=>by
   rw[lt_of_lt_not (b1 x hx) hk.1];rfl
  have hsuf:∀x∈suf,(!ltS x.1 key)=true:=λx hx=>by
   obtain⟨h,e,hh⟩:=b2 x hx;have:=hk.2 h e;cases hc:ltS x.1 key with
   | false=>rfl
   | true=>have:=ltS_trans hc this;rw[hh] at this;cases this
  have hlow:∀x∈p.take a,(!ltS x.1 key)=false:=λx hx=>by
   obtain⟨i,hi',e⟩:=List.getElem_of_mem hx;rw[List.length_take] at hi';rw[List.getElem_take] at e;have hie:i<n.entries.length:=by omega
   have hip:i<p.length:=by omega
   have k1:=(hl.tells i n.entries[i] p[i] (List.getElem?_eq_getElem hie) (List.getElem?_eq_getElem hip)).1;have k2:=findIdx_lt (f:=λe:EntryA=>!ltS e.key key) (i:=i) (by show i<entAt key n.entries;omega) (List.getElem?_eq_getElem hie);rw[k1,e] at k2;exact k2
  have hseek:seekP key L=pre.length+a:=by
   unfold seekP;have hL:L=(pre++p.take a)++(p.drop a++suf):=by
    rw[hw,List.append_assoc,List.append_assoc,← List.append_assoc (p.take a),List.take_append_drop]
   have hAl:(pre++p.take a).length=pre.length+a:=by rw[List.length_append,List.length_take];omega
   rw[hL,← hAl];refine findIdx_cut (λx hx=>?_) (λx hx=>?_)
   ·rcases List.mem_append.1 hx with hx|hx
    ·exact hpre x hx
    ·exact hlow x hx
   ·by_cases hap:a<p.length
    ·have hie:a<n.entries.length:=by omega
     rw[List.getElem?_append_left (by rw[List.length_drop];omega),List.getElem?_drop,Nat.add_zero,List.getElem?_eq_getElem hap] at hx;injection hx with hx;have k1:=(hl.tells a n.entries[a] p[a] (List.getElem?_eq_getElem hie) (List.getElem?_eq_getElem hap)).1;have k2:(!ltS n.entries[a].key key)=true:=findIdx_at (f:=λe:EntryA=>!ltS e.key key) (l:=n.entries) (by
      have:n.entries.findIdx (λe:EntryA=>!ltS e.key key)=a:=ha.symm;rw[this];exact List.getElem?_eq_getElem hie)
     rw[k1,hx] at k2;exact k2
    ·rw[List.drop_eq_nil_of_le (by omega),List.nil_append] at hx;exact hsuf x (List.mem_of_getElem? hx)
  rw[hseek];unfold seekA;rw[if_neg (by omega),e1];simp only;by_cases hap:a<p.length
  ·rw[if_pos (by omega)];have:AtPos G L d ((n,(a:Int)) :: r) (pre.length+a):=⟨n,a,r,pre,p,suf,lo,hi,rfl,hC,hl,hap,rfl⟩;exact⟨_,rfl,this.on⟩
  ·rw[if_neg (by omega)];have hm:moveA G 1 ((n,(a:Int)-1) :: r)=moveA G 1 r:=by
    conv=>lhs;unfold moveA
    rw[if_neg (by unfold endsA;rw[if_pos hl.leaf];omega)]
   rw[hm];have hwl:=congrArg List.length hw;simp only[List.length_append] at hwl;rcases next_ctx h3 hC with ⟨k1,k2⟩|⟨k1,st',k2,k3⟩
   ·refine⟨[],k2,.inr ⟨.inr ?_,rfl⟩⟩;subst k1;simp only[List.length_nil] at hwl;omega
   ·refine⟨st',k2,?_⟩;have:=k3.on;rwa [show pre.length+p.length=pre.length+a by omega] at this
end
theorem key07_t(s:ByteArray)(w:World)(b:Bool)(h:keyB s=b) : Calls Tryz.prog 57 #[.string s] w λe w'=>e=.returned (.bool b)∧w=w':=by
 have:=key07_any s w;rw[h] at this;exact this
variable {G:GA}{gen:Nat}
def WkInvK(G:GA)(st:WkS):Prop:=WkInv G st∧st.keys.length≤1000 * st.pages.length
def Short(G:GA):Prop:=∀id p,G.get id=.inl p→p.body.length≤1000
theorem bytesE_pos(e:EntryA):1≤(bytesE e).length:=by
 unfold bytesE bytesT;simp only[List.length_append,leB_length];omega
theorem flat_ge{α:Type}{f:α→List UInt8}:∀(l:List α),(∀x,1≤(f x).length)→l.length≤(l.flatMap f).length
 | [],_=>by simp
 | x :: l,h=>by
  have:=flat_ge l h;have:=h x;rw[List.flatMap_cons,List.length_append,List.length_cons];omega
theorem decode_few{p:PageA}{n:NodeA}(h:decodeA p=.inl n)(hp:p.body.length≤1000):n.entries.length≤1000:=by
 have hr:=decodeA_right h;unfold decodeA at h;split at h
 ·split at h
  ·rename_i m hm;injection h with h;subst h;obtain⟨h1,h2,h3⟩:=(getN_iff _ _ _).1 hm;cases hl:m.leaf with
   | true =>
    unfold bytesN at h3;rw[if_pos hl] at h3;have:=flat_ge m.entries bytesE_pos;have:=congrArg List.length h3;rw[List.length_append] at this;omega
   | false =>
    have:m.entries=[]:=by
     unfold rightN at h1;rw[if_neg (by rw[hl];simp)] at h1;simp only[Bool.and_eq_true,List.isEmpty_iff] at h1;exact h1.1.1.1.1.1.1.1
    rw[this];simp
  ·cases h
 ·cases h
theorem idsW_len:∀(ids:List Int) (st st1:WkS),idsW G gen ids st=.inl st1→st1.keys=st.keys∧st.pages.length≤st1.pages.length
 | [],st,st1,h=>by rw[idsW] at h;injection h with h;subst h;exact⟨rfl,Nat.le_refl _⟩
 | id :: r,st,st1,h=>by
  rw[idsW] at h;split at h
  ·cases h
  ·rename_i s1 hs;split at h
   ·cases h
   ·obtain⟨k1,k2⟩:=idsW_len r s1 st1 h;obtain⟨_,rfl⟩:=seeW_in hs;refine⟨k1,?_⟩;simp only[List.length_append] at k2;omega
theorem chainedW_inv{e:EntryA}{st st1:WkS}(hi:WkInv G st)(h:chainedW G gen e st=.inl st1):WkInv G st1∧st1.keys=st.keys∧st.pages.length≤st1.pages.length:=by
 unfold chainedW at h;split at h
 ·injection h with h;subst h;exact⟨hi,rfl,Nat.le_refl _⟩
 ·split at h
  ·cases h
  ·exact⟨idsW_inv _ _ _ hi h,idsW_len _ _ _ h⟩
theorem entsW_inv{a:Place}:∀(es:List EntryA) (st st1:WkS),WkInv G st→entsW G gen a es st=.inl st1→WkInv G st1∧st1.keys.length=st.keys.length+es.length∧st.pages.length≤st1.pages.length
 | [],st,st1,hi,h=>by rw[entsW] at h;injection h with h;subst h;exact⟨hi,rfl,Nat.le_refl _⟩
 | e :: r,st,st1,hi,h=>by
  rw[entsW] at h;split at h
  ·cases h
  ·split at h
   ·cases h
   ·rename_i s1 hs;obtain⟨k1,k2,k3⟩:=chainedW_inv (st:={ st with keys:=st.keys++[e.key] }) hi hs;obtain⟨j1,j2,j3⟩:=entsW_inv r s1 st1 k1 h;refine⟨j1,?_,Nat.le_trans k3 j3⟩;rw[j2,k2];simp only[List.length_append,List.length_cons,List.length_nil];omega
theorem seeK{st st1:WkS}{id:Int}{p:PageA}(hi:WkInvK G st)(h1:seeW st id=.inl st1)(h2:youngW G gen id=.inl p):WkInv G st1∧st1.keys.length+1000≤1000 * st1.pages.length:=by
 refine⟨hi.1.see h1 h2,?_⟩;obtain⟨_,rfl⟩:=seeW_in h1;have:=hi.2;simp only[List.length_append,List.length_cons,List.length_nil];omega
theorem WkInvK.ofSee{st:WkS}(h:WkInv G st∧st.keys.length+1000≤1000 * st.pages.length):WkInvK G st:=⟨h.1,by omega⟩
theorem leafW_inv{n:NodeA}{a:Place}{st st1:WkS}(hi:WkInv G st∧st.keys.length+1000≤1000 * st.pages.length)(hn:n.entries.length≤1000)(h:leafW G gen n a st=.inl st1):WkInvK G st1:=by
 have hd:WkInv G (atDepth a st)∧(atDepth a st).keys=st.keys∧(atDepth a st).pages=st.pages:=by
  unfold atDepth;split
  ·exact⟨hi.1,rfl,rfl⟩
  ·exact⟨hi.1,rfl,rfl⟩
 unfold leafW at h;split at h
 ·cases h
 ·obtain⟨k1,k2,k3⟩:=entsW_inv _ _ _ hd.1 h;rw[hd.2.1] at k2;rw[hd.2.2] at k3;exact⟨k1,by omega⟩
theorem kidsW_inv{rec_:Place→WkS→WkS ⊕ Err}{n:NodeA}{a:Place}(hrec:∀b st st1,WkInvK G st→rec_ b st=.inl st1→WkInvK G st1):∀(kids:List Int) (i:Nat) (st st1:WkS),WkInvK G st→kidsW rec_ n a kids i st=.inl st1→WkInvK G st1
 | [],i,st,st1,hi,h=>by rw[kidsW] at h;injection h with h;subst h;exact hi
 | k :: r,i,st,st1,hi,h=>by
  rw[kidsW] at h;split at h
  ·cases h
  ·split at h
   ·cases h
   ·rename_i s1 hs;exact kidsW_inv hrec r (i+1) s1 st1 (hrec _ _ _ hi hs) h
theorem nodeW_inv(hG:Short G):∀(f:Nat) (a:Place) (st st1:WkS),WkInvK G st→nodeW G gen f a st=.inl st1→WkInvK G st1
 | 0,a,st,st1,hi,h=>by rw[nodeW] at h;cases h
 | f+1,a,st,st1,hi,h=>by
  rw[nodeW] at h;split at h
  ·cases h
  ·rename_i s1 hs;split at h
   ·cases h
   ·rename_i p hp;have hk:=seeK hi hs hp;have hb:p.body.length≤1000:=by
     refine hG a.id p ?_;unfold youngW at hp;split at hp
     ·cases hp
     ·rename_i q hq;split at hp
      ·cases hp
      ·injection hp with hp;subst hp;exact hq
    split at h
    ·cases h
    ·rename_i n hn;split at h
     ·exact leafW_inv hk (decode_few hn hb) h
     ·exact kidsW_inv (nodeW_inv hG f) _ _ _ _ (WkInvK.ofSee hk) h
end
section
open Go.RowKit
attribute [local go_sem ↓] Go.wp_at_zero Go.wp_at_succ
set_option maxRecDepth 100000 in
theorem SameTexts_any{F G:Nat→Prop}{w:World}(av bv:Value)(l m:List ByteArray)(ha:Sl F w 1 encS av l)(hb:Sl G w 1 encS bv m) :
  Calls Tryz.prog 19 #[av,bv] w λe w'=>e=.returned (.bool (decide (l=m)))∧Ext w w':=by
 obtain⟨a,cap,rfl,h1,h2,h3,h4⟩:=ha;obtain⟨b,cap2,rfl,i1,i2,i3,i4⟩:=hb;unfold maxLen at h2 i2;have H4:=oh h4;have I4:=oh i4;clear h4 i4;by_cases hl:l.length=m.length
 ·obtain⟨n,hn⟩:∃n,n=l.length:=⟨_,rfl⟩;rw[← hl,← hn] at i1 i3 ⊢;rw[← hn] at h1 h3;have N1:Hid (n=l.length):=oh hn;have N2:Hid (n=m.length):=oh (hn.trans hl);clear hn hl
  go_enter Tryz.func19, Tryz.ntmps19
  go_wp2_with fail;go_loopg [5] n (λq v5 wr=>∃k:Nat,k+q=n∧v5=.int .i64 k∧Hid (l.take k=m.take k)∧Hid (Ext w wr))
  case atStart=>exact⟨0,by omega,rfl,oh rfl,oh (Mods.refl _ _)⟩
  case round =>
   obtain⟨k,hk,rfl,HQ,HM⟩:=hrel;by_cases hltn:k<n
   ·have hlt:k<l.length:=by have:=N1.out;omega
    have hlt2:k<m.length:=by have:=N2.out;omega
    obtain⟨b1,off1,rfl,hb1,hF1,hc1⟩:=Sl.atE H4.out HM.out k hlt;obtain⟨b2,off2,rfl,hb2,hF2,hc2⟩:=Sl.atE I4.out HM.out k hlt2;obtain⟨x,hx⟩:∃x,x=l[k]:=⟨_,rfl⟩;obtain⟨y,hy⟩:∃y,y=m[k]:=⟨_,rfl⟩;have d1:=hc1 0 (.string x) (by rw[hx];rfl);have d2:=hc2 0 (.string y) (by rw[hy];rfl);simp only[Nat.mul_one,Nat.add_zero] at d1 d2;have hx2:l[k]? = some x:=by rw[hx];simp[hlt]
    have hy2:m[k]? = some y:=by rw[hy];simp[hlt2]
    have HT:Hid (x=y→l.take (k+1)=m.take (k+1)):=oh (λe=>by rw[take_one l k x hx2,take_one m k y hy2,HQ.out,e]);have HN:Hid (x≠y→decide (l=m)=false):=oh (λe=>by
     rw[decide_eq_false_iff_not];intro h;rw[h,hy2] at hx2;injection hx2 with h5;exact e h5.symm)
    clear hc1 hc2 hx hy hx2 hy2 hlt hlt2;by_cases hxy:x=y
    ·subst hxy;go_wp2_with fail;go_region
     go_wp2_with fail;go_roundg (gk-1)
     case measure=>omega
     case rel=>exact⟨k+1,by omega,by go_num,oh (HT.out (by first|rfl|trivial)),oh HM.out.drew⟩
    ·have hne:(x.toList == y.toList)=false:=by rw[beq_eq_false_iff_ne];exact λe=>hxy (toList_inj e)
     have HN2:=oh (HN.out hxy);clear hxy;go_wp2_with fail;go_region
     go_wp2_with fail;go_ret;exact⟨ret_bool HN2.out.symm,HM.out.drew⟩
   ·have he:Hid (decide (l=m)=true):=oh (by
     have:=HQ.out;have n1:=N1.out;have n2:=N2.out;rw[List.take_of_length_le (by omega),List.take_of_length_le (by omega)] at this;simp[this])
    go_wp2_with fail;go_ret;exact⟨ret_bool he.out.symm,HM.out⟩
 ·have he:Hid (decide (l=m)=false):=oh (by rw[decide_eq_false_iff_not];intro h;exact hl (by rw[h]))
  go_enter Tryz.func19, Tryz.ntmps19
  go_wp2_with fail;go_ret;exact⟨ret_bool he.out.symm,Mods.refl _ _⟩
end
end Go.Proofs.YtchklfmggpconaaGreatDoor
