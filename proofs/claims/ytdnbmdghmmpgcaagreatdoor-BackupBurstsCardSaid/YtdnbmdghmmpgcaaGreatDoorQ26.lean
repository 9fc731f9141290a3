import Derived.Test.YtdnbmdghmmpgcaaGreatDoorQ25
import Derived.Test.YtdnbmdghmmpgcaaGreatDoorQ22
import Derived.BigQuiet
import Derived.Deep.RegionWith
import Derived.Deep.QuietTactic
namespace Go.Proofs.YtdnbmdghmmpgcaaGreatDoor
open Lib renaming hid->oh
set_option maxHeartbeats 8000000
set_option maxRecDepth 100000
section
open Go.RowKit
def zJl(G:GA)(root d:Nat)(l:List zD):Prop:=zR7 G root d l/\(root≠0->TrE G.node root d)
def zEI(key:ByteArray)(l:List zD):Nat:=l.findIdx λx=>!yX x.1 key
section
variable {G:GA}{L pre f suf p:List zD}{D d id i root:Nat}{st r:StC}{lo:ByteArray}{hi:Option ByteArray}{n:zI}{key:ByteArray}
theorem zCe.lt(h:zCe G L D st i):i<L.length:=by
 obtain⟨n,a,r,pre,p,suf,lo,hi,rfl,hC,hl,ha,rfl⟩:=h;have:=congrArg List.length hC.whole;simp only[uA] at this;omega
theorem zCe.on(h:zCe G L D st i):zDd G L D st (i:Int):=.inl ⟨by omega,by have:=h.lt;omega,by rwa [uM]⟩
theorem zCe.pair(h:zCe G L D st i):∃(n:zI) (a:Nat) (r:StC) (e:zQ) (x:zD),st=(n,(a:Int)) :: r/\n.entries[a]? = some e/\L[i]? = some x/\e.key=x.1/\zDy G e=.inl x.2/\zGH G e/\zP n=true/\n.leaf=true:=by
 obtain⟨n,a,r,pre,p,suf,lo,hi,rfl,hC,hl,ha,rfl⟩:=h;have hea:a<n.entries.length:=by rw[hl.len];exact ha
 have h1:=hl.tells a n.entries[a] p[a] (uB hea) (uB ha);refine⟨n,a,r,n.entries[a],p[a],rfl,uB hea,?_,h1.1,(zHL h1.2).1,(zHL h1.2).2,hl.right,hl.leaf⟩;rw[hC.whole,uJ,wI (by omega),Nat.add_sub_cancel_left,tA ha,uB ha]
theorem Ctx.small(h:Ctx G L D r pre f suf d lo hi):∀y∈r,0<=y.2/\y.2<=65535:=by
 induction h with
 | nil=>intro y hy;simp at hy
 | @cons n j r pre suf d lo hi parts p h1 h2 h3 h4 h5 h6 h7 h8 ih =>
  intro y hy;rcases uO.1 hy with rfl|hy
  .have hj:=(uC.1 h8).1;have:=(zAW h3).2.1;show 0<=(j:Int)/\(j:Int)<=65535;omega
  .exact ih y hy
theorem zDd.small{i:Int}(h:zDd G L D st i):∀y∈st,0<=y.2/\y.2<=65535:=by
 rcases h with ⟨_,_,n,a,r,pre,p,suf,lo,hi,rfl,hC,hl,ha,_⟩|⟨_,rfl⟩
 .intro y hy;rcases uO.1 hy with rfl|hy
  .have:=(zAW hl.right).1;have:=hl.len;show 0<=(a:Int)/\(a:Int)<=65535;omega
  .exact hC.small y hy
 .intro y hy;simp at hy
theorem zQm(hD:D<=16)(h:zCe G L D st i):∃st',qG G 1 st=.inl st'/\zDd G L D st' ((i:Int)+1):=by
 obtain⟨n,a,r,pre,p,suf,lo,hi,rfl,hC,hl,ha,rfl⟩:=h;have hw:=congrArg List.length hC.whole;have hdp:=hC.deep;simp only[uA] at hw;by_cases hn:a+1<p.length
 .refine⟨(n,((a+1:Nat):Int)) :: r,?_,?_⟩
  .unfold qG;rw[if_pos (by unfold zAD;rw[if_pos hl.leaf,hl.len];omega),show ((a:Int)+1)=((a+1:Nat):Int) by omega,zD3 hl.leaf (by omega)]
  .have:zCe G L D ((n,((a+1:Nat):Int)) :: r) (pre.length+a+1):=⟨n,a+1,r,pre,p,suf,lo,hi,rfl,hC,hl,hn,by omega⟩;exact this.on
 .have hm:qG G 1 ((n,(a:Int)) :: r)=qG G 1 r:=by
   conv=>lhs;unfold qG
   rw[if_neg (by unfold zAD;rw[if_pos hl.leaf,hl.len];omega)]
  rw[hm];rcases zLr hD hC with ⟨k1,k2⟩|⟨k1,st',k2,k3⟩
  .refine⟨[],k2,.inr ⟨.inr ?_,rfl⟩⟩;subst k1;simp only[uF] at hw;omega
  .refine⟨st',k2,?_⟩;have:=k3.on;rwa [show ((pre.length+p.length:Nat):Int)=((pre.length+a:Nat):Int)+1 by omega] at this
theorem zQn(hD:D<=16)(h:zCe G L D st i):∃st',qG G (-1) st=.inl st'/\zDd G L D st' ((i:Int)-1):=by
 obtain⟨n,a,r,pre,p,suf,lo,hi,rfl,hC,hl,ha,rfl⟩:=h;have hdp:=hC.deep;by_cases hn:1<=a
 .refine⟨(n,((a-1:Nat):Int)) :: r,?_,?_⟩
  .unfold qG;rw[if_pos (by unfold zAD;rw[if_pos hl.leaf,hl.len];omega),show ((a:Int) + -1)=((a-1:Nat):Int) by omega,zD3 hl.leaf (by omega)]
  .have:zCe G L D ((n,((a-1:Nat):Int)) :: r) (pre.length+a-1):=⟨n,a-1,r,pre,p,suf,lo,hi,rfl,hC,hl,by omega,by omega⟩;have:=this.on;rwa [show ((pre.length+a-1:Nat):Int)=((pre.length+a:Nat):Int)-1 by omega] at this
 .have ha0:a=0:=by omega
  subst ha0;have hm:qG G (-1) ((n,((0:Nat):Int)) :: r)=qG G (-1) r:=by
   conv=>lhs;unfold qG
   rw[if_neg (by omega)]
  rw[hm];rcases zQl hD hC with ⟨k1,k2⟩|⟨k1,st',k2,k3⟩
  .refine⟨[],k2,.inr ⟨.inl ?_,rfl⟩⟩;subst k1;simp only[uF];omega
  .refine⟨st',k2,?_⟩;have hp:0<pre.length:=rS.2 k1;have:=k3.on;rwa [show ((pre.length-1:Nat):Int)=((pre.length+0:Nat):Int)-1 by omega] at this
theorem zSx(last:Bool)(h:zJl G root d L):∃st',zN6 G (root:Int) last=.inl st'/\zDd G L d st' (if last=true then (L.length:Int)-1 else 0):=by
 obtain⟨h1,h2⟩:=h;rcases h1 with ⟨rfl,rfl,rfl⟩|⟨h1,_,h3,h4⟩
 .refine⟨[],by unfold zN6;exact if_pos rfl,.inr ⟨?_,rfl⟩⟩;cases last
  .exact .inr (by simp)
  .exact .inl (by simp)
 .have hE:=h2 (by omega);have hv:L≠[]:=TrE.ne h4 hE;have hpos:0<L.length:=rS.2 hv;obtain⟨st',e1,e2⟩:=zQk (L:=L) (D:=d) last h4 hE .nil h3;have he:zN6 G (root:Int) last=.inl st':=by
   unfold zN6;rw[if_neg (by omega)];unfold goA at e1;cases hp:zAP G [] (root:Int) with
   | inr e=>rw[hp] at e1;cases e1
   | inl st =>
    rw[hp] at e1;simp only at e1 ⊢;rw[e1];simp only;obtain⟨n,a,r,pre,p,suf,lo,hi,rfl,hC,hl,ha,_⟩:=e2;rw[if_neg];unfold zN5;simp only;rw[wS];intro hne;have:=hl.len;rw[hne] at this;simp at this;omega
  refine⟨st',he,?_⟩;have:=e2.on;cases last with
  | false=>simpa using this
  | true =>
   simp only[tS,uF,uS] at this ⊢;rwa [show ((L.length-1:Nat):Int)=(L.length:Int)-1 by omega] at this
theorem Ctx.ahead(h:Ctx G L D r pre f suf d lo hi):(∀x∈pre,yX x.1 lo=true)/\(∀x∈suf,∃h,hi=some h/\yX x.1 h=false):=by
 induction h with
 | nil=>exact⟨λx hx=>by simp at hx,λx hx=>by simp at hx⟩
 | @cons n j r pre suf d lo hi parts p h1 h2 h3 h4 h5 h6 h7 h8 ih =>
  obtain⟨i1,i2⟩:=ih;obtain⟨q1,q2, -⟩:=zAw h3 h2;have hj:=(uC.1 h8).1;refine⟨λx hx=>?_,λx hx=>?_⟩
  .unfold zFb;by_cases hj0:j=0
   .subst hj0;rw[if_pos rfl];simp only[pX,pM,wH] at hx;exact i1 x hx
   .have hjk:j-1<n.keys.length:=by omega
    rw[if_neg hj0];have e:n.keys.getD (j-1) lo=n.keys[j-1]:=by simp[List.getD,hjk]
    rw[e];rcases uN.1 hx with hx|hx
    .exact zCl (i1 x hx) (h7 _ (wJ hjk)).1
    .obtain⟨q,hq,hx⟩:=nH.1 hx;obtain⟨i,hi',e2⟩:=wG hq;rw[uR] at hi';have hip:i<parts.length:=by omega
     have hik:i<n.kids.length:=by omega
     have hie:i<n.keys.length:=by omega
     rw[rO] at e2;have hT:=h5 i n.kids[i] parts[i] (uB hik) (uB hip);have hb:=(hT.keys x (by rw[e2];exact hx)).2 n.keys[i] (by unfold zFc;rw[uB hie]);by_cases hij:i=j-1
     .subst hij;exact hb
     .exact qH hb (zQF q1 (by omega) (uB hie) (uB hjk))
  .unfold zFc;rcases uN.1 hx with hx|hx
   .obtain⟨q,hq,hx⟩:=nH.1 hx;obtain⟨i,hi',e2⟩:=wG hq;rw[wK] at hi';rw[List.getElem_drop] at e2;have hip:j+1+i<parts.length:=by omega
    have hik:j+1+i<n.kids.length:=by omega
    have hjk:j<n.keys.length:=by omega
    have hie:j+i<n.keys.length:=by omega
    have hT:=h5 (j+1+i) n.kids[j+1+i] parts[j+1+i] (uB hik) (uB hip);have hb:=(hT.keys x (by rw[e2];exact hx)).1;unfold zFb at hb;rw[if_neg (by omega)] at hb;have e:n.keys.getD (j+1+i-1) lo=n.keys[j+i]:=by
     rw[show j+1+i-1=j+i by omega];simp[List.getD,hie]
    rw[e] at hb;refine⟨n.keys[j],by rw[uB hjk],?_⟩;by_cases hi0:i=0
    .subst hi0;exact hb
    .have:=zQF q1 (show j<j+i by omega) (uB hjk) (uB hie);cases hc:yX x.1 n.keys[j] with
     | false=>rfl
     | true=>have:=qH hc this;rw[hb] at this;cases this
   .obtain⟨h,rfl,hh⟩:=i2 x hx;cases hk:n.keys[j]? with
    | none=>exact⟨h,rfl,hh⟩
    | some s =>
     obtain⟨hjk,rfl⟩:=uC.1 hk;refine⟨n.keys[j],rfl,?_⟩;have:=(h7 _ (wJ hjk)).2 h rfl;cases hc:yX x.1 n.keys[j] with
     | false=>rfl
     | true=>have:=qH hc this;rw[hh] at this;cases this
theorem zLs(h:Tr G.node G.R2 lo hi id d f)(key:ByteArray):∀{fuel:Nat} {r:StC} {pre suf:List zD},TrE G.node id d->Ctx G L D r pre f suf d lo hi->D<=16->d<=fuel->inB lo hi key ->
  ∃(n:zI) (r':StC) (pre' p suf':List zD) (lo':ByteArray) (hi':Option ByteArray),jQ G key fuel r (id:Int)=.inl ((n,(vL key n.entries:Int)) :: r')/\Ctx G L D r' pre' p suf' 1 lo' hi'/\zQh G.R2 n p/\inB lo' hi' key:=by
 induction h with
 | @leaf lo hi id n l h1 h2 h3 h4 h5 h6 =>
  intro fuel r pre suf hE hC hD hf hk;have hdp:=hC.deep;obtain⟨fuel,rfl⟩:∃q,fuel=q+1:=⟨fuel-1,by omega⟩;have hp:zAP G r (id:Int)=.inl ((n,0) :: r):=by
   unfold zAP;rw[if_neg (by omega),(GA.node_load h1).2]
  refine⟨n,r,pre,l,suf,lo,hi,?_,hC,⟨h2,h3,h4,h5⟩,hk⟩;rw[jQ,hp];simp only;rw[if_pos h2,zCz h2]
 | @inner lo hi id n d parts h1 h2 h3 h4 h5 h6 ih =>
  intro fuel r pre suf hE hC hD hf hk;have hdp:=hC.deep;obtain⟨fuel,rfl⟩:∃q,fuel=q+1:=⟨fuel-1,by omega⟩;cases hE with
  | leaf k1 k2 k3=>rw[h1] at k1;injection k1 with k1;subst k1;rw[h2] at k2;cases k2
  | inner k1 k2 k3 =>
   rw[h1] at k1;injection k1 with k1;subst k1;obtain⟨r1,r2,_⟩:=zAw h3 h2;obtain⟨k,p,q1,q2,q3,q4⟩:=zMo r1 r2 h4 h5 hk;have hp:zAP G r (id:Int)=.inl ((n,0) :: r):=by
    unfold zAP;rw[if_neg (by omega),(GA.node_load h1).2]
   have hCj:=Ctx.cons hC h2 h3 h4 h5 k3 h6 q2;obtain⟨hjt,rfl⟩:=uC.1 q1;obtain⟨n',r',pre',p',suf',lo',hi',e1,e2⟩:=ih _ _ p q1 q2 (k3 _ (wJ hjt)) hCj hD (by omega:d<=fuel) q3;refine⟨n',r',pre',p',suf',lo',hi',?_,e2⟩;rw[jQ,hp];simp only;rw[if_neg (by rw[h2];simp),zEi h2];simp only;rw[zKc h3 h2 hjt];exact e1
theorem zLt{α:Type}{q:α->Bool}{A B:List α}(hA:∀x∈A,q x=false)(hB:∀x,B[0]? = some x->q x=true):(A++B).findIdx q=A.length:=by
 induction A with
 | nil =>
  cases B with
  | nil=>rfl
  | cons b B=>simp only[wL,rP,hB b rfl,cond_true,uF]
 | cons a A ih =>
  rw[wW,rP,hA a uG];simp only[cond_false,uD];rw[ih (λx hx=>hA x (uH _ hx))]
theorem zQo(key:ByteArray)(h:zJl G root d L):∃st',zDc G (root:Int) key=.inl st'/\zDd G L d st' (zEI key L:Int):=by
 obtain⟨h1,h2⟩:=h;rcases h1 with ⟨rfl,rfl,rfl⟩|⟨h1,_,h3,h4⟩
 .exact⟨[],by unfold zDc;exact if_pos rfl,.inr ⟨.inr (by simp[zEI]),rfl⟩⟩
 .have hE:=h2 (by omega);obtain⟨n,r,pre,p,suf,lo,hi,e1,hC,hl,hk⟩:=zLs (L:=L) (D:=d) (fuel:=17) h4 key hE .nil h3 (by omega) (zD0 key);have hw:=hC.whole;have hdp:=hC.deep;obtain⟨b1,b2⟩:=hC.ahead;obtain⟨a,ha⟩:∃a,a=vL key n.entries:=⟨_,rfl⟩;rw[<- ha] at e1;have hal:a<=n.entries.length:=by rw[ha];exact tY
  have hpl:=hl.len;have hpre:∀x∈pre,(!yX x.1 key)=false:=λx hx=>by
   rw[zCl (b1 x hx) hk.1];rfl
  have hsuf:∀x∈suf,(!yX x.1 key)=true:=λx hx=>by
   obtain⟨h,e,hh⟩:=b2 x hx;have:=hk.2 h e;cases hc:yX x.1 key with
   | false=>rfl
   | true=>have:=qH hc this;rw[hh] at this;cases this
  have hlow:∀x∈p.take a,(!yX x.1 key)=false:=λx hx=>by
   obtain⟨i,hi',e⟩:=wG hx;rw[uR] at hi';rw[rO] at e;have hie:i<n.entries.length:=by omega
   have hip:i<p.length:=by omega
   have k1:=(hl.tells i n.entries[i] p[i] (uB hie) (uB hip)).1;have k2:=zDq (f:=λe:zQ=>!yX e.key key) (i:=i) (by show i<vL key n.entries;omega) (uB hie);rw[k1,e] at k2;exact k2
  have hseek:zEI key L=pre.length+a:=by
   unfold zEI;have hL:L=(pre++p.take a)++(p.drop a++suf):=by
    rw[hw,uJ,uJ,<- uJ (p.take a),uV]
   have hAl:(pre++p.take a).length=pre.length+a:=by rw[uA,uR];omega
   rw[hL,<- hAl];refine zLt (λx hx=>?_) (λx hx=>?_)
   .rcases uN.1 hx with hx|hx
    .exact hpre x hx
    .exact hlow x hx
   .by_cases hap:a<p.length
    .have hie:a<n.entries.length:=by omega
     rw[tA (by rw[wK];omega),tV,uP,uB hap] at hx;injection hx with hx;have k1:=(hl.tells a n.entries[a] p[a] (uB hie) (uB hap)).1;have k2:(!yX n.entries[a].key key)=true:=zDr (f:=λe:zQ=>!yX e.key key) (l:=n.entries) (by
      have:n.entries.findIdx (λe:zQ=>!yX e.key key)=a:=ha.symm;rw[this];exact uB hie)
     rw[k1,hx] at k2;exact k2
    .rw[tI (by omega),wL] at hx;exact hsuf x (wC hx)
  rw[hseek];unfold zDc;rw[if_neg (by omega),e1];simp only;by_cases hap:a<p.length
  .rw[if_pos (by omega)];have:zCe G L d ((n,(a:Int)) :: r) (pre.length+a):=⟨n,a,r,pre,p,suf,lo,hi,rfl,hC,hl,hap,rfl⟩;exact⟨_,rfl,this.on⟩
  .rw[if_neg (by omega)];have hm:qG G 1 ((n,(a:Int)-1) :: r)=qG G 1 r:=by
    conv=>lhs;unfold qG
    rw[if_neg (by unfold zAD;rw[if_pos hl.leaf];omega)]
   rw[hm];have hwl:=congrArg List.length hw;simp only[uA] at hwl;rcases zLr h3 hC with ⟨k1,k2⟩|⟨k1,st',k2,k3⟩
   .refine⟨[],k2,.inr ⟨.inr ?_,rfl⟩⟩;subst k1;simp only[uF] at hwl;omega
   .refine⟨st',k2,?_⟩;have:=k3.on;rwa [show pre.length+p.length=pre.length+a by omega] at this
end
theorem zN8(s:ByteArray)(w:World)(b:Bool)(h:qS s=b) : Calls Tryz.prog 56 #[.string s] w λe w'=>e=.returned (.bool b)/\w=w':=by
 have:=zPD s w;rw[h] at this;exact this
end
section
open Go.RowKit
attribute [local go_sem ↓] Go.wp_at_zero Go.wp_at_succ
section
variable {F:Nat->Prop}{ad:Nat->Addr}{w w':World}{B:Nat}{v:Value}{l:List UInt8}{p:Nat}{ok:Bool}
theorem zSy(a b:Nat):((a:Int) == (b:Int))=decide (a=b):=by
 by_cases h:a=b
 .subst h;simp
 .have h2:¬ (a:Int)=(b:Int):=by omega
  rw[uX h];exact beq_false_of_ne h2
theorem zNJ(hL:yG F ad w)(op:ByteArray) : Calls Tryz.prog 68 #[.string op] w λe w'=>∃f,e=.returned (zJ f)/\yY F ad w' (zJ f) [-1] 1/\zG w w':=by
 have g1:=hL.c1;have HL:=oh hL;clear hL
 go_enter Tryz.func68, Tryz.ntmps68
 go_wp2_with fail;refine (yW HL.out _ _ [] 1 (.sent 1 (by decide) (by decide))).mono ?_;rintro e w1 ⟨f,rfl,hE,hm⟩;have HE:=oh hE;have HM:=oh hm;clear hE hm;go_wp2_with fail;go_ret;exact⟨f,rfl,HE.out,HM.out⟩
theorem zNK(h:BrR F w B v l p ok) : Calls Tryz.prog 71 #[.pointer (some ⟨B,0,none⟩)] w λe w'=>e=.returned (.bool (ok && decide (p=l.length)))/\zG w w':=by
 obtain⟨ev,hB,hS,hO⟩:=h;obtain⟨a,c,rfl, -⟩:=hS;have b0:=hB.cell (o:=0) (v:=.slice a l.length c) rfl;have b1:=hB.cell (o:=1) (v:=.int .i64 (p:Int)) rfl;have b2:=hB.cell (o:=2) (v:=ev) rfl;have HD:=oh (zSy p l.length);have HM:Hid (∀q,zG w (w.drewN q)):=oh λq=>(zA.refl (λ_=>False) w).drewN q
 have hbl:=hB.lt;clear hB;cases ok with
 | true =>
  have h0:ev=.nilIface:=hO;subst h0
  go_enter Tryz.func71, Tryz.ntmps71
  go_wp2_with fail;go_quiet (fail)
  go_wp2_with fail;go_ret;exact⟨by simp[HD.out],HM.out _⟩
 | false =>
  obtain⟨f,rfl⟩:=hO;unfold zJ at b2
  go_enter Tryz.func71, Tryz.ntmps71
  go_wp2_with fail;go_quiet (fail)
  go_wp2_with fail;go_ret;exact⟨rfl,HM.out _⟩
theorem zGg(bv:Value)(l:List UInt8)(hb:Sl F w 1 zT bv l)(n:Nat) : Calls Tryz.prog 119 #[bv,.int .u32 (n:Int)] w λe w'=>e=.returned (.bool (decide (yC l=n)))/\w=w':=by
 have HC:=oh (zHZ bv l w hb);obtain⟨cs,hcs⟩:∃cs,cs=yC l:=⟨_,rfl⟩;rw[<- hcs] at HC ⊢;obtain⟨a,c,rfl, -⟩:=hb;clear hcs;have HD:=oh (zSy cs n)
 go_enter Tryz.func119, Tryz.ntmps119
 go_wp2_with fail;refine HC.out.mono ?_;rintro e w1 ⟨rfl,rfl⟩;go_wp2_with fail;go_ret;exact⟨by rw[HD.out];rfl,rfl⟩
theorem zJm(bv:Value)(l:List UInt8)(hb:Sl F w 1 zT bv l)(h4:4<=l.length)(hlen:l.length<=2000000000) :
  Calls Tryz.prog 69 #[bv] w λe w'=>∃B v,e=.returned (.pointer (some ⟨B,0,none⟩))/\BrR (yB F B) w' B v (l.take (l.length-4)) 25 true/\zG w w'/\w.heap.size<=B/\B<w'.heap.size:=by
 obtain⟨a,c,rfl,hz1,hz2,hz3,hz4⟩:=id hb;unfold maxLen at hz2;have hsl:=Sl.pre hb (l.length-4) (by omega);have m0:zG w (w.alloc (.cells #[.slice a (l.length-4) c,.int .i64 25,.nilIface] 128)):=(zA.refl _ w).alloc _;have HF:Hid (∃v,BrR (yB F w.heap.size) (w.alloc (.cells #[.slice a (l.length-4) c,.int .i64 25,.nilIface] 128)) w.heap.size v (l.take (l.length-4)) 25 true):=oh ⟨_,_,zK.new w _ _,hsl.withR m0,rfl⟩;have HM:=oh m0;have i1:((l.length:Int)-4).toNat=l.length-4:=by omega
 have i2:(4:Int)<=(l.length:Int):=by omega
 have i3:(l.length:Int)<=(c:Int):=by omega
 clear hb hz4 hsl m0
 go_enter Tryz.func69, Tryz.ntmps69
 go_wp2_with fail;go_ret;obtain⟨v,hv⟩:=HF.out;exact⟨w.heap.size,v,rfl,hv,HM.out,uK _,by simp⟩
end
section
variable {F:Nat->Prop}{w w':World}
theorem zNL(lv:Value)(X Y:List zD)(key:ByteArray)(hl:Sl F w 2 yS lv (X++Y))(b:Bool)(hA:∀z∈X,yX z.1 key=true)(hB:(b=false/\∀z∈Y,yX key z.1=true)\/(b=true/\∃x Y',Y=x :: Y'/\x.1=key)) :
  Calls Tryz.prog 173 #[lv,.string key] w λe w'=>e=.returned (.tuple #[.int .i64 (X.length:Int),.bool b])/\zG w w':=by
 have HL:=oh hl;obtain⟨la,lc,rfl,h1,h2,h3, -⟩:=id hl;unfold maxLen at h2;have HA:=oh hA;have HB:=oh hB;have HLN:Hid ((X++Y).length=X.length+Y.length):=oh (by simp);obtain⟨n,hn⟩:∃n,n=(X++Y).length:=⟨_,rfl⟩;rw[<- hn] at HL HLN h1 h3 ⊢;have HN:=oh hn;clear hl hA hB hn
 go_enter Tryz.func173, Tryz.ntmps173
 go_wp2_with fail;go_loopg [10] X.length (λm v10 wr=>∃(k:Nat),k+m=X.length/\v10=.int .i64 (k:Int)/\Hid (zG w wr))
 case atStart=>exact⟨0,by omega,rfl,oh (zA.refl _ _)⟩
 case round =>
  obtain⟨k,hkm,rfl,HR⟩:=hrel;have hln:=HLN.out;by_cases hlt:k<X.length
  .have hlt2:k<(X++Y).length:=by rw[<- HN.out];omega
   obtain⟨qb,qoff,hqa,hc⟩:=HL.out.elem hlt2 HR.out;have hx:(X++Y)[k]=X[k]:=List.getElem_append_left hlt;rw[hx] at hc;have c0:=hc 0 (.string X[k].1) rfl;have c1:=hc 1 (.string X[k].2) rfl;simp only[uP] at c0;have hl:=HA.out _ (wJ hlt);obtain⟨x,hxe⟩:∃x,x=X[k]:=⟨_,rfl⟩;rw[<- hxe] at c0 c1 hl;obtain⟨xk,xv⟩:=x;simp only at c0 c1 hl;have e1:Op.bytesLess xk.toList key.toList=true:=hl;subst hqa;have i1:(0:Int)<=(k:Int):=by omega
   have i2:(k:Int)<(n:Int):=by omega
   have HR2:=oh (HR.out.alloc (.cells #[.string xk,.string xv] 111));clear hc hx hxe hl hlt2 hln;go_wp2_with fail;go_roundg (gk-1)
   case measure=>omega
   case rel=>exact⟨k+1,by omega,by go_num,HR2⟩
  .have hke:k=X.length:=by omega
   rcases HB.out with ⟨rfl,hY⟩|⟨rfl,x,Y',hY,hxk⟩
   .by_cases hy:Y=[]
    .have hnn:n=X.length:=by rw[hy] at hln;simpa using hln
     have HRR:=HR;have HNN:=oh hnn;have i2:¬ (k:Int)<(n:Int):=by omega
     have HKE:=oh hke;clear hY hnn hke hy hln hkm hlt;go_wp2_with fail;go_ret2
     have hnn:=HNN.out;subst hnn;exact⟨rfl,HRR.out⟩
    .obtain⟨y,Y',rfl⟩:∃y Y',Y=y :: Y':=by cases Y with|nil=>exact absurd rfl hy|cons y Y'=>exact⟨y,Y',rfl⟩
     have hlt2:k<(X++y :: Y').length:=by rw[hke];simp
     obtain⟨qb,qoff,hqa,hc⟩:=HL.out.elem hlt2 HR.out;have hx:(X++y :: Y')[k]=y:=by
      apply Option.some.inj
      rw[<- uB hlt2,hke,wI (uK _),Nat.sub_self];rfl
     rw[hx] at hc;have c0:=hc 0 (.string y.1) rfl;have c1:=hc 1 (.string y.2) rfl;simp only[uP] at c0;have hl:=hY y uG;obtain⟨yk,yv⟩:=y;simp only at c0 c1 hl;have e1:Op.bytesLess yk.toList key.toList=false:=zBS hl;have e2:(yk.toList == key.toList)=false:=uU.2 (λe=>zER hl (toList_inj e).symm);subst hqa;have i1:(0:Int)<=(k:Int):=by omega
     have i2:(k:Int)<(n:Int):=by rw[uD] at hln;omega
     have HR2:=oh (HR.out.alloc (.cells #[.string yk,.string yv] 111));have HQ:Hid (∀q,zG w ((wr.alloc (.cells #[.string yk,.string yv] 111)).drewN q)):=oh λq=>HR2.out.trans ((zA.refl _ _).drewN q)
     clear hc hx hl hlt2 hY hln hy;subst hke;go_wp2_with fail;go_quiet (fail)
     go_wp2_with fail;go_ret2
     exact⟨rfl,HQ.out _⟩
   .subst hY;have hlt2:k<(X++x :: Y').length:=by rw[hke];simp
    obtain⟨qb,qoff,hqa,hc⟩:=HL.out.elem hlt2 HR.out;have hx:(X++x :: Y')[k]=x:=by
     apply Option.some.inj
     rw[<- uB hlt2,hke,wI (uK _),Nat.sub_self];rfl
    rw[hx] at hc;have c0:=hc 0 (.string x.1) rfl;have c1:=hc 1 (.string x.2) rfl;simp only[uP] at c0;obtain⟨xk,xv⟩:=x;simp only at c0 c1 hxk;subst hxk;have e1:Op.bytesLess xk.toList xk.toList=false:=zAs xk;subst hqa;have i1:(0:Int)<=(k:Int):=by omega
    have i2:(k:Int)<(n:Int):=by rw[uD] at hln;omega
    have HR2:=oh (HR.out.alloc (.cells #[.string xk,.string xv] 111));have HQ:Hid (∀q,zG w ((wr.alloc (.cells #[.string xk,.string xv] 111)).drewN q)):=oh λq=>HR2.out.trans ((zA.refl _ _).drewN q)
    clear hc hx hlt2 hln;subst hke;go_wp2_with fail;go_quiet (fail)
    go_wp2_with fail;go_ret2
    exact⟨rfl,HQ.out _⟩
end
end
section
open Go.RowKit
theorem zDe:zCZ zEG 5:=⟨λ_=>rfl,by intro x u hu;simp[zEG] at hu;rcases hu with rfl|rfl|rfl|rfl|rfl <;> rfl⟩
theorem Tryz.mkCh:(Tryz.prog.info? 106).map (λi=>(i.zero,i.size,i.bytes))=some (some (.agg #[.string ⟨#[]⟩,.bool false,.bool false,.string ⟨#[]⟩,.string ⟨#[]⟩]),5,56):=by kernel_rfl
theorem Tryz.elCh:ElT Tryz.prog 102 106 (.agg #[.string ⟨#[]⟩,.bool false,.bool false,.string ⟨#[]⟩,.string ⟨#[]⟩]) 5 56:=⟨Tryz.underlying102,Tryz.mkCh,rfl,by decide,by decide⟩
end
section
open Go.RowKit
attribute [local go_sem ↓] Go.wp_at_zero Go.wp_at_succ
section
variable {F:Nat->Prop}{ad:Nat->Addr}{w w':World}
theorem Sl.tl{α:Type}{sz:Nat}{enc:α->List Value}{b off n c:Nat}{x:α}{l:List α}(h:Sl F w sz enc (.slice (some ⟨b,off,none⟩) n c) (x :: l)) :
  (c=1->Sl F w sz enc (.slice (some ⟨b,off,none⟩) (n-1) (c-1)) l)/\(¬ c=1->Sl F w sz enc (.slice (some ⟨b,off+sz,none⟩) (n-1) (c-1)) l):=by
 obtain⟨a,cap,he,h1,h2,h3,h4⟩:=id h;simp only[Value.slice.injEq] at he;obtain⟨rfl,rfl,rfl⟩:=he;rw[uD] at h1 h3;refine⟨λhc=>?_,λhc=>?_⟩
 .have hl:l=[]:=rW.1 (by omega);subst hl;exact⟨some ⟨b,off,none⟩,c-1,by simp,by simp,by unfold maxLen at *;omega,by simp,.inl rfl⟩
 .have:=Sl.sub h 1 (l.length+1) (by omega) (by simp);simpa using this
theorem zSQ(a b:List zD)(av bv:Value)(ha:Sl F w 2 yS av a)(hb:Sl F w 2 yS bv b)(hla:a.length<=100000)(hlb:b.length<=100000) :
  Calls Tryz.prog 52 #[av,bv] w λe w'=>∃kv,e=.returned kv/\yA (λ_=>False) w' w.heap.size 106 5 zEG kv (yF a b)/\zG w w':=by
 have HA:=oh ha;have HB:=oh hb;obtain⟨aa,ac,rfl,a1,a2,a3, -⟩:=ha;obtain⟨ba,bc,rfl,b1,b2,b3, -⟩:=hb;unfold maxLen at a2 b2
 go_enter Tryz.func52, Tryz.ntmps52
 go_wp2_with fail;go_loopg [0,1,5] (a.length+b.length) (λm v0 v1 v5 wr=>∃(xs ys:List zD) (o:List ChV),xs.length+ys.length=m/\Hid (yF a b=o++yF xs ys/\o.length+xs.length+ys.length<=200000)/\Hid (Sl F w 2 yS v0 xs/\Sl F w 2 yS v1 ys/\yA (λ_=>False) wr w.heap.size 106 5 zEG v5 o/\zG w wr))
 case atStart=>exact⟨a,b,[],rfl,oh ⟨by simp,by simp;omega⟩,oh ⟨HA.out,HB.out,yA.nil _ _ _ _ _ _,zA.refl _ _⟩⟩
 case round =>
  obtain⟨xs,ys,o,hm,HQ,HS⟩:=hrel;obtain⟨xa,xc,rfl,x1,x2,x3,x4⟩:=id HS.out.1;obtain⟨ya,yc,rfl,y1,y2,y3,y4⟩:=id HS.out.2.1;obtain⟨oa,oc,rfl, -, -⟩:=HS.out.2.2.1.form;unfold maxLen at x2 y2;clear HA HB a1 a2 a3 b1 b2 b3 x4 y4;cases xs with
  | nil =>
   cases ys with
   | nil =>
    go_wp2_with fail;go_ret;have h:=HQ.out.1;rw[yF,pV,wH] at h;exact⟨_,rfl,by rw[h];exact HS.out.2.2.1,HS.out.2.2.2⟩
   | cons y ys =>
    obtain⟨yb,yo,hya,hcy⟩:=HS.out.2.1.elem (k:=0) (by simp) (zA.refl _ w);have yg0:=hcy 0 (.string y.1) rfl;have yg1:=hcy 1 (.string y.2) rfl;simp only[rL,uP] at yg0 yg1;subst hya;obtain⟨yk,yv⟩:=y;simp only at yg0 yg1;rw[uD] at y1 y3;have HTy:=oh (Sl.tl HS.out.2.1);rw[uD,uF];obtain⟨k,hk⟩:∃k,k=ys.length+1:=⟨_,rfl⟩;rw[<- hk] at y1 y3 ⊢;have Hk:=oh hk;rw[uD,<- hk] at HTy;have k1:(0:Int)<(k:Int):=by omega
    have k2:(1:Int)<=(k:Int):=by omega
    have k3:((k:Int) == 0)=false:=beq_false_of_ne (by omega);have k4:0<k:=by omega
    have k5:¬ k=0:=by omega
    clear hk hcy;go_wp2_with fail;go_quiet (fail)
    go_wp2_with fail;go_quiet (fail)
    go_wp2_with fail;generalize hw2:World.drewN (World.drewN wr _) _=w2
    have HM2:Hid (zG w w2):=oh (by rw[<- hw2];exact HS.out.2.2.2.trans (((zA.refl _ wr).drewN _).drewN _));have HOW:Hid (yA (λ_=>False) w2 w.heap.size 106 5 zEG (.slice oa o.length oc) o):=oh (by rw[<- hw2];exact HS.out.2.2.1.ext (((zA.refl _ wr).drewN _).drewN _));clear hw2;have f0:=zE (HM2.out.trans (zA.refl _ w2).drew) yg0;have y0_:=zE (HM2.out.trans ((zA.refl _ w2).alloc (.cells #[.string yk,.bool false,.bool true,.string ⟨#[]⟩,.string yv] 106)).drew) yg0;have f1:=zE (HM2.out.trans (zA.refl _ w2).drew) yg1;have y1_:=zE (HM2.out.trans ((zA.refl _ w2).alloc (.cells #[.string yk,.bool false,.bool true,.string ⟨#[]⟩,.string yv] 106)).drew) yg1;go_region_held3 (λw'=>w'.cell? ⟨yb,yo,none⟩=some (.string yk)/\w'.cell? ⟨yb,yo+1,none⟩=some (.string yv))
     (first|(with_reducible exact⟨f0,f1⟩)|(with_reducible exact⟨y0_,y1_⟩)|(with_reducible exact⟨z0,z1⟩)|go_keep)
     (first
      | (refine zBW Tryz.elCh zDe (by rfl) _ _ (by rfl) w.heap.size _ _ o [(⟨yk,false,true,emS,yv⟩:ChV)] (by rfl) (by rfl) (HOW.out.ext (by first|exact ((zA.refl _ w2).alloc _).drew|exact ((zA.refl _ w2).drew).alloc _)) (Sl.one (F:=λ_=>False) (zO (by simp)) (λf=>f)) (by have:=HQ.out.2;simp only[uD,uF];omega) (by have:=HM2.out.size;simp;omega) (λf=>f) ?_;simp only[uD,uF,uS];intro a6 c6 w6 hO6 hm6 hat6;have m6:zG w w6:=(HM2.out.trans (((zA.refl _ w2).alloc (.cells #[.string yk,.bool false,.bool true,.string ⟨#[]⟩,.string yv] 106)).drew)).trans' hm6 (λj hj h=>absurd (HOW.out.lt j h).1 (by omega));have z0:=zE m6 yg0;have z1:=zE m6 yg1)
      | fail)
    all_goals
     have HO6:=oh hO6;have HM6:=oh m6;clear hO6 hm6 hat6 m6 z0 f0 y0_ z1 f1 y1_;go_wp2_with fail
    all_goals
     go_roundg (([]:List zD).length+ys.length)
     case measure=>simp only[uD,uF] at hm ⊢;omega
     case rel=>exact⟨([]:List zD),ys,o++[⟨yk,false,true,emS,yv⟩],rfl,oh ⟨by rw[HQ.out.1];simp[yF,zOd],by have:=HQ.out.2;simp only[uD,uF,uA] at this ⊢;omega⟩,oh ⟨HS.out.1,(by first|exact HTy.out.2 (by assumption)|(have e:yc=1:=(by assumption);have q:=HTy.out.1 e;rw[e] at q;exact q)),HO6.out,HM6.out⟩⟩
  | cons x xs =>
   obtain⟨xb,xo,hxa,hcx⟩:=HS.out.1.elem (k:=0) (by simp) (zA.refl _ w);have xg0:=hcx 0 (.string x.1) rfl;have xg1:=hcx 1 (.string x.2) rfl;simp only[rL,uP] at xg0 xg1;subst hxa;obtain⟨xk,xv⟩:=x;simp only at xg0 xg1;rw[uD] at x1 x3;have HTx:=oh (Sl.tl HS.out.1);cases ys with
   | nil =>
    rw[uD,uF];obtain⟨n,hn⟩:∃n,n=xs.length+1:=⟨_,rfl⟩;rw[<- hn] at x1 x3 ⊢;have Hn:=oh hn;rw[uD,<- hn] at HTx;have n1:(0:Int)<(n:Int):=by omega
    have n2:(1:Int)<=(n:Int):=by omega
    have n3:((n:Int) == 0)=false:=beq_false_of_ne (by omega);have n4:0<n:=by omega
    have n5:¬ n=0:=by omega
    clear hn hcx;go_wp2_with fail;go_quiet (fail)
    go_wp2_with fail;generalize hw2:World.drewN wr _=w2
    have HM2:Hid (zG w w2):=oh (by rw[<- hw2];exact HS.out.2.2.2.trans ((zA.refl _ wr).drewN _));have HOW:Hid (yA (λ_=>False) w2 w.heap.size 106 5 zEG (.slice oa o.length oc) o):=oh (by rw[<- hw2];exact HS.out.2.2.1.ext ((zA.refl _ wr).drewN _));clear hw2;have f0:=zE (HM2.out.trans (zA.refl _ w2).drew) xg0;have y0_:=zE (HM2.out.trans ((zA.refl _ w2).alloc (.cells #[.string xk,.bool true,.bool false,.string xv,.string ⟨#[]⟩] 106)).drew) xg0;have f1:=zE (HM2.out.trans (zA.refl _ w2).drew) xg1;have y1_:=zE (HM2.out.trans ((zA.refl _ w2).alloc (.cells #[.string xk,.bool true,.bool false,.string xv,.string ⟨#[]⟩] 106)).drew) xg1;go_region_held3 (λw'=>w'.cell? ⟨xb,xo,none⟩=some (.string xk)/\w'.cell? ⟨xb,xo+1,none⟩=some (.string xv))
     (first|(with_reducible exact⟨f0,f1⟩)|(with_reducible exact⟨y0_,y1_⟩)|(with_reducible exact⟨z0,z1⟩)|go_keep)
     (first
      | (refine zBW Tryz.elCh zDe (by rfl) _ _ (by rfl) w.heap.size _ _ o [(⟨xk,true,false,xv,emS⟩:ChV)] (by rfl) (by rfl) (HOW.out.ext (by first|exact ((zA.refl _ w2).alloc _).drew|exact ((zA.refl _ w2).drew).alloc _)) (Sl.one (F:=λ_=>False) (zO (by simp)) (λf=>f)) (by have:=HQ.out.2;simp only[uD,uF];omega) (by have:=HM2.out.size;simp;omega) (λf=>f) ?_;simp only[uD,uF,uS];intro a6 c6 w6 hO6 hm6 hat6;have m6:zG w w6:=(HM2.out.trans (((zA.refl _ w2).alloc (.cells #[.string xk,.bool true,.bool false,.string xv,.string ⟨#[]⟩] 106)).drew)).trans' hm6 (λj hj h=>absurd (HOW.out.lt j h).1 (by omega));have z0:=zE m6 xg0;have z1:=zE m6 xg1)
      | fail)
    all_goals
     have HO6:=oh hO6;have HM6:=oh m6;clear hO6 hm6 hat6 m6 z0 f0 y0_ z1 f1 y1_;go_wp2_with fail
    all_goals
     go_roundg (xs.length+([]:List zD).length)
     case measure=>simp only[uD,uF] at hm ⊢;omega
     case rel=>exact⟨xs,([]:List zD),o++[⟨xk,true,false,xv,emS⟩],rfl,oh ⟨by rw[HQ.out.1];simp[yF,zMk],by have:=HQ.out.2;simp only[uD,uF,uA] at this ⊢;omega⟩,oh ⟨(by first|exact HTx.out.2 (by assumption)|(have e:xc=1:=(by assumption);have q:=HTx.out.1 e;rw[e] at q;exact q)),HS.out.2.1,HO6.out,HM6.out⟩⟩
   | cons y ys =>
    obtain⟨yb,yo,hya,hcy⟩:=HS.out.2.1.elem (k:=0) (by simp) (zA.refl _ w);have yg0:=hcy 0 (.string y.1) rfl;have yg1:=hcy 1 (.string y.2) rfl;simp only[rL,uP] at yg0 yg1;subst hya;obtain⟨yk,yv⟩:=y;simp only at yg0 yg1;rw[uD] at y1 y3;have HTy:=oh (Sl.tl HS.out.2.1);rw[uD,uD];obtain⟨n,hn⟩:∃n,n=xs.length+1:=⟨_,rfl⟩;rw[<- hn] at x1 x3 ⊢;have Hn:=oh hn;rw[uD,<- hn] at HTx;have n1:(0:Int)<(n:Int):=by omega
    have n2:(1:Int)<=(n:Int):=by omega
    have n3:((n:Int) == 0)=false:=beq_false_of_ne (by omega);have n4:0<n:=by omega
    have n5:¬ n=0:=by omega
    clear hn hcx;obtain⟨k,hk⟩:∃k,k=ys.length+1:=⟨_,rfl⟩;rw[<- hk] at y1 y3 ⊢;have Hk:=oh hk;rw[uD,<- hk] at HTy;have k1:(0:Int)<(k:Int):=by omega
    have k2:(1:Int)<=(k:Int):=by omega
    have k3:((k:Int) == 0)=false:=beq_false_of_ne (by omega);have k4:0<k:=by omega
    have k5:¬ k=0:=by omega
    clear hk hcy;have x0:=zE HS.out.2.2.2 xg0;have y0:=zE HS.out.2.2.2 yg0;cases h1:yX xk yk with
    | true =>
     have HD:Hid (yF ((xk,xv) :: xs) ((yk,yv) :: ys)=⟨xk,true,false,xv,emS⟩ :: yF xs ((yk,yv) :: ys)):=oh (by rw[yF,if_pos h1];rfl);have h2:Op.bytesLess xk.toList yk.toList=true:=h1;clear h1;go_wp2_with fail;go_quiet (fail)
     go_wp2_with fail;clear h2 x0 y0;generalize hw2:World.drewN wr _=w2
     have HM2:Hid (zG w w2):=oh (by rw[<- hw2];exact HS.out.2.2.2.trans ((zA.refl _ wr).drewN _));have HOW:Hid (yA (λ_=>False) w2 w.heap.size 106 5 zEG (.slice oa o.length oc) o):=oh (by rw[<- hw2];exact HS.out.2.2.1.ext ((zA.refl _ wr).drewN _));clear hw2;have f0:=zE (HM2.out.trans (zA.refl _ w2).drew) xg0;have y0_:=zE (HM2.out.trans ((zA.refl _ w2).alloc (.cells #[.string xk,.bool true,.bool false,.string xv,.string ⟨#[]⟩] 106)).drew) xg0;have f1:=zE (HM2.out.trans (zA.refl _ w2).drew) xg1;have y1_:=zE (HM2.out.trans ((zA.refl _ w2).alloc (.cells #[.string xk,.bool true,.bool false,.string xv,.string ⟨#[]⟩] 106)).drew) xg1;go_region_held3 (λw'=>w'.cell? ⟨xb,xo,none⟩=some (.string xk)/\w'.cell? ⟨xb,xo+1,none⟩=some (.string xv))
      (first|(with_reducible exact⟨f0,f1⟩)|(with_reducible exact⟨y0_,y1_⟩)|(with_reducible exact⟨z0,z1⟩)|go_keep)
      (first
       | (refine zBW Tryz.elCh zDe (by rfl) _ _ (by rfl) w.heap.size _ _ o [(⟨xk,true,false,xv,emS⟩:ChV)] (by rfl) (by rfl) (HOW.out.ext (by first|exact ((zA.refl _ w2).alloc _).drew|exact ((zA.refl _ w2).drew).alloc _)) (Sl.one (F:=λ_=>False) (zO (by simp)) (λf=>f)) (by have:=HQ.out.2;simp only[uD,uF];omega) (by have:=HM2.out.size;simp;omega) (λf=>f) ?_;simp only[uD,uF,uS];intro a6 c6 w6 hO6 hm6 hat6;have m6:zG w w6:=(HM2.out.trans (((zA.refl _ w2).alloc (.cells #[.string xk,.bool true,.bool false,.string xv,.string ⟨#[]⟩] 106)).drew)).trans' hm6 (λj hj h=>absurd (HOW.out.lt j h).1 (by omega));have z0:=zE m6 xg0;have z1:=zE m6 xg1)
       | fail)
     all_goals
      have HO6:=oh hO6;have HM6:=oh m6;clear hO6 hm6 hat6 m6 z0 f0 y0_ z1 f1 y1_;go_wp2_with fail
     all_goals
      go_roundg (xs.length+((yk,yv) :: ys).length)
      case measure=>simp only[uD] at hm ⊢;omega
      case rel=>exact⟨xs,((yk,yv) :: ys),o++[⟨xk,true,false,xv,emS⟩],rfl,oh ⟨by rw[HQ.out.1,HD.out];simp,by have:=HQ.out.2;simp only[uD,uF,uA] at this ⊢;omega⟩,oh ⟨(by first|exact HTx.out.2 (by assumption)|(have e:xc=1:=(by assumption);have q:=HTx.out.1 e;rw[e] at q;exact q)),(by have h:=HS.out.2.1;rw[uD,<- Hk.out] at h;exact h),HO6.out,HM6.out⟩⟩
    | false =>
     have h2:Op.bytesLess xk.toList yk.toList=false:=h1;cases h3:yX yk xk with
     | true =>
      have HD:Hid (yF ((xk,xv) :: xs) ((yk,yv) :: ys)=⟨yk,false,true,emS,yv⟩ :: yF ((xk,xv) :: xs) ys):=oh (by rw[yF,if_neg (by rw[h1];simp),if_pos h3];rfl);have h4:Op.bytesLess yk.toList xk.toList=true:=h3;clear h1 h3;go_wp2_with fail;go_quiet (fail)
      go_wp2_with fail;go_quiet (fail)
      go_wp2_with fail;clear h2 h4 x0 y0;generalize hw2:World.drewN (World.drewN wr _) _=w2
      have HM2:Hid (zG w w2):=oh (by rw[<- hw2];exact HS.out.2.2.2.trans (((zA.refl _ wr).drewN _).drewN _));have HOW:Hid (yA (λ_=>False) w2 w.heap.size 106 5 zEG (.slice oa o.length oc) o):=oh (by rw[<- hw2];exact HS.out.2.2.1.ext (((zA.refl _ wr).drewN _).drewN _));clear hw2;have f0:=zE (HM2.out.trans (zA.refl _ w2).drew) yg0;have y0_:=zE (HM2.out.trans ((zA.refl _ w2).alloc (.cells #[.string yk,.bool false,.bool true,.string ⟨#[]⟩,.string yv] 106)).drew) yg0;have f1:=zE (HM2.out.trans (zA.refl _ w2).drew) yg1;have y1_:=zE (HM2.out.trans ((zA.refl _ w2).alloc (.cells #[.string yk,.bool false,.bool true,.string ⟨#[]⟩,.string yv] 106)).drew) yg1;go_region_held3 (λw'=>w'.cell? ⟨yb,yo,none⟩=some (.string yk)/\w'.cell? ⟨yb,yo+1,none⟩=some (.string yv))
       (first|(with_reducible exact⟨f0,f1⟩)|(with_reducible exact⟨y0_,y1_⟩)|(with_reducible exact⟨z0,z1⟩)|go_keep)
       (first
        | (refine zBW Tryz.elCh zDe (by rfl) _ _ (by rfl) w.heap.size _ _ o [(⟨yk,false,true,emS,yv⟩:ChV)] (by rfl) (by rfl) (HOW.out.ext (by first|exact ((zA.refl _ w2).alloc _).drew|exact ((zA.refl _ w2).drew).alloc _)) (Sl.one (F:=λ_=>False) (zO (by simp)) (λf=>f)) (by have:=HQ.out.2;simp only[uD,uF];omega) (by have:=HM2.out.size;simp;omega) (λf=>f) ?_;simp only[uD,uF,uS];intro a6 c6 w6 hO6 hm6 hat6;have m6:zG w w6:=(HM2.out.trans (((zA.refl _ w2).alloc (.cells #[.string yk,.bool false,.bool true,.string ⟨#[]⟩,.string yv] 106)).drew)).trans' hm6 (λj hj h=>absurd (HOW.out.lt j h).1 (by omega));have z0:=zE m6 yg0;have z1:=zE m6 yg1)
        | fail)
      all_goals
       have HO6:=oh hO6;have HM6:=oh m6;clear hO6 hm6 hat6 m6 z0 f0 y0_ z1 f1 y1_;go_wp2_with fail
      all_goals
       go_roundg (((xk,xv) :: xs).length+ys.length)
       case measure=>simp only[uD] at hm ⊢;omega
       case rel=>exact⟨((xk,xv) :: xs),ys,o++[⟨yk,false,true,emS,yv⟩],rfl,oh ⟨by rw[HQ.out.1,HD.out];simp,by have:=HQ.out.2;simp only[uD,uF,uA] at this ⊢;omega⟩,oh ⟨(by have h:=HS.out.1;rw[uD,<- Hn.out] at h;exact h),(by first|exact HTy.out.2 (by assumption)|(have e:yc=1:=(by assumption);have q:=HTy.out.1 e;rw[e] at q;exact q)),HO6.out,HM6.out⟩⟩
     | false =>
      have h4:Op.bytesLess yk.toList xk.toList=false:=h3;have HKE:Hid (xk=yk):=oh (by rcases zF2 xk yk with h|h|h;rw[h] at h1;cases h1;exact h;rw[h] at h3;cases h3);have x1':=zE HS.out.2.2.2 xg1;have y1':=zE HS.out.2.2.2 yg1;by_cases hv:xv=yv
      .have HD:Hid (yF ((xk,xv) :: xs) ((yk,yv) :: ys)=yF xs ys):=oh (by rw[yF,if_neg (by rw[h1];simp),if_neg (by rw[h3];simp),if_pos hv]);have h5:(xv.toList == yv.toList)=true:=by rw[hv];simp
       clear h1 h3 hv;go_wp2_with fail;go_quiet (fail)
       go_wp2_with fail;go_quiet (fail)
       go_wp2_with fail;go_quiet (fail)
       go_wp2_with fail;go_quiet (fail)
       have HX:Hid (∀W,zG wr W->zG w W):=oh (λW m=>HS.out.2.2.2.trans m);go_wp2_with fail;all_goals
        go_roundg (xs.length+ys.length)
        case measure=>simp only[uD] at hm ⊢;omega
        case rel=>exact⟨xs,ys,o,rfl,oh ⟨by rw[HQ.out.1,HD.out],by have:=HQ.out.2;simp only[uD] at this ⊢;omega⟩,oh ⟨(by first|exact HTx.out.2 (by assumption)|(have e:xc=1:=(by assumption);have q:=HTx.out.1 e;rw[e] at q;exact q)),(by first|exact HTy.out.2 (by assumption)|(have e:yc=1:=(by assumption);have q:=HTy.out.1 e;rw[e] at q;exact q)),HS.out.2.2.1.ext (by first|exact (zA.refl _ wr).drewN _|exact ((((zA.refl _ wr).drewN _).drewN _).drewN _).drewN _),HX.out _ (by first|exact (zA.refl _ wr).drewN _|exact ((((zA.refl _ wr).drewN _).drewN _).drewN _).drewN _)⟩⟩
      .have HD:Hid (yF ((xk,xv) :: xs) ((yk,yv) :: ys)=⟨yk,true,true,xv,yv⟩ :: yF xs ys):=oh (by rw[yF,if_neg (by rw[h1];simp),if_neg (by rw[h3];simp),if_neg hv,<- HKE.out];rfl);have h5:(xv.toList == yv.toList)=false:=uU.2 (λe=>hv (toList_inj e));clear h1 h3 hv;go_wp2_with fail;go_quiet (fail)
       go_wp2_with fail;go_quiet (fail)
       go_wp2_with fail;go_quiet (fail)
       go_wp2_with fail;clear h2 h4 h5 x0 y0 x1' y1';generalize hw2:World.drewN (World.drewN (World.drewN wr _) _) _=w2
       have HM2:Hid (zG w w2):=oh (by rw[<- hw2];exact HS.out.2.2.2.trans ((((zA.refl _ wr).drewN _).drewN _).drewN _));have HOW:Hid (yA (λ_=>False) w2 w.heap.size 106 5 zEG (.slice oa o.length oc) o):=oh (by rw[<- hw2];exact HS.out.2.2.1.ext ((((zA.refl _ wr).drewN _).drewN _).drewN _));clear hw2;have f0:=zE (HM2.out.trans (zA.refl _ w2).drew) yg0;have y0_:=zE (HM2.out.trans ((zA.refl _ w2).alloc (.cells #[.string yk,.bool true,.bool true,.string xv,.string yv] 106)).drew) yg0;have f1:=zE (HM2.out.trans (zA.refl _ w2).drew) xg1;have y1_:=zE (HM2.out.trans ((zA.refl _ w2).alloc (.cells #[.string yk,.bool true,.bool true,.string xv,.string yv] 106)).drew) xg1;have f2:=zE (HM2.out.trans (zA.refl _ w2).drew) yg1;have y2_:=zE (HM2.out.trans ((zA.refl _ w2).alloc (.cells #[.string yk,.bool true,.bool true,.string xv,.string yv] 106)).drew) yg1;go_region_held3 (λw'=>w'.cell? ⟨yb,yo,none⟩=some (.string yk)/\w'.cell? ⟨xb,xo+1,none⟩=some (.string xv)/\w'.cell? ⟨yb,yo+1,none⟩=some (.string yv))
        (first|(with_reducible exact⟨f0,f1,f2⟩)|(with_reducible exact⟨y0_,y1_,y2_⟩)|(with_reducible exact⟨z0,z1,z2⟩)|go_keep)
        (first
         | (refine zBW Tryz.elCh zDe (by rfl) _ _ (by rfl) w.heap.size _ _ o [(⟨yk,true,true,xv,yv⟩:ChV)] (by rfl) (by rfl) (HOW.out.ext (by first|exact ((zA.refl _ w2).alloc _).drew|exact ((zA.refl _ w2).drew).alloc _)) (Sl.one (F:=λ_=>False) (zO (by simp)) (λf=>f)) (by have:=HQ.out.2;simp only[uD,uF];omega) (by have:=HM2.out.size;simp;omega) (λf=>f) ?_;simp only[uD,uF,uS];intro a6 c6 w6 hO6 hm6 hat6;have m6:zG w w6:=(HM2.out.trans (((zA.refl _ w2).alloc (.cells #[.string yk,.bool true,.bool true,.string xv,.string yv] 106)).drew)).trans' hm6 (λj hj h=>absurd (HOW.out.lt j h).1 (by omega));have z0:=zE m6 yg0;have z1:=zE m6 xg1;have z2:=zE m6 yg1)
         | fail)
       all_goals
        have HO6:=oh hO6;have HM6:=oh m6;clear hO6 hm6 hat6 m6 z0 f0 y0_ z1 f1 y1_ z2 f2 y2_;go_wp2_with fail
       all_goals
        go_quiet (fail)
        go_wp2_with fail
       all_goals
        go_roundg (xs.length+ys.length)
        case measure=>simp only[uD] at hm ⊢;omega
        case rel=>exact⟨xs,ys,o++[⟨yk,true,true,xv,yv⟩],rfl,oh ⟨by rw[HQ.out.1,HD.out];simp,by have:=HQ.out.2;simp only[uD,uF,uA] at this ⊢;omega⟩,oh ⟨(by first|exact HTx.out.2 (by assumption)|(have e:xc=1:=(by assumption);have q:=HTx.out.1 e;rw[e] at q;exact q)),(by first|exact HTy.out.2 (by assumption)|(have e:yc=1:=(by assumption);have q:=HTy.out.1 e;rw[e] at q;exact q)),(by first|exact HO6.out.ext ((zA.refl _ w6).drewN _)|exact HO6.out),(by first|exact HM6.out.trans ((zA.refl _ w6).drewN _)|exact HM6.out)⟩⟩
end
end
end Go.Proofs.YtdnbmdghmmpgcaaGreatDoor
