import Derived.Test.YtchklfmggpconaaGreatDoorK28
namespace Go.Proofs.YtchklfmggpconaaGreatDoor
open Go.RowKit
def vB(gen:Nat):GA->List Nat->List (zF × ByteArray)->StA (List jQ)
 | G,l,[]=>.inl (G,l,[])
 | G,l,x :: r=>match qW G l 0 x.1 with
  | none=>.inr (zAp G x.1)
  | some i=>match vB gen (yD G l gen 0 x.1) (yO G l 0 x.1) r with
   | .inr k=>.inr k
   | .inl (G2,l2,ks)=>.inl (G2,l2,(i,x.2) :: ks)
theorem zFL(G:GA)(l:List Nat)(gen old:Nat)(n:zF):(yD G l gen old n).size=G.size/\(yD G l gen old n).blocks=G.blocks/\(yD G l gen old n).cost<=G.cost+1:=by
 unfold yD;split
 .exact⟨rfl,rfl,by omega⟩
 .unfold vV;split
  .exact⟨rfl,rfl,uJ _⟩
  .split
   .exact⟨rfl,rfl,uJ _⟩
   .exact⟨rfl,rfl,uJ _⟩
def yQ{α:Type}(fst:α->ByteArray)(g:List α):ByteArray:=match g with|[]=>e0|x :: _=>fst x
theorem zLR{α:Type}(fst:α->ByteArray){g:List α}{r:List (List α)}(h:g≠[]):yQ fst ((g :: r).flatten)=yQ fst g:=by
 cases g with
 | nil=>exact absurd rfl h
 | cons x g=>rfl
structure zQF{α:Type}(mk:List α->zF)(fst:α->ByteArray)(gen d:Nat)(U:GA->ByteArray->Option ByteArray->List α->List zE->List Nat->Prop):Prop where
 split:∀{G lo hi g1 g2 ps q},g1≠[]->g2≠[]->U G lo hi (g1++g2) ps q->∃l1 l2 q1 q2,U G lo (some (yQ fst g2)) g1 l1 q1/\U G (yQ fst g2) hi g2 l2 q2/\ps=l1++l2/\q=q1++q2/\inB lo hi (yQ fst g2)
 body:∀{G lo hi g ps q},g≠[]->U G lo hi g ps q->zG0 G gen (vJ G gen d) d lo hi (mk g) ps q
 mono:∀{G G' lo hi g ps q},G'.blocks=G.blocks->G'.size=G.size->(∀i∈q,G'.view i=G.view i)->U G lo hi g ps q->U G' lo hi g ps q
theorem zEL{α:Type}{mk:List α->zF}{fst:α->ByteArray}{gen d:Nat}{U:GA->ByteArray->Option ByteArray->List α->List zE->List Nat->Prop}(hU:zQF mk fst gen d U) :
  ∀(gs:List (List α)) (G:GA) (l:List Nat) (lo:ByteArray) (hi:Option ByteArray) (ps:List zE) (q:List Nat),gs≠[]->zAK G l->(∀g∈gs,g≠[])->(∀g∈gs,zM (mk g)=true/\zD (mk g)<=(G.size:Int)-24) ->
   U G lo hi gs.flatten ps q->q.Nodup->vX l (· ∈ q)->(∀x∈q,2<=x) ->
   (vB gen G l (gs.map λg=>(mk g,yQ fst g))=.inr 3/\zAJ l<(gs.length:Int)) \/
   ∃G' l' ks q',vB gen G l (gs.map λg=>(mk g,yQ fst g))=.inl (G',l',ks)/\ks.map (·.2)=gs.map (yQ fst)/\Upd G l (· ∈ q) G' l' (· ∈ q')/\q'.Nodup/\(∀x∈q',2<=x)/\zAK G' l'/\vX l' (· ∈ q') /\
    qF (vJ G' gen (d+1)) lo hi (ks.tail.map (·.2)) (ks.map λk=>(k.1:Int)) ps q'/\q'.length=q.length+gs.length/\G'.cost<=G.cost+gs.length
 | [],_,_,_,_,_,_,hne,_,_,_,_,_,_,_=>absurd rfl hne
 | g :: r,G,l,lo,hi,ps,q,_,hc,hg,hf,hu0,hq,hu,h2=>by
  have hgne:=hg g uF;obtain⟨hr,hw⟩:=hf g uF;rw[uW,vB];cases hd:qW G l 0 (mk g) with
  | none =>
   refine .inl ⟨by simp only;unfold zAp;rw[if_pos ⟨hr,hw⟩],?_⟩;have:=zCl hd ⟨hr,hw⟩ (.inl rfl);simp only[uD];omega
  | some i =>
   simp only;have hphi:=(zEH (gen:=gen) (G:=G) (l:=l) (.inl rfl) hd (by rw[hc.low.1];simp)).2.1;rw[if_pos rfl] at hphi;by_cases hre:r=[]
   .subst hre;simp only[wT,tO,wR] at hu0;obtain⟨b1,b2,b3,b4,b5,b6,_⟩:=zEd (gen:=gen) hc (.inl rfl) hd hr (hU.body hgne hu0) hq hu (λh=>absurd rfl h) h2;refine .inr ⟨_,_,[(i,yQ fst g)],i :: q,rfl,rfl,b1.iff (λk=>by simp) (λk=>by rw[uN]),b3,λx hx=>?_,b5,λk hk=>b6 k (uN.1 hk),.one b2,by simp,(zFL G l gen 0 (mk g)).2.2⟩;rcases uN.1 hx with rfl|hx
    .exact b4
    .exact h2 x hx
   .obtain⟨g2,r2,rfl⟩:∃g2 r2,r=g2 :: r2:=tM hre;have hg2:=hg g2 (by simp);rw[wT] at hu0;obtain⟨l1,l2,q1,q2,u1,u2,rfl,rfl,hin⟩:=hU.split hgne (by
     rw[wT];intro h;exact hg2 (tY.1 h).1) hu0
    rw[zLR fst hg2] at u1 u2 hin;have hnd:=wD.1 hq;have hu1:vX l (λk=>k∈q1):=λk hk=>hu k (by simp[hk])
    have hu2:vX l (λk=>k∈q2):=λk hk=>hu k (by simp[hk])
    obtain⟨b1,b2,b3,b4,b5,b6,_⟩:=zEd (gen:=gen) hc (.inl rfl) hd hr (hU.body hgne u1) hnd.1 hu1 (λh=>absurd rfl h) (λx hx=>h2 x (by simp[hx]));have b1':=b1.iff (A':=λk=>k∈q1) (A1':=λk=>k∈i :: q1) (λk=>by simp) (λk=>by rw[uN]);have hdis:∀k∈q2,¬ (k∈q1):=λk hk h=>hnd.2.2 k h k hk rfl
    obtain⟨v1,v2⟩:=b1'.views hdis hu2;rcases zEL hU (g2 :: r2) _ _ (yQ fst g2) hi l2 q2 (by simp) b5 (λx hx=>hg x (uI _ hx)) (λx hx=>by rw[b1.sz];exact hf x (uI _ hx)) (hU.mono b1.bl b1.sz (λk hk=>(v1 k hk).1) u2) hnd.2.1 v2 (λx hx=>h2 x (by simp[hx])) with ⟨c1,c2⟩|⟨G2,l2',ks,q',c1,c2,c3,c4,c5,c6,c7,c8,c9,c10⟩
    .refine .inl ⟨by rw[c1],?_⟩;simp only[uD] at c2 ⊢;omega
    .rw[c1];have hks:ks≠[]:=by
      intro h;rw[h] at c2;simp at c2
     obtain⟨k0,kr,rfl⟩:=tM hks;have hk0:k0.2=yQ fst g2:=by
      simp only[uW,List.cons.injEq] at c2;exact c2.1
     have huse1:vX (yO G l 0 (mk g)) (λk=>k∈i :: q1):=λk hk=>b6 k (uN.1 hk)
     have hdi:∀k∈i :: q1,¬ (k∈q2):=λk hk h=>(v1 k h).2.2 hk
     obtain⟨w1,w2⟩:=c3.views hdi huse1;have hT:=vJ.mono (G':=G2) (uJ gen) c3.bl c3.sz (d+1) _ _ _ _ _ (λk hk=>(w1 k hk).1) b2;refine .inr ⟨G2,l2',(i,yQ fst g) :: k0 :: kr,(i :: q1)++q',rfl,by have c2':(k0 :: kr).map (·.2)=(g2 :: r2).map (yQ fst):=c2;simp only[uW] at c2' ⊢;rw[c2'],?_,?_,λx hx=>?_,c6,λk hk=>?_,?_,?_,?_⟩
     .have f1:=b1'.frame (B:=λk=>k∈q2) (λk hk=>⟨hdis k hk,hu2.ne0 hk⟩);have f2:=c3.frame (B:=λk=>k∈i :: q1) (λk hk=>⟨hdi k hk,huse1.ne0 hk⟩);have f1':=f1.iff (A':=λk=>k∈q1++q2) (A1':=λk=>k∈(i :: q1)++q2) (λk=>uG) (λk=>uG);have f2':=f2.iff (A':=λk=>k∈(i :: q1)++q2) (A1':=λk=>k∈(i :: q1)++q') (λk=>by rw[uG];exact or_comm) (λk=>by rw[uG];exact or_comm);exact f1'.trans f2' hu
     .refine wD.2 ⟨b3,c4,λx hx y hy e=>?_⟩;subst e;exact (w1 x hx).2.2 hy
     .rcases uG.1 hx with hx|hx
      .rcases uN.1 hx with rfl|hx
       .exact b4
       .exact h2 x (by simp[hx])
      .exact c5 x hx
     .rcases uG.1 hk with hk|hk
      .exact w2 k hk
      .exact c7 k hk
     .have hj:=qF.join c8 (.one hT) hin;simp only[pF,uW,uT,wN] at hj ⊢;rw[hk0];exact hj
     .simp only[uC,uD] at c9 ⊢;omega
     .have:=(zFL G l gen 0 (mk g)).2.2;simp only[uD] at c10 ⊢;omega
def UL(gen:Nat)(G:GA)(lo:ByteArray)(hi:Option ByteArray)(es:List zI)(ps:List zE)(q:List Nat):Prop:=vM G gen es ps q/\yZ ps/\∀x∈ps,inB lo hi x.1
def UI(gen d:Nat)(G:GA)(lo:ByteArray)(hi:Option ByteArray)(ks:List jQ)(ps:List zE)(q:List Nat):Prop:=qF (vJ G gen d) lo hi (ks.tail.map (·.2)) (ks.map λk=>(k.1:Int)) ps q
theorem zRF(gen:Nat):zQF jD (·.key) gen 0 (UL gen):=by
 refine⟨λ{G lo hi g1 g2 ps q} h1 h2 h=>?_,λ{G lo hi g ps q} hne h=>?_,λ{G G' lo hi g ps q} hb hs hv h=>⟨h.1.mono (uJ _) hb hs hv,h.2⟩⟩
 .obtain⟨he,hs,hi'⟩:=h;obtain⟨l1,l2,q1,q2,e1,e2,rfl,rfl⟩:=vM.split g1 he;obtain⟨e,g2,rfl⟩:=tM h2;have hp:=rN.1 hs;generalize hgg:e :: g2=gg at e2
  cases e2 with
  | nil=>cases hgg
  | @cons e' x ids es' l2 q2 k1 k2 k3 =>
   injection hgg with k4 k5;subst k4 k5;have hf:yQ (·.key) (e :: g2)=x.1:=k1;rw[hf];have hp2:=wV.1 hp.2.1;refine⟨l1,x :: l2,q1,ids++q2,⟨e1,hp.1,λy hy=>⟨(hi' y (by simp[hy])).1,λs hs=>?_⟩⟩,⟨.cons k1 k2 k3,hp.2.1,λy hy=>⟨?_,(hi' y (by simp[hy])).2⟩⟩,rfl,rfl,hi' x (by simp)⟩
   .injection hs with hs;subst hs;exact hp.2.2 y hy x uF
   .rcases uN.1 hy with rfl|hy
    .exact jJ _
    .exact zBR (hp2.1 y hy)
 .obtain⟨he,hs,hi'⟩:=h;refine .inl ⟨rfl,rfl,?_,he,hi'⟩;intro hps;have:=he.len;rw[hps] at this;exact hne (wL.1 (by simpa using this))
theorem qF.pairw{G:GA}{gen d:Nat}{lo:ByteArray}{hi:Option ByteArray}{kk:List ByteArray}{cc:List Int}{ps:List zE}{q:List Nat}(h:qF (vJ G gen d) lo hi kk cc ps q):kk.Pairwise λa b=>qJ a b=true :=
 (h.rise (vJ.bounds d) (vJ.ne d)).1
theorem zRG(gen d:Nat):zQF mkI (·.2) gen (d+1) (UI gen (d+1)):=by
 refine⟨λ{G lo hi g1 g2 ps q} h1 h2 h=>?_,λ{G lo hi g ps q} hne h=>.inr ⟨rfl,h⟩,λ{G G' lo hi g ps q} hb hs hv h=>?_⟩
 .unfold UI at h;obtain⟨k,g2,rfl⟩:=tM h2;rw[zBV h1,wF,wF,uW] at h;have hpw:=h.pairw;obtain⟨l1,l2,q1,q2,k1,k2,e1,e2,e3⟩:=qF.split _ h (by
   have:=tE.2 h1;simp only[uU,rI];omega) hpw
  exact⟨l1,l2,q1,q2,k1,k2,e1,e2,e3⟩
 .exact qF.mono h (λlo hi c l p hp ht=>vJ.mono (uJ _) hb hs (d+1) lo hi c l p (λi hi=>hv i (hp i hi)) ht)
theorem zHs{es:List zI}{z:Int}(hz:232<=z)(hz2:z<=1000)(h:zCM es):∀g∈zV jD z es,g≠[]/\zM (jD g)=true/\zD (jD g)<=z:=by
 have hone:∀e∈es,zD (jD [e])<=z:=λe he=>by
  rw[jM];have:=zBS (h.1 e he);simp only[zY];omega
 have key:∀g∈zV jD z es,g≠[]/\zD (jD g)<=z:=by
  have hne:=zA2 jD z es [] (by simp);have hfit:=zAl jD z (λx=>x∈es) (λx hx=>hone x hx) es [] (λ_ h=>h) (by simp);have hflat:=vN jD z es [];simp only[tO,uT] at hflat;unfold zV;rcases zBU jD (z:=z) (yP jD z [] es) with e|⟨r,a,b,e0,hl,⟨hw,e⟩|⟨hw,k,hk,e⟩⟩
  .rw[e];exact λg hg=>⟨hne g hg,hfit g hg⟩
  .rw[e0] at hne hfit;rw[e];intro g hg;rcases uG.1 hg with hg|hg
   .exact⟨hne g (by simp[hg]),hfit g (by simp[hg])⟩
   .simp at hg;subst hg;exact⟨λhh=>hne a (by simp) (tY.1 hh).1,hw⟩
  .rw[e0] at hne hfit hflat;rw[e];have hab:zCM (a++b):=h.sub (by rw[<- hflat];simp);obtain⟨k',c1,c2,c3,c4,c5⟩:=zNm hz hz2 hab (hfit a (by simp)) hl hw;rw[hk] at c1;injection c1 with c1;subst c1;intro g hg;rcases uG.1 hg with hg|hg
   .exact⟨hne g (by simp[hg]),hfit g (by simp[hg])⟩
   .simp only[uN,tX,or_false] at hg;rcases hg with rfl|rfl
    .exact⟨λhh=>by have:=congrArg List.length hh;rw[uP] at this;simp only[uE] at this;omega,c4⟩
    .exact⟨λhh=>by have:=congrArg List.length hh;rw[u0] at this;simp only[uE] at this;omega,c5⟩
 have hflat:(zV jD z es).flatten=es:=by
  unfold zV;rw[zFJ,vN];rfl
 intro g hg;obtain⟨h1,h2⟩:=key g hg;have hsub:g.Sublist es:=by rw[<- hflat];exact List.sublist_flatten_of_mem hg
 have hlen:=zBj g;rw[jM] at h2;exact⟨h1,zDN (h.sub hsub) (by omega),by rw[jM];exact h2⟩
theorem zMn{α:Type}(out:List (List α)):out=[]\/(∃g,out=[g])\/∃r a b,out=r++[a,b]:=by
 rcases List.eq_nil_or_concat out with rfl|⟨r,b,rfl⟩
 .exact .inl rfl
 .rcases List.eq_nil_or_concat r with rfl|⟨r,a,rfl⟩
  .exact .inr (.inl ⟨b,rfl⟩)
  .exact .inr (.inr ⟨r,a,b,by simp⟩)
theorem zHt{ks:List jQ}{z:Int}(hz:232<=z)(h:zDp ks)(h2:2<=ks.length):∀g∈zV mkI z ks,2<=g.length/\zM (mkI g)=true/\zD (mkI g)<=z:=by
 have hone:∀k∈ks,zD (mkI [k])<=z:=λk hk=>by rw[zBk];simp[yA];omega
 have hne:=zA2 mkI z ks [] (by simp);have hfit:=zAl mkI z (λx=>x∈ks) (λx hx=>hone x hx) ks [] (λ_ h=>h) (by simp);have hflat:=vN mkI z ks [];have hfull:=zDn mkI z ks [] (by simp) trivial;simp only[tO,uT] at hflat;have key:∀g∈zV mkI z ks,2<=g.length/\zD (mkI g)<=z:=by
  unfold zV;generalize yP mkI z [] ks=out at hne hfit hflat hfull
  have hmid:∀(r:List (List jQ)) (g h':List jQ) (s:List (List jQ)),out=r++g :: h' :: s->2<=g.length:=λr g h' s e=>by
   obtain⟨x,t,e1,e2⟩:=hfull.at_ mkI z r g h' s e;have hg:=hne g (by rw[e];simp);have hgs:(g++[x]).Sublist ks:=by
    rw[<- hflat,e,e1];simp only[tQ,wT];refine (List.Sublist.trans ?_ (tZ _ _));refine List.Sublist.append (List.Sublist.refl _) ?_;simp
   match g,hg with
   | [k],_ =>
    rw[zBk] at e2;have:=(vC _).1 ((h.sub hgs).1 x (by simp)).2.2;simp[yA] at e2;omega
   | a :: b :: g,_=>simp
  have hpre:∀(r:List (List jQ)) (a b:List jQ),out=r++[a,b]->(∀g∈r,2<=g.length)/\2<=a.length:=λr a b e=>by
   refine⟨λg hg=>?_,hmid r a b [] e⟩;obtain⟨s,t,rfl⟩:=List.append_of_mem hg;cases t with
   | nil=>exact hmid s g a [b] (by rw[e];simp)
   | cons y t=>exact hmid s g y (t++[a,b]) (by rw[e];simp)
  rcases zMn out with rfl|⟨g,rfl⟩|⟨r,a,b,rfl⟩
  .simp at hflat;subst hflat;simp at h2
  .intro g' hg';have e:zCI mkI z [g]=[g]:=rfl;rw[e] at hg';simp at hg';subst hg';simp at hflat;exact⟨by rw[hflat];exact h2,hfit g' (by simp)⟩
  .obtain⟨p1,p2⟩:=hpre r a b rfl;have hna:=hne a (by simp);have hnb:=hne b (by simp);have hab:zDp (a++b):=h.sub (by rw[<- hflat];simp);cases hl:zAT (mkI b) (z+24) with
   | false =>
    rw[zEK mkI z r a b hl];intro g hg;refine⟨?_,hfit g hg⟩;rcases uG.1 hg with hg|hg
    .exact p1 g hg
    .simp only[uN,tX,or_false] at hg;rcases hg with rfl|rfl
     .exact p2
     .unfold zAT mkI at hl;simp only[nD,Bool.not_false,pO,Bool.false_or,Bool.or_eq_false_iff,decide_eq_false_iff_not,uU] at hl;omega
   | true =>
    rcases zDo mkI z r a b hl with ⟨hw,e⟩|⟨hw,e⟩
    .rw[e];intro g hg;rcases uG.1 hg with hg|hg
     .exact⟨p1 g hg,hfit g (by simp[hg])⟩
     .simp at hg;subst hg;exact⟨by simp;omega,hw⟩
    .obtain⟨k,c1,c2,c3,c4,c5⟩:=zQy hz hab hna hnb (hfit a (by simp)) hl hw;rw[e k c1];intro g hg;rcases uG.1 hg with hg|hg
     .exact⟨p1 g hg,hfit g (by simp[hg])⟩
     .simp only[uN,tX,or_false] at hg;rcases hg with rfl|rfl
      .exact⟨by rw[uP];omega,c4⟩
      .exact⟨by rw[u0];omega,c5⟩
 have hflat2:(zV mkI z ks).flatten=ks:=by unfold zV;rw[zFJ,vN];rfl
 intro g hg;obtain⟨k1,k2⟩:=key g hg;have hsub:g.Sublist ks:=by rw[<- hflat2];exact List.sublist_flatten_of_mem hg
 exact⟨k1,zJE (h.sub hsub) k1,k2⟩
theorem zBW{α:Type}(mk:List α->zF)(z:Int)(l:List α):(zV mk z l).flatten=l:=by unfold zV;rw[zFJ,vN];rfl
theorem zHu{α:Type}:∀(gs:List (List α)),(∀g∈gs,2<=g.length)->2 * gs.length<=gs.flatten.length
 | [],_=>by simp
 | g :: gs,h=>by
  have:=zHu gs (λx hx=>h x (uI _ hx));have:=h g uF;simp only[uD,wT,uC];omega
theorem zHv{α:Type}:∀(gs:List (List α)),(∀g∈gs,g≠[])->gs.length<=gs.flatten.length
 | [],_=>by simp
 | g :: gs,h=>by
  have:=zHv gs (λx hx=>h x (uI _ hx));have:=tE.2 (h g uF);simp only[uD,wT,uC];omega
def zBB(gen:Nat):GA->List Nat->List zE->StA (List zI)
 | G,l,[]=>.inl (G,l,[])
 | G,l,x :: ps=>match jF G l gen x.1 x.2 with
  | .inr k=>.inr k
  | .inl (G1,l1,e)=>match zBB gen G1 l1 ps with
   | .inr k=>.inr k
   | .inl (G2,l2,es)=>.inl (G2,l2,e :: es)
def zAR(gen:Nat):Nat->GA->List Nat->List jQ->StA Nat
 | 0,_,_,_=>.inr 6
 | f+1,G,l,ks=>match ks with
  | []=>.inl (G,l,0)
  | [k]=>.inl (G,l,k.1)
  | k1 :: k2 :: ks=>match vB gen G l ((zV mkI ((G.size:Int)-24) (k1 :: k2 :: ks)).map λg=>(mkI g,yQ (·.2) g)) with
   | .inr k=>.inr k
   | .inl (G',l',ks')=>zAR gen f G' l' ks'
def zEM(gen:Nat)(G:GA)(l:List Nat)(ps:List zE):StA Nat:=match zBB gen G l ps with
 | .inr k=>.inr k
 | .inl (G1,l1,es)=>match vB gen G1 l1 ((zV jD ((G.size:Int)-24) es).map λg=>(jD g,yQ (·.key) g)) with
  | .inr k=>.inr k
  | .inl (G2,l2,ks)=>zAR gen 64 G2 l2 ks
theorem zHA(gen:Nat):∀(ps:List zE) (G:GA) (l:List Nat),zAK G l->(∀x∈ps,zCN x) ->
  (zBB gen G l ps=.inr 3/\zAJ l<(chS G.size ps:Nat)) \/
  ∃G' l' es q,zBB gen G l ps=.inl (G',l',es)/\Upd G l (λ_=>False) G' l' (· ∈ q)/\q.Nodup/\(∀x∈q,2<=x)/\zAK G' l'/\vX l' (· ∈ q)/\vM G' gen es ps q/\(∀e∈es,yC e=true)/\zAJ l'=zAJ l-(chS G.size ps:Nat)
 | [],G,l,hc,_=>.inr ⟨G,l,[],[],rfl,(Upd.refl G l (λ_=>False)).iff (λ_=>rZ) (λi=>by simp),rM,by simp,hc,λk hk=>by simp at hk,.nil,by simp,by simp[chS]⟩
 | x :: ps,G,l,hc,hp=>by
  obtain⟨hk,hv⟩:=hp x uF;rw[zBB,zFu];rcases zHr (gen:=gen) hc hk hv with ⟨a1,a2⟩|⟨G1,l1,e,ids,a1,a2,a3,a4,a5,a6,a7,a8⟩
  .exact .inl ⟨by rw[a1],by omega⟩
  .rw[a1];simp only;have hc1:=hc.upd a2 (λ_ f=>f.elim);have hu1:vX l1 (λk=>k∈ids):=a2.use (λ_ f=>f.elim);rcases zHA gen ps G1 l1 hc1 (λy hy=>hp y (uI _ hy)) with ⟨b1,b2⟩|⟨G2,l2,es,q,b1,b2,b3,b4,b5,b6,b7,b8,b9⟩
   .rw[a2.sz] at b2;exact .inl ⟨by rw[b1],by omega⟩
   .rw[b1];rw[a2.sz] at b9;obtain⟨v1,v2⟩:=b2.views (ids:=ids) (λ_ _ f=>f) hu1;have hids2:∀i∈ids,2<=i:=λi hi=>by
     rcases a2.inn i hi with ⟨f,_⟩|⟨h0,_⟩
     .exact f.elim
     .exact hc.free2 h0
    refine .inr ⟨G2,l2,e :: es,ids++q,rfl,?_,?_,λy hy=>?_,b5,λk hk=>?_,.cons a5 (a6.mono (uJ _) b2.bl b2.sz (λi hi=>(v1 i hi).1)) b7,λy hy=>?_,by omega⟩
    .have f2:=b2.frame (B:=λk=>k∈ids) (λk hk=>⟨λf=>f,hu1.ne0 hk⟩);have f2':=f2.iff (A':=λk=>k∈ids) (A1':=λk=>k∈ids++q) (λk=>by simp) (λk=>by rw[uG];exact or_comm);exact a2.trans f2' (λ_ f=>f.elim)
    .refine wD.2 ⟨a3,b3,λy hy z hz e=>?_⟩;subst e;exact (v1 y hy).2.2 hz
    .rcases uG.1 hy with hy|hy
     .exact hids2 y hy
     .exact b4 y hy
    .rcases uG.1 hk with hk|hk
     .exact v2 k hk
     .exact b6 k hk
    .rcases uN.1 hy with rfl|hy
     .exact a7
     .exact b8 y hy
theorem zJF{G:GA}{gen d:Nat}{lo:ByteArray}{hi:Option ByteArray}{ks:List jQ}{ps:List zE}{q:List Nat}(h:qF (vJ G gen d) lo hi (ks.tail.map (·.2)) (ks.map λk=>(k.1:Int)) ps q)(hq:q.Nodup)(hb:G.blocks<=256)(hk:∀k∈ks,qC k.2=true)(hr:(ks.map (·.2)).Pairwise λa b=>qJ a b=true):zDp ks:=by
 obtain⟨hs,e,hsub⟩:=h.heads (vJ.head d);have e2:ks.map (·.1)=hs:=by
  have:=congrArg (List.map Int.toNat) e;simp only[p7] at this;have i1:(Int.toNat ∘ λk:jQ=>(k.1:Int))=(·.1):=funext λk=>uL k.1
  have i2:(Int.toNat ∘ λk:Nat=>(k:Int))=id:=funext λk=>uL k
  rw[i1,i2,List.map_id] at this;exact this
 refine⟨λk hk'=>?_,hr,by rw[e2];exact hq.sublist hsub⟩;have hm:k.1∈q:=hsub.subset (by rw[<- e2];exact tK hk');have:=h.ltq (vJ.ltq d) k.1 hm;exact⟨this.1,by omega,hk k hk'⟩
theorem zCm{α:Type}(fst:α->ByteArray):∀(gs:List (List α)),(∀g∈gs,g≠[])->(gs.map (yQ fst)).Sublist (gs.flatten.map fst)
 | [],_=>by simp
 | g :: gs,h=>by
  have ih:=zCm fst gs (λx hx=>h x (uI _ hx));obtain⟨x,t,rfl⟩:=tM (h g uF);simp only[uW,wT,wN,wF];exact List.Sublist.cons_cons _ (ih.trans (tZ _ _))
theorem zB5{α:Type}(mk:List α->zF)(z:Int){l:List α}(h:l≠[]):zV mk z l≠[]:=λe=>by
 have:=zBW mk z l;rw[e] at this;exact h this.symm
theorem zJG(gen:Nat):∀(f:Nat) (G:GA) (l:List Nat) (d:Nat) (ks:List jQ) (ps:List zE) (q:List Nat),ks≠[]->ks.length<2 ^ f->zAK G l->qF (vJ G gen (d+1)) e0 none (ks.tail.map (·.2)) (ks.map λk=>(k.1:Int)) ps q->q.Nodup->vX l (· ∈ q)->(∀x∈q,2<=x)->(∀k∈ks,qC k.2=true)->((ks.map (·.2)).Pairwise λa b=>qJ a b=true) ->
  (zAR gen f G l ks=.inr 3/\zAJ l<(ks.length:Int)) \/
  ∃G' l' root d' q',zAR gen f G l ks=.inl (G',l',root)/\Upd G l (· ∈ q) G' l' (· ∈ q')/\q'.Nodup/\zAK G' l'/\vX l' (· ∈ q')/\vJ G' gen (d'+1) e0 none root ps q'/\G'.cost<=G.cost+ks.length
 | 0,G,l,d,ks,ps,q,hne,hl,_,_,_,_,_,_,_=>by
  have:=tE.2 hne;rw[Nat.pow_zero] at hl;omega
 | f+1,G,l,d,[k],ps,q,_,_,hc,hk,hq,hu,h2,hkb,hr=>by
  simp only[pF,tW,uW] at hk;rw[zAR];generalize hkk:[(k.1:Int)]=kk at hk
  cases hk with
  | @one _ _ c _ _ hT =>
   simp only[List.cons.injEq,and_true] at hkk;have hcc:c=k.1:=by omega
   subst hcc;exact .inr ⟨G,l,k.1,d,q,rfl,Upd.refl _ _ _,hq,hc,hu,hT,by simp⟩
 | f+1,G,l,d,k1 :: k2 :: ks,ps,q,_,hl,hc,hk,hq,hu,h2,hkb,hr=>by
  rw[zAR];have hs:=hc.s256;have hs2:=hc.s1024;obtain⟨kk,hkk⟩:∃kk,kk=k1 :: k2 :: ks:=⟨_,rfl⟩;rw[<- hkk] at hl hk hkb hr ⊢;have hk2:2<=kk.length:=by rw[hkk];simp
  have hok:=zJF hk hq hc.b256 hkb hr;obtain⟨gs,hgs⟩:∃gs,gs=zV mkI ((G.size:Int)-24) kk:=⟨_,rfl⟩;have hgo:=zHt (z:=(G.size:Int)-24) (by omega) hok hk2;have hfl:=zBW mkI ((G.size:Int)-24) kk;have hgn:=zB5 mkI ((G.size:Int)-24) (l:=kk) (by rw[hkk];simp);rw[<- hgs] at hgo hfl hgn ⊢;have hne:∀g∈gs,g≠[]:=λg hg e=>by have:=(hgo g hg).1;rw[e] at this;simp at this
  have hhalf:=zHu gs (λg hg=>(hgo g hg).1);rw[hfl] at hhalf;rcases zEL (zRG gen d) gs G l e0 none ps q hgn hc hne (λg hg=>(hgo g hg).2) (by rw[hfl];exact hk) hq hu h2 with ⟨c1,c2⟩|⟨G2,l2,ks2,q2,c1,c2,c3,c4,c5,c6,c7,c8,c9,c10⟩
  .exact .inl ⟨by rw[c1],by omega⟩
  .rw[c1];simp only;have hlen:ks2.length=gs.length:=by have:=congrArg List.length c2;simpa using this
   have hsub:=zCm (λk:jQ=>k.2) gs hne;rw[hfl,<- c2] at hsub;have hphi:=c3.phi hu hq c4;rcases zJG gen f G2 l2 (d+1) ks2 ps q2 (λe=>by rw[e] at hlen;exact hgn (wL.1 (by simpa using hlen.symm))) (by rw[pU] at hl;omega) c6 c8 c4 c7 c5 (λk hk'=>by
    have:k.2∈kk.map (·.2):=hsub.subset (tK hk');obtain⟨k',h1,h2⟩:=wY.1 this;rw[<- h2];exact hkb k' h1) (hr.sublist hsub) with ⟨e1,e2⟩|⟨G3,l3,root,d',q3,e1,e2,e3,e4,e5,e6,e7⟩
   .exact .inl ⟨e1,by omega⟩
   .exact .inr ⟨G3,l3,root,d',q3,e1,c3.trans e2 hu,e3,e4,e5,e6,by omega⟩
theorem zOz{G G':GA}{l l':List Nat}{gen:Nat}{key v:ByteArray}{e:zI}(hv:v.size<=4096)(h1:256<=G.size)(h2:G.size<=1024)(h:jF G l gen key v=.inl (G',l',e)):G'.cost<=G.cost+18:=by
 unfold jF at h;split at h
 .injection h with h;injection h with h _;rw[<- h];omega
 .split at h
  .rename_i ids2 l2' ht;injection h with h;injection h with h _;rw[<- h,(qV _ _ _ _ _ _).2.2];have h3:=(zA0 _ _ _ _ ht).len;have h4:=zFo G.size v.size (by omega) h1 h2;have h5:=zMj G.size v.size hv h1;rw[h4,uL] at h3;omega
  .cases h
theorem zEe(gen:Nat):∀(ps:List zE) (G:GA) (l:List Nat) {G':GA} {l':List Nat} {es:List zI},256<=G.size->G.size<=1024->(∀x∈ps,x.2.size<=4096)->zBB gen G l ps=.inl (G',l',es)->G'.cost<=G.cost+18 * ps.length/\G'.size=G.size/\es.length=ps.length
 | [],G,l,G',l',es,_,_,_,h=>by
  injection h with h;injection h with h1 h2;injection h2 with h2 h3;subst h1 h3;exact⟨by simp,rfl,rfl⟩
 | x :: ps,G,l,G',l',es,hs,hs2,hv,h=>by
  rw[zBB] at h;split at h
  .cases h
  .rename_i G1 l1 e he;split at h
   .cases h
   .rename_i G2 l2 es2 hes;injection h with h;injection h with h1 h2;injection h2 with h2 h3;subst h1 h3;have c1:=zOz (hv x uF) hs hs2 he;have c0:G1.size=G.size:=by
     unfold jF at he;split at he
     .injection he with he;injection he with he _;rw[<- he]
     .split at he
      .injection he with he;injection he with he _;rw[<- he];exact (qV _ _ _ _ _ _).2.1
      .cases he
    obtain⟨c2,c3,c4⟩:=zEe gen ps G1 l1 (by rw[c0];exact hs) (by rw[c0];exact hs2) (λy hy=>hv y (uI _ hy)) hes;refine⟨by simp only[uD];omega,c3.trans c0,by simp[c4]⟩
theorem zNn{gen:Nat}{G:GA}{l:List Nat}{ps:List zE}(hc:zAK G l)(hs:yZ ps)(hp:∀x∈ps,zCN x)(hlen:ps.length<=100000) :
  (zEM gen G l ps=.inr 3/\zAJ l<(chS G.size ps:Nat)+2 * (ps.length:Int)) \/
  ∃G' l' root d pgs,zEM gen G l ps=.inl (G',l',root)/\Upd G l (λ_=>False) G' l' (· ∈ pgs)/\TD G' gen root d ps pgs/\vX l' (· ∈ pgs)/\zAK G' l'/\G'.cost<=G.cost+20 * ps.length:=by
 have hz:=hc.s256;have hz2:=hc.s1024;unfold zEM;rcases zHA gen ps G l hc hp with ⟨a1,a2⟩|⟨G1,l1,es,q,a1,a2,a3,a4,a5,a6,a7,a8,a9⟩
 .exact .inl ⟨by rw[a1],by omega⟩
 .obtain⟨b1,b2,b3⟩:=zEe gen ps G l hz hz2 (λx hx=>(hp x hx).2) a1;rw[a1];simp only;by_cases hps:ps=[]
  .subst hps;have hes:es=[]:=wL.1 (by simpa using b3);subst hes;have hq:q=[]:=by cases a7;rfl
   subst hq;refine .inr ⟨G1,l1,0,0,[],rfl,a2,TD.none _ _,a6,a5,by simpa using b1⟩
  .have hene:es≠[]:=λe=>by rw[e] at b3;exact hps (wL.1 (by simpa using b3.symm))
   have hok:zCM es:=⟨a8,by rw[a7.keys];exact wW.2 hs⟩;obtain⟨gs,hgs⟩:∃gs,gs=zV jD ((G.size:Int)-24) es:=⟨_,rfl⟩;have hgo:=zHs (z:=(G.size:Int)-24) (by omega) (by omega) hok;have hfl:=zBW jD ((G.size:Int)-24) es;have hgn:=zB5 jD ((G.size:Int)-24) hene;rw[<- hgs] at hgo hfl hgn ⊢;have hne:∀g∈gs,g≠[]:=λg hg=>(hgo g hg).1
   have hlen2:=zHv gs hne;rw[hfl,b3] at hlen2;rcases zEL (zRF gen) gs G1 l1 e0 none ps q hgn a5 hne (λg hg=>by rw[b2];exact (hgo g hg).2) (by rw[hfl];exact⟨a7,hs,λx _=>zCa x.1⟩) a3 a6 a4 with ⟨c1,c2⟩|⟨G2,l2,ks2,q2,c1,c2,c3,c4,c5,c6,c7,c8,c9,c10⟩
   .exact .inl ⟨by rw[c1],by omega⟩
   .rw[c1];simp only;have hkl:ks2.length=gs.length:=by have:=congrArg List.length c2;simpa using this
    have hsub:=zCm (λe:zI=>e.key) gs hne;rw[hfl,<- c2] at hsub;have hphi:=c3.phi a6 a3 c4;have hpow:ks2.length<2 ^ 64:=by
     have:(100000:Nat)<2 ^ 64:=by decide
     omega
    rcases zJG gen 64 G2 l2 0 ks2 ps q2 (λe=>by rw[e] at hkl;exact hgn (wL.1 (by simpa using hkl.symm))) hpow c6 c8 c4 c7 c5 (λk hk'=>by
     have:k.2∈es.map (·.key):=hsub.subset (tK hk');obtain⟨e,h1,h2⟩:=wY.1 this;have h3:=a8 e h1;unfold yC at h3;simp only[uK] at h3;rw[<- h2];exact h3.1) (hok.2.sublist hsub) with ⟨e1,e2⟩|⟨G3,l3,root,d',q3,e1,e2,e3,e4,e5,e6,e7⟩
    .exact .inl ⟨e1,by omega⟩
    .exact .inr ⟨G3,l3,root,d'+1,q3,e1,(a2.trans c3 (λ_ f=>f.elim)).trans e2 (λ_ f=>f.elim),⟨.inr ⟨by omega,e6⟩,e3⟩,e5,e4,by omega⟩
def yK(G:GA):Nat->Nat->List Nat
 | 0,_=>[]
 | d+1,id=>match G.node id with
  | none=>[]
  | some n=>if n.leaf=true then [n.entries.length] else n.kids.flatMap λk=>yK G d k.toNat
section
variable {G G':GA}{gen:Nat}
theorem qF.each{T:zEJ}{lo:ByteArray}{hi:Option ByteArray}{kk:List ByteArray}{cc:List Int}{ps:List zE}{q:List Nat}(h:qF T lo hi kk cc ps q):∀c∈cc,∃(k:Nat) (lo':ByteArray) (hi':Option ByteArray) (l':List zE) (q':List Nat),c=(k:Int)/\T lo' hi' k l' q'/\∀x∈q',x∈q:=by
 induction h with
 | @one lo hi c l q h =>
  intro c' hc;simp only[wS] at hc;exact⟨c,_,_,_,_,hc,h,λ_ hx=>hx⟩
 | @cons lo hi s c keys kids l1 l2 q1 q2 h1 _ _ ih =>
  intro c' hc;rcases uN.1 hc with rfl|hc
  .exact⟨c,_,_,_,_,rfl,h1,λ_ hx=>tI _ hx⟩
  .obtain⟨k,lo',hi',l',q',e,t,hs⟩:=ih c' hc;exact⟨k,lo',hi',l',q',e,t,λx hx=>wZ _ (hs x hx)⟩
theorem zCn{α β:Type}{f g:α->List β}:∀(l:List α),(∀x∈l,f x=g x)->l.flatMap f=l.flatMap g
 | [],_=>rfl
 | x :: l,h=>by rw[wI,wI,h x uF,zCn l (λy hy=>h y (uI _ hy))]
theorem zHw{id:Nat}{n:zF}(h:PgN G gen id n):G.node id=some n:=(zFt h).2
theorem zB0(hb:G'.blocks=G.blocks):∀(d f:Nat) (lo:ByteArray) (hi:Option ByteArray) (id:Nat) (l:List zE) (q:List Nat),d<=f->(∀i∈q,G'.view i=G.view i)->vJ G gen d lo hi id l q->yK G' f id=yK G d id
 | 0,_,_,_,_,_,_,_,_,h=>h.elim
 | d+1,f,lo,hi,id,l,pgs,hf,hv,h=>by
  obtain⟨f,rfl⟩:∃f',f=f'+1:=⟨f-1,by omega⟩;obtain⟨n,q,h1,_,rfl,h3⟩:=h;have hn:=zHw h1;have hn':G'.node id=some n:=by
   rw[<- hn];unfold GA.node;rw[hb,hv id uF]
  rw[yK,yK,hn,hn'];simp only;rcases h3 with ⟨a1,_,_,_,_⟩|⟨a1,a2⟩
  .rw[if_pos a1,if_pos a1]
  .rw[if_neg (by rw[a1];simp),if_neg (by rw[a1];simp)];refine zCn _ (λc hc=>?_);obtain⟨k,lo',hi',l',q',rfl,t,hs⟩:=a2.each c hc;exact zB0 hb d f lo' hi' _ l' q' (by omega) (λi hi=>hv i (uI _ (hs i hi))) t
theorem zMo(hb:G'.blocks=G.blocks){d f:Nat}{lo:ByteArray}{hi:Option ByteArray}{kk:List ByteArray}{cc:List Int}{ps:List zE}{q:List Nat}(hf:d<=f)(hv:∀i∈q,G'.view i=G.view i)(h:qF (vJ G gen d) lo hi kk cc ps q) :
  (cc.flatMap λk=>yK G' f k.toNat)=cc.flatMap λk=>yK G d k.toNat:=by
 refine zCn _ (λc hc=>?_);obtain⟨k,lo',hi',l',q',rfl,t,hs⟩:=h.each c hc;exact zB0 hb d f lo' hi' _ l' q' hf (λi hi=>hv i (hs i hi)) t
theorem zEN{α:Type}(mk:List α->zF)(fst:List α->ByteArray):∀(gs:List (List α)) (G:GA) (l:List Nat) {G':GA} {l':List Nat} {ks:List jQ},l[0]? ≠ some 0->l.length<=G.blocks->vB gen G l (gs.map λg=>(mk g,fst g))=.inl (G',l',ks) ->
  G'.blocks=G.blocks/\(∀j,l[j]? ≠ some 0->G'.view j=G.view j)/\ks.map (λk=>G'.node k.1)=gs.map (λg=>some (mk g))
 | [],G,l,G',l',ks,_,_,h=>by
  simp only[tW,vB] at h;injection h with h;injection h with h1 h2;injection h2 with h2 h3;subst h1 h3;exact⟨rfl,λ_ _=>rfl,rfl⟩
 | g :: gs,G,l,G',l',ks,h0,hb,h=>by
  rw[uW,vB] at h;cases hd:qW G l 0 (mk g) with
  | none=>rw[hd] at h;cases h
  | some i =>
   rw[hd] at h;simp only at h;obtain⟨u1,_,u3,u4,u5,u6⟩:=zEH (gen:=gen) (G:=G) (l:=l) (.inl rfl) hd h0;have hrt:=u6.1;have hl1:(yO G l 0 (mk g))[i]? = some 2:=by
    rcases u1.inn i rfl with ⟨h,_⟩|⟨_,h⟩
    .exact absurd rfl h.2
    .exact h
   have hli:l[i]? = some 0:=by
    rcases u1.inn i rfl with ⟨h,_⟩|⟨h,_⟩
    .exact absurd rfl h.2
    .exact h
   have hrest:∀j,l[j]? ≠ some 0->(yO G l 0 (mk g))[j]? ≠ some 0/\(yD G l gen 0 (mk g)).view j=G.view j:=λj hj=>by
    have hne:¬ j=i:=λe=>hj (e ▸ hli)
    obtain⟨r1,r2⟩:=u1.rest j (λe=>e.2 rfl) hne;exact⟨by rw[r1];exact hj,r2 hj⟩
   cases hr:vB gen (yD G l gen 0 (mk g)) (yO G l 0 (mk g)) (gs.map λg=>(mk g,fst g)) with
   | inr k=>rw[hr] at h;cases h
   | inl y =>
    obtain⟨G2,l2,ks2⟩:=y;rw[hr] at h;injection h with h;injection h with h1 h2;injection h2 with h2 h3;subst h1 h2 h3;obtain⟨a1,a2,a3⟩:=zEN mk fst gs _ _ (hrest 0 h0).1 (by rw[u1.bl,u1.len];exact hb) hr;refine⟨a1.trans u1.bl,λj hj=>(a2 j (hrest j hj).1).trans (hrest j hj).2,?_⟩;rw[uW,uW,a3];congr 1
    unfold GA.node;rw[if_pos (by rw[a1,u1.bl];omega),a2 i (by rw[hl1];simp),u5];simp only;rw[zNl hrt]
end
section
variable {gen:Nat}
theorem zDq{G:GA}{id d:Nat}{n:zF}(h:G.node id=some n)(hl:n.leaf=true):yK G (d+1) id=[n.entries.length]:=by
 rw[yK,h];simp only;rw[if_pos hl]
theorem zCy{G:GA}{id d:Nat}{n:zF}(h:G.node id=some n)(hl:n.leaf=false):yK G (d+1) id=n.kids.flatMap λk=>yK G d k.toNat:=by
 rw[yK,h];simp only;rw[if_neg (by rw[hl];simp)]
theorem zFv{G':GA}(d:Nat):∀(ks:List jQ) (gs:List (List zI)),ks.map (λk=>G'.node k.1)=gs.map (λg=>some (jD g))->(ks.flatMap λk=>yK G' (d+1) k.1)=gs.map List.length
 | [],[],_=>rfl
 | [],_ :: _,h=>by simp at h
 | _ :: _,[],h=>by simp at h
 | k :: ks,g :: gs,h=>by
  simp only[uW,List.cons.injEq] at h;rw[wI,uW,zDq h.1 rfl,zFv d ks gs h.2];rfl
theorem zFw{G':GA}(d:Nat):∀(ks:List jQ) (gs:List (List jQ)),ks.map (λk=>G'.node k.1)=gs.map (λg=>some (mkI g))->(ks.flatMap λk=>yK G' (d+1) k.1)=gs.flatten.flatMap λk=>yK G' d k.1
 | [],[],_=>rfl
 | [],_ :: _,h=>by simp at h
 | _ :: _,[],h=>by simp at h
 | k :: ks,g :: gs,h=>by
  simp only[uW,List.cons.injEq] at h;rw[wI,zCy h.1 rfl,zFw d ks gs h.2,wT,tJ];congr 1
  show (List.map (λk:jQ=>(k.1:Int)) g).flatMap _=_;rw[nJ];exact zCn _ (λx _=>by rw[uL])
theorem zFx:∀(f:Nat) (G:GA) (l:List Nat) (d:Nat) (ks:List jQ) (ps:List zE) (q:List Nat) {G':GA} {l':List Nat} {root:Nat},ks≠[]->ks.length<2 ^ f->zAK G l->qF (vJ G gen (d+1)) e0 none (ks.tail.map (·.2)) (ks.map λk=>(k.1:Int)) ps q->q.Nodup->vX l (· ∈ q)->(∀x∈q,2<=x)->(∀k∈ks,qC k.2=true)->((ks.map (·.2)).Pairwise λa b=>qJ a b=true) ->
  zAR gen f G l ks=.inl (G',l',root)->∃d' q',vJ G' gen (d'+1) e0 none root ps q'/\yK G' (d'+1) root=ks.flatMap λk=>yK G (d+1) k.1
 | 0,G,l,d,ks,ps,q,G',l',root,hne,hl,_,_,_,_,_,_,_,_=>by
  have:=tE.2 hne;rw[Nat.pow_zero] at hl;omega
 | f+1,G,l,d,[k],ps,q,G',l',root,_,_,hc,hk,hq,hu,h2,hkb,hr,he=>by
  simp only[pF,tW,uW] at hk;rw[zAR] at he;injection he with he;injection he with h1 h2';injection h2' with h2' h3;subst h1 h3;generalize hkk:[(k.1:Int)]=kk at hk
  cases hk with
  | @one _ _ c _ _ hT =>
   simp only[List.cons.injEq,and_true] at hkk;have hcc:c=k.1:=by omega
   subst hcc;exact⟨d,q,hT,by simp⟩
 | f+1,G,l,d,k1 :: k2 :: ks,ps,q,G',l',root,_,hl,hc,hk,hq,hu,h2,hkb,hr,he=>by
  rw[zAR] at he;have hs:=hc.s256;obtain⟨kk,hkk⟩:∃kk,kk=k1 :: k2 :: ks:=⟨_,rfl⟩;rw[<- hkk] at hl hk hkb hr he ⊢;have hk2:2<=kk.length:=by rw[hkk];simp
  have hok:=zJF hk hq hc.b256 hkb hr;obtain⟨gs,hgs⟩:∃gs,gs=zV mkI ((G.size:Int)-24) kk:=⟨_,rfl⟩;have hgo:=zHt (z:=(G.size:Int)-24) (by omega) hok hk2;have hfl:=zBW mkI ((G.size:Int)-24) kk;have hgn:=zB5 mkI ((G.size:Int)-24) (l:=kk) (by rw[hkk];simp);rw[<- hgs] at hgo hfl hgn he;have hne:∀g∈gs,g≠[]:=λg hg e=>by have:=(hgo g hg).1;rw[e] at this;simp at this
  have hhalf:=zHu gs (λg hg=>(hgo g hg).1);rw[hfl] at hhalf;rcases zEL (zRG gen d) gs G l e0 none ps q hgn hc hne (λg hg=>(hgo g hg).2) (by rw[hfl];exact hk) hq hu h2 with ⟨c1,c2⟩|⟨G2,l2,ks2,q2,c1,c2,c3,c4,c5,c6,c7,c8,c9,c10⟩
  .rw[c1] at he;cases he
  .rw[c1] at he;simp only at he;have hlen:ks2.length=gs.length:=by have:=congrArg List.length c2;simpa using this
   have hsub:=zCm (λk:jQ=>k.2) gs hne;rw[hfl,<- c2] at hsub;obtain⟨d',q',e1,e2⟩:=zFx f G2 l2 (d+1) ks2 ps q2 (λe=>by rw[e] at hlen;exact hgn (wL.1 (by simpa using hlen.symm))) (by rw[pU] at hl;omega) c6 c8 c4 c7 c5 (λk hk'=>by
    have:k.2∈kk.map (·.2):=hsub.subset (tK hk');obtain⟨k',h1,h2⟩:=wY.1 this;rw[<- h2];exact hkb k' h1) (hr.sublist hsub) he
   refine⟨d',q',e1,?_⟩;obtain⟨n1,n2,n3⟩:=zEN mkI (yQ (·.2)) gs G l (by rw[hc.low.1];simp) (by have:=hc.len;omega) c1;rw[e2,zFw (d+1) ks2 gs n3,hfl];have h5:=zMo n1 (uJ _) (λi hi=>n2 i (hu.ne0 hi)) hk;rw[nJ,nJ] at h5;have h6:∀H:GA,(kk.flatMap λk=>yK H (d+1) k.1)=kk.flatMap λa=>yK H (d+1) ((λk:jQ=>(k.1:Int)) a).toNat:=λH=>zCn _ (λx _=>by rw[uL])
   rw[h6,h6];exact h5
theorem zHx{G G':GA}{l l':List Nat}{ps:List zE}{root:Nat}(hc:zAK G l)(hs:yZ ps)(hp:∀x∈ps,zCN x)(hlen:ps.length<=100000)(he:zEM gen G l ps=.inl (G',l',root))(hps:ps≠[]) :
  ∃G1 l1 es q d' q',zBB gen G l ps=.inl (G1,l1,es)/\vM G1 gen es ps q/\(∀e∈es,yC e=true)/\vJ G' gen (d'+1) e0 none root ps q'/\yK G' (d'+1) root=(zV jD ((G.size:Int)-24) es).map List.length:=by
 have hz:=hc.s256;have hz2:=hc.s1024;unfold zEM at he;rcases zHA gen ps G l hc hp with ⟨a1,a2⟩|⟨G1,l1,es,q,a1,a2,a3,a4,a5,a6,a7,a8,a9⟩
 .rw[a1] at he;cases he
 .obtain⟨b1,b2,b3⟩:=zEe gen ps G l hz hz2 (λx hx=>(hp x hx).2) a1;rw[a1] at he;simp only at he;have hene:es≠[]:=λe=>by rw[e] at b3;exact hps (wL.1 (by simpa using b3.symm))
  have hok:zCM es:=⟨a8,by rw[a7.keys];exact wW.2 hs⟩;obtain⟨gs,hgs⟩:∃gs,gs=zV jD ((G.size:Int)-24) es:=⟨_,rfl⟩;have hgo:=zHs (z:=(G.size:Int)-24) (by omega) (by omega) hok;have hfl:=zBW jD ((G.size:Int)-24) es;have hgn:=zB5 jD ((G.size:Int)-24) hene;rw[<- hgs] at hgo hfl hgn he;have hne:∀g∈gs,g≠[]:=λg hg=>(hgo g hg).1
  have hlen2:=zHv gs hne;rw[hfl,b3] at hlen2;rcases zEL (zRF gen) gs G1 l1 e0 none ps q hgn a5 hne (λg hg=>by rw[b2];exact (hgo g hg).2) (by rw[hfl];exact⟨a7,hs,λx _=>zCa x.1⟩) a3 a6 a4 with ⟨c1,c2⟩|⟨G2,l2,ks2,q2,c1,c2,c3,c4,c5,c6,c7,c8,c9,c10⟩
  .rw[c1] at he;cases he
  .rw[c1] at he;simp only at he;have hkl:ks2.length=gs.length:=by have:=congrArg List.length c2;simpa using this
   have hsub:=zCm (λe:zI=>e.key) gs hne;rw[hfl,<- c2] at hsub;have hpow:ks2.length<2 ^ 64:=by
    have:(100000:Nat)<2 ^ 64:=by decide
    omega
   obtain⟨d',q',e1,e2⟩:=zFx 64 G2 l2 0 ks2 ps q2 (λe=>by rw[e] at hkl;exact hgn (wL.1 (by simpa using hkl.symm))) hpow c6 c8 c4 c7 c5 (λk hk'=>by
     have:k.2∈es.map (·.key):=hsub.subset (tK hk');obtain⟨e,h1,h2⟩:=wY.1 this;have h3:=a8 e h1;unfold yC at h3;simp only[uK] at h3;rw[<- h2];exact h3.1) (hok.2.sublist hsub) he
   obtain⟨_,_,n3⟩:=zEN jD (yQ (·.key)) gs G1 l1 (by rw[a5.low.1];simp) (by have:=a5.len;omega) c1;exact⟨G1,l1,es,q,d',q',a1,a7,a8,e1,by rw[e2,zFv 0 ks2 gs n3,hgs]⟩
end
def zCO:List Int->Int
 | []=>0
 | x :: l=>x+zCO l
def zFM(z:Int):Int->List Int->Nat
 | _,[]=>0
 | acc,x :: l=>if acc+x<=z then zFM z (acc+x) l+1 else 0
def zCJ(z:Int):Nat->List Int->List Nat
 | 0,_=>[]
 | _+1,[]=>[]
 | f+1,x :: l=>(zFM z (2+x) l+1) :: zCJ z f (l.drop (zFM z (2+x) l))
def zKC(ws:List Int)(a:Nat):Nat:=((2+zCO (ws.take a))-(2+zCO (ws.drop a))).natAbs
def zQ0(ws:List Int):Nat:=yX (zKC ws) 1 1 (ws.length-1)
def zLS(z:Int)(ws:List Int)(out:List Nat):List Nat:=match out.reverse with
 | b :: a :: r=>if z<=3 * (2+zCO (ws.drop (ws.length-b))) then out else
   if 2+zCO (ws.drop (ws.length-b-a))<=z then r.reverse++[(ws.drop (ws.length-b-a)).length] else r.reverse++[zQ0 (ws.drop (ws.length-b-a)),(ws.drop (ws.length-b-a)).length-zQ0 (ws.drop (ws.length-b-a))]
 | _=>out
def zB6(z:Int)(ws:List Int):List Nat:=zLS z ws (zCJ z ws.length ws)
theorem zLT(a b:List Int):zCO (a++b)=zCO a+zCO b:=by
 induction a with
 | nil=>simp[zCO]
 | cons x a ih=>simp only[wN,zCO,ih];omega
theorem zDO(es:List zI):zY es=zCO (es.map yF):=by
 induction es with
 | nil=>rfl
 | cons e es ih=>simp only[zY,uW,zCO,ih]
theorem zNo(z:Int):∀(l:List Int) (acc:Int),zFM z acc l<=l.length
 | [],_=>uJ _
 | x :: l,acc=>by
  rw[zFM];split
  .have:=zNo z l (acc+x);simp only[uD];omega
  .exact pS _
theorem zHy(z:Int):∀(f g:Nat) (ws:List Int),ws.length<=f->ws.length<=g->zCJ z f ws=zCJ z g ws
 | 0,g,ws,h,_=>by
  have:ws=[]:=wL.1 (by omega);subst this;cases g <;> rfl
 | f+1,0,ws,_,h=>by
  have:ws=[]:=wL.1 (by omega);subst this;rfl
 | f+1,g+1,[],_,_=>rfl
 | f+1,g+1,x :: l,h1,h2=>by
  simp only[uD] at h1 h2;rw[zCJ,zCJ,zHy z f g _ (by rw[u0];omega) (by rw[u0];omega)]
theorem zFN(z:Int):∀(l:List zI) (pre:List (List zI)) (g:List zI),g≠[] ->
  (yP jD z (pre++[g]) l).map List.length=pre.map List.length++(g.length+zFM z (2+zY g) (l.map yF)) :: zCJ z l.length ((l.map yF).drop (zFM z (2+zY g) (l.map yF)))
 | [],pre,g,_=>by simp[yP,zFM,zCJ]
 | x :: l,pre,g,hg=>by
  rw[yP];have h1:(pre++[g]).getLast? = some g:=by simp
  rw[h1];simp only;rw[jM];have h2:zY (g++[x])=zY g+yF x:=by rw[yM];simp[zY]
  rw[h2,uW,zFM];by_cases hw:2+(zY g+yF x)<=z
  .rw[if_pos hw,if_pos (show 2+zY g+yF x<=z by omega),List.dropLast_concat,zFN z l pre (g++[x]) (by simp),h2];have h3:(2:Int)+zY g+yF x=2+(zY g+yF x):=by omega
   rw[h3,List.drop_succ_cons,uC,tA];have hr:=zNo z (l.map yF) (2+(zY g+yF x));rw[zHy z (x :: l).length l.length _ (by rw[u0,uU,uD];omega) (by rw[u0,uU];omega)];congr 2
   omega
  .rw[if_neg hw,if_neg (show ¬ 2+zY g+yF x<=z by omega),zFN z l (pre++[g]) [x] (by simp)];simp[zCJ,zY,pZ]
theorem zO0(z:Int)(es:List zI):(yP jD z [] es).map List.length=zCJ z es.length (es.map yF):=by
 cases es with
 | nil=>rfl
 | cons x l =>
  rw[yP];have:=zFN z l [] [x] (by simp);simp only[List.getLast?_nil,uT] at this ⊢;rw[this];simp[zCJ,zY,pZ]
theorem zGq{d d':Nat->Nat}:∀(m b a:Nat),d b=d' b->(∀x,a<=x->x<a+m->d x=d' x)->yX d b a m=yX d' b a m
 | 0,_,_,_,_=>rfl
 | m+1,b,a,hb,h=>by
  rw[yX,yX,hb,h a (uJ _) (by omega)];refine zGq m _ (a+1) ?_ (λx h1 h2=>h x (by omega) (by omega));split
  .exact h a (uJ _) (by omega)
  .exact hb
theorem zMp{es:List zI}(h:zCM es)(hl:es.length<=65535){k:Nat}(hk:zCG (jD es)=some k):k=zQ0 (es.map yF):=by
 have hr:=zDN h hl;unfold zCG at hk;split at hk
 .injection hk with hk;rw[<- hk];unfold zQ0;rw[uU];refine zGq _ _ _ ?_ ?_;all_goals
   have key:∀a,zAN (jD es) a=zKC (es.map yF) a:=λa=>by
    unfold zAN zKC zFd;have e1:(zS (jD es) a).1=jD (es.take a):=rfl;have e2:(zS (jD es) a).2.2=jD (es.drop a):=rfl;have r1:=vW (qD (zDN (h.sub (List.take_sublist a es)) (by rw[uP];omega)));have r2:=vW (qD (zDN (h.sub (List.drop_sublist a es)) (by rw[u0];omega)));rw[e1,e2,<- r1,<- r2,jM,jM,zDO,zDO,pP,rX]
  .exact key 1
  .exact λx _ _=>key x
 .cases hk
theorem zGr{z:Int}(hz:232<=z)(hz2:z<=1000){es:List zI}(h:zCM es):(zV jD z es).map List.length=zB6 z (es.map yF):=by
 obtain⟨out,ho⟩:∃out,out=yP jD z [] es:=⟨_,rfl⟩;have hlen:=zO0 z es;have hfl:out.flatten=es:=by rw[ho,vN];rfl
 have hne:=zA2 jD z es [] (by simp);have hfit:=zAl jD z (λe=>yC e=true) (λx hx=>by
  have:=zBS hx;rw[jM];simp only[zY];omega) es [] h.1 (by simp)
 unfold zV zB6;rw[uU,<- hlen,<- ho];rw[<- ho] at hne hfit;unfold zLS;rw[<- List.map_reverse];rcases zMn out with rfl|⟨g,rfl⟩|⟨r,a,b,rfl⟩
 .rfl
 .rfl
 .simp only[r6,tR,pL,uT,wN,uW];have hfl':es=r.flatten++(a++b):=by rw[<- hfl];simp
  have hd1:(es.map yF).drop ((es.map yF).length-b.length)=b.map yF:=by
   rw[hfl',<- uS,wF];rw[List.drop_left' (by simp only[uC,uU];omega)]
  have hd2:(es.map yF).drop ((es.map yF).length-b.length-a.length)=(a++b).map yF:=by
   rw[hfl',wF];rw[List.drop_left' (by simp only[uC,uU];omega)]
  rw[hd1,hd2,<- zDO,<- zDO];have hok2:zCM (a++b):=h.sub (by rw[hfl'];exact tZ _ _);have hb:=hne b (by simp);have hfa:=hfit a (by simp);have hlt:zAT (jD b) (z+24)=decide (3 * (2+zY b)<z):=by
   unfold zAT;rw[jM];have:¬ ((jD b).entries.length:Int)=0:=λe=>hb (wL.1 (by show b.length=0;have:(jD b).entries.length=b.length:=rfl;omega))
   rw[uX this];simp only[jD,Bool.and_false,Bool.not_true,nD,Bool.false_or];congr 1
   exact propext ⟨λh=>by omega,λh=>by omega⟩
  by_cases hl:z<=3 * (2+zY b)
  .rw[if_pos hl,zEK jD z r a b (by rw[hlt];exact uX (by omega))]
  .rw[if_neg hl];have hlb:zAT (jD b) (z+24)=true:=by rw[hlt];exact wC (by omega)
   rcases zDo jD z r a b hlb with ⟨h1,h2⟩|⟨h1,h2⟩
   .rw[jM] at h1;rw[if_pos h1,h2];simp
   .obtain⟨k,p1,p2,p3,_,_⟩:=zNm hz hz2 hok2 hfa hlb h1;rw[jM] at h1;rw[if_neg (by omega),h2 k p1];have hal:(a++b).length<=65535:=by
     have h3:=zBj (a++b);rw[yM] at h3;rw[jM] at hfa;omega
    have hk:=zMp hok2 hal p1;rw[<- hk];simp only[wF,uW,tW,uP,u0,uU,List.map_reverse,pH,uC];rw[uC] at p3;rw[Nat.min_eq_left (by omega)]
end Go.Proofs.YtchklfmggpconaaGreatDoor
