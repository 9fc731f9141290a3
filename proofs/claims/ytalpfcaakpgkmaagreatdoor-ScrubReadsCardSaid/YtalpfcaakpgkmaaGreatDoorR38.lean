import Derived.Test.YtalpfcaakpgkmaaGreatDoorR37
import Derived.IntWalk
namespace Go.Proofs.YtalpfcaakpgkmaaGreatDoor
open Lib renaming hid->oh
section
open Go.RowKit
section
variable {G G' G1:GA}{l l' l1:List Nat}{gen:Nat}{lo:ByteArray}{hi:Option ByteArray}{ps:List zL}{q:List Nat}
theorem zMI:∀es:List ByteArray,5 * (es.length:Int)<=yW es
 | []=>by simp[yW]
 | e :: es=>by
  have h2:=zMI es;rw[yW,uG];omega
theorem zGn{n:zI}(hr:zO n=true)(hw:zH n<=2000):n.entries.length<=1000/\n.keys.length<=1000/\n.kids.length<=1000:=by
 have h1:=zGK n.entries;have h2:=zMI n.keys;have h3:=zAe n.entries;have h4:=zAt n.keys;have hf:=vB hr;unfold zBB at hf;unfold zH at hw;cases hl:n.leaf with
 | true =>
  rw[if_pos hl] at hf;rw[hl] at hw;simp only[tU] at hw;rw[hf.2];simp only[uL];omega
 | false =>
  rw[if_neg (by rw[hl];simp)] at hf;rw[hl] at hw;simp only[wI,tX] at hw;omega
theorem zMJ{old:Nat}{n:zI}(hc:zCB G l)(ho:vK l old)(hr:zO n=true)(hw:zH n<=(G.size:Int)-24+77)(Bn:G.cost+10<=1000000):zIj G l old n:=by
 have hs:=hc.s1024;have H3:=hc.s256;have hf:=zGn hr (by omega);refine⟨ho,hc.low,Nat.le_of_eq hc.len,Bn,by omega,λ_=>?_,λhn=>?_,by omega⟩
 .have:=zA3 (vB hr);omega
 .obtain⟨a,_,h2,h3,h4⟩:=zOF hr (W:=(G.size:Int)-24) (by omega) (by omega) (by omega);exact⟨_,_,_,h2,h3,h4⟩
theorem vU.nth{es:List zM}(h:vU G gen es ps q):∀(i:Nat) (e:zM),es[i]? = some e->∃v ids,zDv G gen e v ids/\ids.Sublist q:=by
 induction h with
 | nil=>intro i e he;simp at he
 | @cons e x ids es l q h1 h2 _ ih =>
  intro i f hf;match i,hf with
  | 0,hf =>
   simp at hf;subst hf;exact⟨_,_,h2,rU _ _⟩
  | i+1,hf =>
   obtain⟨v,ids',a1,a2⟩:=ih i f (by simpa using hf);exact⟨v,ids',a1,a2.trans (List.sublist_append_right _ _)⟩
theorem zQz{old:Nat}{n:zI}{key v:ByteArray}(hc:zCB G l)(ho:vK l old)(hl:n.leaf=true)(hr:zO n=true)(hw:zH n<=(G.size:Int)-24)(he:vU G gen n.entries ps q)(Am:jO key=true)(hv:v.size<=4096)
  (hq:q.Nodup) (hu:zAk l (λk=>k∈q)) (Ck:old≠0->old ∉ q):FrG G l (jY G (qV G n key)) (jU l (qV G n key))/\∀Gw lw e,zBI (jY G (qV G n key)) (jU l (qV G n key)) gen key v=.inl (Gw,lw,e) ->
   zCB Gw lw/\vK lw old/\zO (zDd n key e)=true/\zH (zDd n key e)<=(Gw.size:Int)-24+77/\FrG G l Gw lw/\Gw.cost<=G.cost+18:=by
 have Cl:=zBS hr hl;have Di:∀i∈q,2<=i:=λi hi=>(he.lt i hi).1
 obtain⟨l1,lm,l2,q1,qm,q2,e1,e2,rfl,rfl,Cm,Bo,Dj,G4,B1,G6⟩:=he.at_ Cl key hc.s256 hc.b256;have Bp:zAx (l1++(lm++l2)):=by
  rw[he.keys] at Cl;exact tI.1 Cl
 have B2:=uX.1 hq;have A3:=uX.1 B2.2.1;have C9:zAk l (λk=>k∈qm):=λk hk=>hu k (by simp[hk])
 obtain⟨u1,u2,u3⟩:=zFE (G:=G) qm l A3.1 (λi hi=>Di i (by simp[hi])) C9;have Bg:∀k,k∈qm->2<=k:=λk hk=>Di k (by simp[hk])
 have Ca:=hc.upd u1 Bg;rw[B1 n rfl];have G8:(jY G qm).size=G.size:=u1.sz;refine⟨u1.fr Bg,λGw lw e hE=>?_⟩;rcases zL9 (gen:=gen) Ca Am hv with ⟨f1,f2⟩|⟨Gw',lw',e',ids,f1,f2,f3,f4,f5,f6,f7,f8⟩
 .rw[f1] at hE;cases hE
 .rw[f1] at hE;injection hE with hE;injection hE with Cn B3;injection B3 with B3 Co;subst Cn B3 Co;have u4:=u1.trans f2 C9;have Ga:=hc.upd u4 Bg;have Cp:=zDg u4 ho (λhz hm=>Ck hz (by simp[hm]));have B4:Gw'.size=G.size:=u4.sz;have Cq:∀k∈q1++q2,¬ (k∈qm):=λk hk hm=>by
   rcases uM.1 hk with hk|hk
   .exact B2.2.2 k hk k (by simp[hm]) rfl
   .exact A3.2.2 k hm k hk rfl
  obtain⟨z1,z2⟩:=u4.views Cq (λk hk=>hu k (by rcases uM.1 hk with hk|hk <;> simp[hk]));have hE:vU Gw' gen (n.entries.take (jA key n.entries)++[e']++n.entries.drop (jA key n.entries+if zAY key n.entries=true then 1 else 0)) (l1++([(key,v)]++l2)) (q1++(ids++q2)):=by
   rw[uN];exact (e1.mono (uD _) u4.bl B4 (λi hi=>(z1 i (by simp[hi])).1)).append ((vU.one f5 f6).append (e2.mono (uD _) u4.bl B4 (λi hi=>(z1 i (by simp[hi])).1)))
  obtain⟨n',hn'⟩:∃n',n'=zDd n key e':=⟨_,rfl⟩;have hent':n'.entries=n.entries.take (jA key n.entries)++[e']++n.entries.drop (jA key n.entries+if zAY key n.entries=true then 1 else 0):=by rw[hn'];rfl
  have A0:=vB hr;unfold zBB at A0;rw[if_pos hl] at A0;have hleaf':n'.leaf=true:=by rw[hn'];exact hl
  have hkeys':n'.keys=[]:=by rw[hn'];exact A0.1
  have hkids':n'.kids=[]:=by rw[hn'];exact A0.2
  have hse':yM n'.entries<=yM n.entries+59:=by
   rw[hent',zAK,zAK];have:=zFG f7;simp only[yM];omega
  have Gb:zH n=2+yM n.entries:=by unfold zH;rw[hl,A0.1];simp[yW]
  have hwt':zH n'=2+yM n'.entries:=by unfold zH;rw[hleaf',hkeys'];simp[yW]
  have Gc:yV key v true (l1++(lm++l2))=l1++([(key,v)]++l2):=by
   rw[zFF _ Cm,zEM Bo];congr 1
   congr 1
   rcases G4 with rfl|⟨ov,rfl⟩
   .rfl
   .simp[yV,jJ]
  have hsort':zAx (l1++([(key,v)]++l2)):=by rw[<- Gc];exact zD3 Bp
  have hr':zO n'=true:=by
   have e:n'=⟨true,n'.entries,[],[]⟩:=by rw[<- hleaf',<- hkeys',<- hkids']
   rw[e];refine zDf (λx hx=>?_) ?_ ?_
   .rw[hent'] at hx;rcases uM.1 hx with hx|hx
    .rcases uM.1 hx with hx|hx
     .exact zAO hr x (rG hx)
     .rw[wO.1 hx];exact f7
    .exact zAO hr x (rS hx)
   .rw[hent',hE.keys];exact tI.2 hsort'
   .have:=zGK n'.entries;have:=hc.s1024;omega
  rw[<- hn'];refine⟨Ga,Cp,hr',by rw[B4,hwt'];omega,u4.fr Bg,?_⟩;have Gd:(jY G qm).cost=G.cost:=(zCJ qm G).2.2.1;unfold zBI at f1;split at f1
  .injection f1 with f1;injection f1 with f1 _;rw[<- f1];omega
  .split at f1
   .rename_i ids2 l2' ht;injection f1 with f1;injection f1 with f1 _;rw[<- f1,(vG _ _ _ _ _ _).2.2,Gd];have h1:=(zBY _ _ _ _ ht).len;have h2:=zIY (jY G qm).size v.size (by omega) Ca.s256 Ca.s1024;have h3:=zQq (jY G qm).size v.size hv Ca.s256;rw[h2,uH] at h1;omega
   .cases f1
theorem zJ3{old:Nat}{n:zI}{key v:ByteArray}(hc:zCB G l)(ho:vK l old)(hl:n.leaf=true)(hr:zO n=true)(hw:zH n<=(G.size:Int)-24)(he:vU G gen n.entries ps q)(Am:jO key=true)(hv:v.size<=4096)
  (hq:q.Nodup) (hu:zAk l (λk=>k∈q)) (Ck:old≠0->old ∉ q) (Bn:G.cost+200<=1000000):zNV G l gen old n key v:=by
 obtain⟨m1,m2⟩:=zQz hc ho hl hr hw he Am hv hq hu Ck;have hs:=hc.s1024;have hf:=zGn hr (by omega);have A0:=vB hr;unfold zBB at A0;rw[if_pos hl] at A0;refine⟨hl,A0,by omega,λe Dk Dj Dl=>?_,m1,hc.low,hc.len,Bn,hv,λG1 l1 e hE=>?_⟩
 .obtain⟨x,ids,h1,h2⟩:=he.nth _ e Dk;rcases h1 with ⟨h1,_⟩|⟨_,h1⟩
  .exact absurd h1 Dl
  .obtain⟨w1,w2,w3,_⟩:=h1.walk hc.s256 hc.b256;have B1:qV G n key=ids:=by
    unfold qV;rw[Dk];simp only;rw[if_pos ⟨Dj,Dl⟩];have:=congrArg (List.map Int.toNat) w3;simp only[List.map_map] at this;rw[show (λx:Int × List UInt8=>x.1.toNat)=Int.toNat ∘ (·.1) from rfl,this];rw[show (Int.toNat ∘ λk:Nat=>(k:Int))=id from funext λk=>uH k,List.map_id]
   have Cr:∀i∈ids,i∈q:=λi hi=>h2.subset hi
   obtain⟨_,u2,_⟩:=zFE (G:=G) ids l (hq.sublist h2) (λi hi=>(h1.lt i hi).1) (λi hi=>hu i (Cr i hi));have H4:=h1.lo;have H5:=h1.hi;have H6:=h1.size;have Cs:0<ids.length:=by rw[h1.len];exact Nat.succ_pos _
   have H7:=h1.lt _ (zAm Cs);have hb:=hc.b256;have Ge:=h1.first;rw[B1];exact⟨w2,w1,w3,u2,by omega,by omega,by omega,by omega⟩
 .obtain⟨a1,a2,a3,a4,a5,a6⟩:=m2 G1 l1 e hE;exact⟨zMJ a1 a2 a3 a4 (by omega),a5,by omega⟩
theorem zHN{old:Nat}{n:zI}{o:zBH}(h:qG G l gen old n=.inl (G',l',o)):G'.cost<=G.cost+2:=by
 unfold qG at h;split at h
 .split at h
  .injection h with h;injection h with h _;rw[<- h];have:=(zDA G l gen old n).2.2;omega
  .cases h
 .split at h
  .cases h
  .rename_i a k b _;split at h
   .split at h
    .cases h
    .split at h
     .cases h
     .injection h with h;injection h with h _;rw[<- h];have:=(zDA G l gen old a).2.2;have:=(zDA (yQ G l gen old a) (yY G l old a) gen 0 b).2.2;omega
   .cases h
theorem zNW{key v:ByteArray}{e:zM}(hv:v.size<=4096)(h1:256<=G.size)(h2:G.size<=1024)(h:zBI G l gen key v=.inl (G',l',e)):G'.cost<=G.cost+18:=by
 unfold zBI at h;split at h
 .injection h with h;injection h with h _;rw[<- h];omega
 .split at h
  .rename_i ids2 l2' ht;injection h with h;injection h with h _;rw[<- h,(vG _ _ _ _ _ _).2.2];have h3:=(zBY _ _ _ _ ht).len;have h4:=zIY G.size v.size (by omega) h1 h2;have h5:=zQq G.size v.size hv h1;rw[h4,uH] at h3;omega
  .cases h
theorem zJ4{old:Nat}{n:zI}{key v:ByteArray}{o:zBH}(hv:v.size<=4096)(h1:256<=G.size)(h2:G.size<=1024)(h:zB6 G l gen old n key v=.inl (G',l',o)):G'.cost<=G.cost+20:=by
 unfold zB6 at h;split at h
 .cases h
 .rename_i G1 l1 e hE;obtain⟨s1,s2,s3,_⟩:=zCJ (qV G n key) G;have h3:=zNW hv (by rw[s2];exact h1) (by rw[s2];exact h2) hE;split at h
  .cases h
  .rename_i G2 l2 o2 hS;injection h with h;injection h with h _;rw[<- h];have:=zHN hS;omega
theorem zIl{key v:ByteArray}(hv:v.size<=4096):∀(f:Nat) (G:GA) (l:List Nat) (id:Nat) {G':GA} {l':List Nat} {o:zBH},256<=G.size->G.size<=1024->zC7 gen key v f G l id=.inl (G',l',o)->G'.cost<=G.cost+20+2 * f
 | 0,_,_,_,_,_,_,_,_,h=>by cases h
 | f+1,G,l,id,G',l',o,h1,h2,h=>by
  rw[zC7] at h;split at h
  .cases h
  .rename_i n hn;split at h
   .have:=zJ4 hv h1 h2 h;omega
   .split at h
    .cases h
    .rename_i G1 l1 o1 hP;have h3:=zIl hv f G l _ h1 h2 hP;split at h
     .cases h
     .rename_i G2 l2 o2 hS;injection h with h;injection h with h _;rw[<- h];have:=zHN hS;omega
theorem zRt{d f id:Nat}{n:zI}{key v:ByteArray}(hc:zCB G l)(hp:PgN G gen id n)(hr:zO n=true)(hl:n.leaf=false)(Bq:qY (vX G gen d) lo hi n.keys n.kids ps q)(hn:(id :: q).Nodup)(hu:zAk l (λk=>k∈id :: q))(hk:inB lo hi key)(hd:d<=f)(B5:f<=16)(Am:jO key=true)(hv:v.size<=4096)(Bn:G.cost+200<=1000000){G1:GA}{l1':List Nat}{o:zBH}
  (hP:zC7 gen key v f G l (n.kids.getD (vZ key n.keys) 0).toNat=.inl (G1,l1',o)):zIj G1 l1' id (zDe n (vZ key n.keys) o)/\FrG G l G1 l1':=by
 have hid:id ∉ q/\q.Nodup:=uV.1 hn;have A6:id≠0:=by have:=hp.lo;omega
 have Ad:zAk l (λk=>k∈q):=λk hk=>hu k (uJ _ hk)
 have An:vK l id:=.inr ⟨hp.lo,hu id uK⟩;obtain⟨k1,k2,c1,c,c2,l1,lm,l2,q1,qm,q2,lo',hi',e1,e2,e3,e4,rfl,rfl,e7,e8,e9,e10,e11⟩:=Bq.at_ (vX.bounds d) hk;have Ae:n.kids.getD (vZ key n.keys) 0=(c:Int):=by
  rw[e4,e2,<- e3];simp[List.getD]
 rw[Ae,uH] at hP;have B2:=uX.1 hid.2;have A3:=uX.1 B2.2.1;have C9:zAk l (λk=>k∈qm):=λk hk=>Ad k (by simp[hk])
 have Dm:=zIl hv f G l c hc.s256 hc.s1024 hP;rcases zKv (gen:=gen) Am hv d f G l c lo' hi' lm qm hc e7 A3.1 C9 e8 hd with ⟨a1,_⟩|⟨G1',l1'',o',qm',a1,a2,a3,a4⟩
 .rw[a1] at hP;cases hP
 .rw[a1] at hP;injection hP with hP;injection hP with Cn B3;injection B3 with B3 Co;subst Cn B3 Co;have u4:=a3.upd;have Bg:∀k,k∈qm->2<=k:=λk hk=>(e7 |> vX.ltq d lo' hi' c lm qm) k hk |>.1
  have Cq:∀k∈q1++q2,¬ (k∈qm):=λk hk hm=>by
   rcases uM.1 hk with hk|hk
   .exact B2.2.2 k hk k (by simp[hm]) rfl
   .exact A3.2.2 k hm k hk rfl
  obtain⟨z1,z2⟩:=u4.views Cq (λk hk=>Ad k (by rcases uM.1 hk with hk|hk <;> simp[hk]));have Cp:=zDg u4 An (λ_ hm=>hid.1 (by simp[hm]));obtain⟨n',hn'⟩:∃n',n'=zDe n (vZ key n.keys) o':=⟨_,rfl⟩;have hK:=e11 (vX G1' gen d) _ _ _ _ a3.kids (λlo hi c l p hp h=>vX.mono (uD _) u4.bl u4.sz d lo hi c l p (λi hi=>(z1 i (by rcases hp i hi with h|h <;> simp[h])).1) h);have hj:n' = { n with kids:=c1++(zBL o'++c2),keys:=k1++(jH o'++k2) }:=by
   rw[hn',zMA,e1,e2,show vZ key (k1++k2)=k1.length by rw[<- e1];exact e4];have t1:(c1++(c:Int) :: c2).take k1.length=c1:=by rw[<- e3];simp
   have t2:(c1++(c:Int) :: c2).drop (k1.length+1)=c2:=by rw[<- e3];simp
   rw[t1,t2];simp
  have hleaf':n'.leaf=false:=by rw[hj];exact hl
  have hents':n'.entries=n.entries:=by rw[hj]
  have A0:=vB hr;unfold zBB at A0;rw[if_neg (by rw[hl];simp)] at A0;have hkeys':n'.keys=k1++(jH o'++k2):=by rw[hj]
  have hkids':n'.kids=c1++(zBL o'++c2):=by rw[hj]
  have H8:yW n'.keys<=yW n.keys+37:=by
   rw[hkeys',e1,jP,jP,jP];have:yW (jH o')<=37:=by
    unfold jH;split
    .rename_i h2;have:=a3.keys o'.key (by unfold jH;rw[if_pos h2];simp);have:=(zA5 _).1 this;simp[yW];omega
    .simp[yW]
   omega
  have Gb:zH n=6+yW n.keys:=by unfold zH;rw[hl,A0.1];simp[yM]
  have hwt':zH n'=6+yW n'.keys:=by unfold zH;rw[hleaf',hents',A0.1];simp[yM]
  have Dn:∀i∈qm',i ∉ q1++q2/\i≠id:=λi hi=>by
   refine⟨λhm=>(z1 i hm).2.2 hi,λe=>?_⟩;subst e;exact (u4.view (i:=i) (λhm=>hid.1 (by simp[hm])) (hu.ne0 uK)).2.2 hi
  have hq':(q1++(qm'++q2)).Nodup:=by
   refine uX.2 ⟨B2.1,uX.2 ⟨a3.nodup,A3.2.1,λa ha b hb e=>?_⟩,λa ha b hb e=>?_⟩
   .subst e;exact (Dn a ha).1 (by simp[hb])
   .subst e;rcases uM.1 hb with hb|hb
    .exact (Dn a hb).1 (by simp[ha])
    .exact B2.2.2 a ha a (by simp[hb]) rfl
  have hr':zO n'=true:=by
   have e:n'=⟨false,[],n'.keys,n'.kids⟩:=by rw[hj];simp[hl,A0.1]
   rw[e,hkeys',hkids'];refine hK.right hq' (λs hs=>?_) ?_ a3.ctx.b256
   .rcases uM.1 hs with hs|hs
    .exact zBt hr s (by rw[e1];simp[hs])
    .rcases uM.1 hs with hs|hs
     .exact a3.keys s hs
     .exact zBt hr s (by rw[e1];simp[hs])
   .have h2:2<=n.kids.length:=(zFH hr).2.2 hl;rw[e2] at h2;have:1<=(zBL o').length:=by unfold zBL;split <;> simp
    simp at h2 ⊢;omega
  rw[<- hn'];exact⟨zMJ a3.ctx Cp hr' (by rw[u4.sz,hwt'];have:=hp.fit;omega) (by omega),u4.fr Bg⟩
end
end
section
open Go.RowKit
attribute [local go_sem ↓] Go.wp_at_zero Go.wp_at_succ
section
variable {P P0 P' F F0 F':NP}{ad:Nat->Addr}{w0 w w':World}{c s:Nat}{G:GA}{l:List Nat}
theorem zOM[zQ](hN:zX P0 P F0 F ad w0 w)(hG:jK F w P c s G l)(cs:Array Value)(t:TypeId)(h0:w0.heap.size<=w.heap.size) :
  zX P P F (λk=>F k\/k=w.heap.size) ad w (w.alloc (.cells cs t))/\jK (λk=>F k\/k=w.heap.size) (w.alloc (.cells cs t)) P c s G l/\jZ (λk=>F k\/k=w.heap.size) P w0 (w.alloc (.cells cs t)) w.heap.size cs t:=by
 have m:=(zA.refl (λ_=>False) w).alloc (.cells cs t);refine⟨zX.new hN.env hN.sub (Q:=λk=>k=w.heap.size) m (λk hk=>by omega) (λk hk=>by simp;omega),hG.plusNew hN.sub (Q:=λk=>k=w.heap.size) m (λk hk=>by omega),⟨zG.new w _ _,.inr rfl,λhp=>by have:=hG.bd _ hp;omega,h0⟩⟩
theorem zNQ.q[zQ]{r:StA zBH}{e:Ending}(h:zNQ F P ad w c s G l r e w'):∃(P' F':NP) (G':GA) (l':List Nat) (o:zBH) (ev:Value),jK F' w' P' c s G' l'/\zX P P' F F' ad w w'/\e=.returned (.tuple #[.agg #[.int .i64 (o.id0:Int),.int .i64 (o.id1:Int),.string o.key,.bool o.two,.bool o.news],ev]) /\
  ((r=.inl (G',l',o)/\ev=.nilIface)\/(∃k f el,r=.inr k/\FrG G l G' l'/\ev=zP f/\vN F' ad w' (zP f) el k)):=by
 obtain⟨P',F',G',l',h1,h2,⟨o,h3,h4⟩|⟨k,o,f,el,h3,h4,h5,h6⟩⟩:=h
 .exact⟨P',F',G',l',o,_,h1,h2,h4,.inl ⟨h3,rfl⟩⟩
 .exact⟨P',F',G',l',o,_,h1,h2,h5,.inr ⟨k,f,el,h3,h4,rfl,h6⟩⟩
theorem Sl.two{α:Type}{sz:Nat}{enc:α->List Value}{x y:α}{b:Nat}{t:TypeId}{fz:Nat × Nat}(Ct:∀x,(enc x).length=sz)(h:w.heap[b]? = some (.cells (enc x++enc y).toArray t fz))(hF:¬ F b):Sl F w sz enc (.slice (some ⟨b,0,none⟩) 2 2) [x,y]:=by
 refine⟨_,2,rfl,uD _,by simp[maxLen],by simp,.inr ⟨b,0,rfl,(tC.1 h).1,hF,λi z hi j u hu=>?_⟩⟩;rw[qS h];have hl:=zDI Ct [x,y] i z j u hi hu;simpa using hl
theorem zHO{v:Value}{b o:Nat}(m:zA P w w')(h:w.cell? ⟨b,o,none⟩=some v)(hn:¬ P b):w'.cell? ⟨b,o,none⟩=some v:=(m.cell (yN h) hn).trans h
def zTN[zQ](F P:NP)(ad:Nat->Addr)(w:World)(c s gen D:Nat)(nd:Array Value)(n:zI)(ve vk vi:Value)(G:GA)(l:List Nat)(r:StA zBH)(X:Nat)(ev:Value)(wx:World):Prop :=
 ∃(P' F':NP) (G':GA) (l':List Nat) (o:zBH),jK F' wx P' c s G' l'/\zX P P' F F' ad w wx/\jZ F' P' w wx w.heap.size (gP c s gen) 117 /\ jZ F' P' w wx (w.heap.size+1) zAV 255 /\ jZ F' P' w wx D nd 200 /\
  jZ F' P' w wx X (zJJ o) 255 /\ Sl F' wx 4 zAQ ve n.entries/\Sl F' wx 1 vW vk n.keys/\Sl F' wx 1 yI vi n.kids /\
  ((r=.inl (G',l',o)/\ev=.nilIface)\/(∃k f el,r=.inr k/\FrG G l G' l'/\ev=zP f/\vN F' ad wx (zP f) el k))
def zSa[zQ](F P:NP)(ad:Nat->Addr)(w:World)(c s gen D X:Nat)(n':zI)(o:zBH)(G':GA)(l':List Nat)(ve vk vi:Value)(wx:World):Prop :=
 ∃(P' F':NP),jK F' wx P' c s G' l'/\zX P P' F F' ad w wx/\jZ F' P' w wx w.heap.size (gP c s gen) 117 /\ jZ F' P' w wx (w.heap.size+1) zAV 255 /\ jZ F' P' w wx D #[.bool false,ve,vk,vi] 200 /\
  jZ F' P' w wx X (zJJ o) 255 /\ Sl F' wx 4 zAQ ve n'.entries/\Sl F' wx 1 vW vk n'.keys/\Sl F' wx 1 yI vi n'.kids
set_option maxRecDepth 100000 in
set_option maxHeartbeats 8000000 in
theorem zIm[zQ]{gen:Nat}(B6:gen<18446744073709551616){key v:ByteArray}(Am:jO key=true)(hv:v.size<=4096):∀(d f:Nat) {F P:NP} {w:World} {G:GA} {l:List Nat} (id:Nat) (lo:ByteArray) (hi:Option ByteArray) (ps:List zL) (pgs:List Nat) (dep:Nat),yH F ad w->(∀k,P k->F k)->jK F w P c s G l->zCB G l->vX G gen d lo hi id ps pgs->pgs.Nodup->zAk l (λk=>k∈pgs)->inB lo hi key->d<=f->dep+f=17->f<=16->G.cost+300<=1000000 ->
  Calls Tryz.prog 146 #[pgV c s gen,.int .i64 (id:Int),.int .i64 (dep:Int),.string key,.string v] w (zNQ F P ad w c s G l (zC7 gen key v f G l id))
 | 0,_,_,_,_,_,_,_,_,_,_,_,_,_,_,_,_,h,_,_,_,_,_,_,_=>h.elim
 | d+1,0,_,_,_,_,_,_,_,_,_,_,_,_,_,_,_,_,_,_,_,h,_,_,_=>by omega
 | d+1,f+1,F,P,w,G,l,id,lo,hi,ps,pgs,dep,hL,hP,h,hc,hT,hn,hu,hk,hf,Br,B5,Bn=>by
  obtain⟨n,q,hp,hr,rfl,hb⟩:=hT;obtain⟨Af,Aw⟩:=zKu hp;have Do:=(GA.node_load Aw).1;have hid:id ∉ q/\q.Nodup:=uV.1 hn;have A6:id≠0:=by have:=hp.lo;omega
  have Ad:zAk l (λk=>k∈q):=λk hk=>hu k (uJ _ hk)
  have An:vK l id:=.inr ⟨hp.lo,hu id uK⟩;have Gf:(dep:Int)<=16:=by omega
  obtain⟨lf,Dp⟩:∃lf,n.leaf=lf:=⟨_,rfl⟩;have Ag:=oh Dp;obtain⟨w1,Bh⟩:∃w1,w1=(w.alloc (gP c s gen)).alloc (.cells zAV 255):=⟨_,rfl⟩;have m0:zF w w1:=by rw[Bh];exact ((zss w).alloc _).alloc _
  have hz:w1.heap.size=w.heap.size+2:=by rw[Bh];simp
  have hN:zX P P F (λk=>F k\/(w.heap.size<=k/\k<w1.heap.size)) ad w w1:=zX.new hL hP (Q:=λk=>w.heap.size<=k/\k<w1.heap.size) m0 (λk hk=>hk.1) (λk hk=>hk.2);have HB:=oh (show jZ (λk=>F k\/(w.heap.size<=k/\k<w1.heap.size)) P w w1 w.heap.size (gP c s gen) 117 from ⟨by rw[Bh];exact (zG.new w _ _).alloc _,.inr ⟨by omega,by omega⟩,λhp=>by have:=h.bd _ hp;omega,by omega⟩);have HR:=oh (show jZ (λk=>F k\/(w.heap.size<=k/\k<w1.heap.size)) P w w1 (w.heap.size+1) zAV 255 from ⟨by rw[Bh];exact zS (by simp),.inr ⟨by omega,by omega⟩,λhp=>by have:=h.bd _ hp;omega,by omega⟩);have HG:=oh (h.plusNew hP (Q:=λk=>w.heap.size<=k/\k<w1.heap.size) m0 (λk hk=>hk.1));have Bs:=zLy hN.env hN.sub HG.out gen (id:Int) Do;rw[Af] at Bs;unfold pgV at Bs;have Bs:=oh Bs;have HN:=oh hN;have b0:=HB.out.blk.k 0 rfl;have b1:=HB.out.blk.k 1 rfl;have b2:=HB.out.blk.k 2 rfl;have Gg:=oh Bh;have Dq:=oh (And.intro hn (And.intro hid (And.intro A6 (And.intro Ad (And.intro An hu)))));have HC:=oh hc;have HK:=oh hk;have Bi:=oh hr;have Cb:=oh hb;have B7:=oh hp.fit;have Cu:=oh hp;have Dr:=oh Af;have Cv:=oh (And.intro hf (And.intro Br B5));have HZ:=oh hz;clear hL hP h m0 hN Bh hn hid A6 Ad An hu hc hk hr hb hp Af Do Aw hf Br B5 hz;unfold pgV
  go_enter Tryz.func146, Tryz.ntmps146
  go_wp2_with fail;rw[<- Gg.out];refine Bs.out.mono ?_;rintro e w2 ⟨P2,F2,Ds,Ai,ve,vk,vi,rfl,Dt,Du,Dv⟩;rw[Ag.out];obtain⟨g1,g2,g3⟩:=zOM (w0:=w) (HN.out.trans Ai) Ds #[.bool lf,ve,vk,vi] 200 (by have:=Ai.size;have:=HZ.out;omega);obtain⟨w3,B8⟩:∃w3,w3=w2.alloc (.cells #[.bool lf,ve,vk,vi] 200):=⟨_,rfl⟩;obtain⟨D,hD⟩:∃D,D=w2.heap.size:=⟨_,rfl⟩;obtain⟨F3,Dw⟩:∃F3:NP,F3=λk=>F2 k\/k=w2.heap.size:=⟨_,rfl⟩
  rw[<- Dw,<- B8] at g1 g2 g3;rw[<- hD] at g3;have Dx:=HN.out.trans (Ai.trans g1);have Cc:=oh ((HB.out.nxt Ai).nxt g1);have Ax:=oh ((HR.out.nxt Ai).nxt g1);have Dy:=oh g2;have Bt:=oh g3;have Cw:=oh (g1.sl Ai.sub (F:=F2) Dt);have Cx:=oh (g1.sl Ai.sub (F:=F2) Du);have Cd:=oh (g1.sl Ai.sub (F:=F2) Dv);have B9:=oh Dx;have Cy:Hid (w.heap.size+2<=D/\D<w3.heap.size):=oh ⟨by rw[hD];have:=Ai.size;have:=HZ.out;omega,by rw[hD,B8];simp⟩;obtain⟨ea,ec,rfl,H9, -, -, -⟩:=Dt;obtain⟨ka,kc,rfl, -, -, -, -⟩:=Du;obtain⟨ia,ic,rfl,Ha, -, -, -⟩:=Dv;have b0:=Cc.out.blk.k 0 rfl;have b1:=Cc.out.blk.k 1 rfl;have b2:=Cc.out.blk.k 2 rfl;have r0:=Ax.out.blk.k 0 rfl;have r1:=Ax.out.blk.k 1 rfl;have r2:=Ax.out.blk.k 2 rfl;have r3:=Ax.out.blk.k 3 rfl;have r4:=Ax.out.blk.k 4 rfl;have rf:=Ax.out.blk.frozen;have n0:=Bt.out.blk.k 0 rfl;have n1:=Bt.out.blk.k 1 rfl;have n2:=Bt.out.blk.k 2 rfl;have n3:=Bt.out.blk.k 3 rfl;have b0x:(w2.alloc (.cells #[.bool lf,.slice ea n.entries.length ec,.slice ka n.keys.length kc,.slice ia n.kids.length ic] 200)).cell? ⟨w.heap.size,0,none⟩=some (.pointer (some ⟨c,0,none⟩)):=by rw[<- B8];exact b0
  have b1x:(w2.alloc (.cells #[.bool lf,.slice ea n.entries.length ec,.slice ka n.keys.length kc,.slice ia n.kids.length ic] 200)).cell? ⟨w.heap.size,1,none⟩=some (.pointer (some ⟨s,0,none⟩)):=by rw[<- B8];exact b1
  have b2x:(w2.alloc (.cells #[.bool lf,.slice ea n.entries.length ec,.slice ka n.keys.length kc,.slice ia n.kids.length ic] 200)).cell? ⟨w.heap.size,2,none⟩=some (.int .u64 (gen:Int)):=by rw[<- B8];exact b2
  have Dz:=oh B8;have Gh:=oh hD;clear g1 g2 g3 Dx Ds Ai B8 hD Dw Dp;cases lf with
  | true =>
   go_wp2_with fail;rw[<- Dz.out];obtain⟨hn,hid,A6,Ad,An,hu⟩:=Dq.out;have E0:d=0/\vU G gen n.entries ps q/\∀x∈ps,inB lo hi x.1:=by
    rcases Cb.out with ⟨_,h2,_,h4,h5⟩|⟨h1,_⟩
    .exact⟨h2,h4,h5⟩
    .rw[Ag.out] at h1;cases h1
   have E1:=zJ3 (gen:=gen) (old:=id) HC.out An Ag.out Bi.out B7.out E0.2.1 Am hv hid.2 Ad (λ_=>hid.1) (by omega);have Ce:=zHM n key v B9.out.env B9.out.sub Dy.out gen id B6 _ _ _ Cw.out Cx.out Cd.out E1;unfold pgV at Ce;have Bj:Hid (zC7 gen key v (f+1) G l id=zB6 G l gen id n key v):=oh (by rw[zC7,Dr.out];simp only;rw[if_pos Ag.out]);have Ce:=oh Ce;clear hn hid A6 Ad An hu E0 E1 b0x b1x b2x;refine Ce.out.mono ?_;rintro e w7 ⟨P7,F7,G7,l7,Bu,Ay,hr⟩;have A2:=oh (Ax.out.nxt Ay);have Ba:=oh Bu;have Aj:=oh (B9.out.trans Ay);have q0:=A2.out.blk.k 0 rfl;have q1:=A2.out.blk.k 1 rfl;have q2:=A2.out.blk.k 2 rfl;have q3:=A2.out.blk.k 3 rfl;have q4:=A2.out.blk.k 4 rfl;have qf:=A2.out.blk.frozen;clear Bu Ay;rcases hr with ⟨o,hs,rfl⟩|⟨k,o,f2,el,hs,Ah,rfl,hE⟩
   .have HS:=oh hs;clear hs;unfold zJJ;go_wp2_with fail;have mR:=zA.set5 (F:=λk=>k=w.heap.size+1) (zss w7) (R:=w.heap.size+1) (.inr rfl) (.int .i64 (o.id0:Int)) (.int .i64 (o.id1:Int)) (.string o.key) (.bool o.two) (.bool o.news);have bR:=A2.out.blk.set5 (.int .i64 (o.id0:Int)) (.int .i64 (o.id1:Int)) (.string o.key) (.bool o.two) (.bool o.news);refine bodyPost_ret (zC rfl _ _ (w.heap.size+1) 255 _ _ rfl bR Tryz.underlying255 rfl Tryz.outSz) rfl ?_;exact⟨P7,F7,G7,l7,Ba.out.var A2.out mR,Aj.out.var A2.out mR,.inl ⟨o,by rw[Bj.out,HS.out],rfl⟩⟩
   .have HS:=oh hs;have HE:=oh hE;have Cz:=oh Ah;clear hs hE Ah;unfold zJJ;go_wp2_with fail;have mR:=zA.set5 (F:=λk=>k=w.heap.size+1) (zss w7) (R:=w.heap.size+1) (.inr rfl) (.int .i64 (o.id0:Int)) (.int .i64 (o.id1:Int)) (.string o.key) (.bool o.two) (.bool o.news);have bR:=A2.out.blk.set5 (.int .i64 (o.id0:Int)) (.int .i64 (o.id1:Int)) (.string o.key) (.bool o.two) (.bool o.news);refine bodyPost_ret (zC rfl _ _ (w.heap.size+1) 255 _ _ rfl bR Tryz.underlying255 rfl Tryz.outSz) rfl ?_;exact⟨P7,F7,G7,l7,Ba.out.var A2.out mR,Aj.out.var A2.out mR,.inr ⟨k,o,f2,el,by rw[Bj.out,HS.out],Cz.out,rfl,HE.out.mods (A2.out.mF mR)⟩⟩
  | false =>
   obtain⟨hn,hid,A6,Ad,An,hu⟩:=Dq.out;have Bq:qY (vX G gen d) lo hi n.keys n.kids ps q:=by
    rcases Cb.out with ⟨h1,_⟩|⟨_,h2⟩
    .rw[Ag.out] at h1;cases h1
    .exact h2
   obtain⟨k1,k2,c1,ck,c2,l1,lm,l2,q1,qm,q2,lo',hi',e1,e2,e3,e4,rfl,rfl,e7,e8, -, -, -⟩:=Bq.at_ (vX.bounds d) HK.out;obtain⟨at_,Bk⟩:∃at_,at_=vZ key n.keys:=⟨_,rfl⟩
   rw[<- Bk] at e4;have Ao:n.kids[at_]? = some (ck:Int):=by rw[e4,e2,<- e3];simp
   have Ae:n.kids.getD at_ 0=(ck:Int):=by simp[List.getD,Ao]
   have A3:=uX.1 (uX.1 hid.2).2.1;obtain⟨D0,D1,D2⟩:=Cv.out;have E2:=oh (λ(F':NP) (W:World) (hL:yH F' ad W) (hP:∀k,P2 k->F' k) (h:jK F' W P2 c s G l)=>zIm B6 Am hv d f ck lo' hi' lm qm (dep+1) hL hP h HC.out e7 A3.1 (λk hk=>Ad k (by simp[hk])) e8 (by omega) (by omega) (by omega) (by omega));have Bj:Hid (zC7 gen key v (f+1) G l id=match zC7 gen key v f G l ck with
    | .inr k=>.inr k
    | .inl (G1,l1,o)=>match qG G1 l1 gen id (zDe n at_ o) with
     | .inr k=>.inr k
     | .inl (G2,l2,o2)=>.inl (G2,l2,{ o2 with news:=o.news })):=oh (by
    rw[zC7,Dr.out];simp only;rw[if_neg (by rw[Ag.out];simp),<- Bk,Ae,uH];rfl)
   have D3:=oh (λ(G1:GA) (l1':List Nat) (o:zBH) (h:zC7 gen key v f G l ck=.inl (G1,l1',o))=>zRt (f:=f) (G1:=G1) (l1':=l1') (o:=o) HC.out ⟨(vX.ltq (G:=G) (gen:=gen) (d+1) lo hi id _ _ ⟨n,_,Cu.out,Bi.out,rfl,Cb.out⟩ id uK).1,(vX.ltq (G:=G) (gen:=gen) (d+1) lo hi id _ _ ⟨n,_,Cu.out,Bi.out,rfl,Cb.out⟩ id uK).2,Cu.out.page,B7.out⟩ Bi.out Ag.out Bq hn hu HK.out (by omega) (by omega) Am hv (by omega) (by rw[<- Bk,Ae,uH];exact h));have halt:=(uA.1 Ao).1;have Gi:n.kids.length=n.keys.length+1:=(zB2 Bi.out Ag.out).2.1;have A9:=oh (zGn Bi.out (by have:=B7.out;have:=HC.out.s1024;omega));have Bb:Hid (at_<=n.keys.length/\at_<n.kids.length):=oh ⟨by omega,halt⟩;have i1:(0:Int)<=(at_:Int):=by omega
   have i2:(at_:Int)<(n.kids.length:Int):=by omega
   have Hb:IntKind.i64.wrap ((dep:Int)+1)=((dep+1:Nat):Int):=by rw[IntWalk.i64_in _ (by omega)];omega
   have Gj:=oh Bk;obtain⟨kb,koff,rfl,Gk,E3⟩:=zQy Cd.out Ao;have k0:w3.cell? ⟨kb,koff+at_,none⟩=some (.int .i64 (ck:Int)):=by have:=E3 0 _ rfl;simpa using this
   have Bv:¬ P2 kb:=λhp=>by
    obtain⟨a,cap,e,_,_,_,h4⟩:=Cd.out;injection e with e _ _;subst e;rcases h4 with h4|⟨b,off,ha,_,hF,_⟩
    .rw[h4] at halt;simp at halt
    .injection ha with ha;injection ha with ha _;subst ha;exact hF (B9.out.sub _ hp)
   have Bw:=oh Bv;have Cf:=zC4 (w:=w3) n key _ _ (.slice (some ⟨kb,koff,none⟩) n.kids.length ic) Cw.out Cx.out;rw[Ag.out,zEu Ag.out key,<- Bk] at Cf;have Cf:=oh Cf;clear hn hid A6 Ad An hu Bq e1 e2 e3 e4 e7 e8 Ao Ae A3 D0 D1 D2 halt Gi Bk E3 Bv;go_wp2_with fail;rw[<- Dz.out,<- Gh.out];refine Cf.out.mono ?_;rintro e w4 ⟨rfl,A7⟩;have Bl:=B9.out.trans (zX.ext B9.out.env B9.out.sub A7);have D4:=Dy.out.at A7;have E4:=oh (Cc.out.ext A7);have E5:=oh (Ax.out.ext A7);have E6:=oh (Bt.out.ext A7);have E7:=oh (Cw.out.ext A7);have E8:=oh (Cx.out.ext A7);have E9:=oh (Cd.out.ext A7);have b0:=zE A7 b0;have b1:=zE A7 b1;have b2:=zE A7 b2;have n3:=zE A7 n3;have k0:=zE A7 k0;have Ap:=(zA.refl (λ_=>False) w4).drew;obtain⟨g1,g2,g3⟩:=zOM (w0:=w) Bl D4 zAV 255 Bl.size;obtain⟨F4,Ea⟩:∃F4:NP,F4=λk=>F3 k\/k=w4.heap.size:=⟨_,rfl⟩
   rw[<- Ea] at g1 g2 g3;have Ak:=oh g1;have HG3b:=oh g3;have Bx:=oh (E2.out F3 w4.drew (Bl.env.mods Ap.ext) Bl.sub (D4.at Ap));have Aq:=(zA.refl (λ_=>False) (w4.alloc (.cells zAV 255))).drew;have By:=oh (E2.out F4 (w4.alloc (.cells zAV 255)).drew (g1.env.mods Aq.ext) g1.sub (g2.at Aq));have Al:=oh Bl;have b0a:=zR b0 (.cells zAV 255);have b1a:=zR b1 (.cells zAV 255);have b2a:=zR b2 (.cells zAV 255);have n3a:=zR n3 (.cells zAV 255);have k0a:=zR k0 (.cells zAV 255);have Bz:Hid (w.heap.size+2<=D/\D<w4.heap.size):=oh ⟨Cy.out.1,by have:=Cy.out.2;have:=A7.size;omega⟩;have ne0:=World.new_ne w4 _ b0;have ne1:=World.new_ne w4 _ b1;have ne2:=World.new_ne w4 _ b2;have ne3:=World.new_ne w4 _ n3;have ne4:=World.new_ne w4 _ k0;unfold pgV at Bx By;clear Bl D4 g1 g2 g3 Ea Ap Aq A7 r0 r1 r2 r3 r4 rf n0 n1 n2 b0x b1x b2x;go_wp2_with fail;go_cut [13,16] (λv13 v16 wx=>∃X ev,v16=.pointer (some ⟨X,0,none⟩)/\v13=ev/\Hid (X<wx.heap.size/\D<X)/\Hid (zTN F P ad w c s gen D #[.bool false,.slice ea n.entries.length ec,.slice ka n.keys.length kc,.slice (some ⟨kb,koff,none⟩) n.kids.length ic] n (.slice ea n.entries.length ec) (.slice ka n.keys.length kc) (.slice (some ⟨kb,koff,none⟩) n.kids.length ic) G l (zC7 gen key v f G l ck) X ev wx))
   case first =>
    go_region_held3 (λw'=>w'.cell? ⟨w.heap.size,0,none⟩=some (.pointer (some ⟨c,0,none⟩))/\w'.cell? ⟨w.heap.size,1,none⟩=some (.pointer (some ⟨s,0,none⟩))/\w'.cell? ⟨w.heap.size,2,none⟩=some (.int .u64 (gen:Int))/\w'.cell? ⟨D,3,none⟩=some (.slice (some ⟨kb,koff,none⟩) n.kids.length ic)/\w'.cell? ⟨kb,koff+at_,none⟩=some (.int .i64 (ck:Int)))
     (first|(with_reducible exact⟨b0,b1,b2,n3,k0⟩)|(with_reducible exact⟨b0a,b1a,b2a,n3a,k0a⟩)|(with_reducible exact⟨x0,x1,x2,x3,x4⟩)|go_keep)
     (first
      | (go_at_call 146;refine (Bx.out).mono ?_;rintro e w9 hq;obtain⟨P9,F9,G9,l9,o,ev,D5,A1,rfl,D6⟩:=hq.q;have Ar:=(E4.out.ext (zss w4).drew).nxt A1;have Aa:=(E6.out.ext (zss w4).drew).nxt A1;have x0:=Ar.blk.k 0 rfl;have x1:=Ar.blk.k 1 rfl;have x2:=Ar.blk.k 2 rfl;have x3:=Aa.blk.k 3 rfl;have x4:=zHO (w:=w4.drew) A1.stp.mods k0 Bw.out)
      | (go_at_call 146;refine (By.out).mono ?_;rintro e w9 hq;obtain⟨P9,F9,G9,l9,o,ev,D5,A1,rfl,D6⟩:=hq.q;have Ar:=(((E4.out.nxt Ak.out)).ext zr.drew).nxt A1;have Aa:=((E6.out.nxt Ak.out).ext zr.drew).nxt A1;have x0:=Ar.blk.k 0 rfl;have x1:=Ar.blk.k 1 rfl;have x2:=Ar.blk.k 2 rfl;have x3:=Aa.blk.k 3 rfl;have x4:=zHO (w:=(w4.alloc (.cells zAV 255)).drew) A1.stp.mods k0a Bw.out;have A8:=(HG3b.out.ext zr.drew).nxt A1;have y0:=A8.blk.k 0 rfl;have y1:=A8.blk.k 1 rfl;have y2:=A8.blk.k 2 rfl;have y3:=A8.blk.k 3 rfl;have y4:=A8.blk.k 4 rfl;have yf:=A8.blk.frozen)
      | fail)
    .go_wp2_with fail;go_meet;have Ap:=(zA.refl (λ_=>False) w4).drew;have D7:=Al.out.trans (zX.ext Al.out.env Al.out.sub Ap);have C0:=D7.trans A1;obtain⟨j1,j2,j3⟩:=zOM (w0:=w) C0 D5 (zJJ o) 255 C0.size;have D8:=(E5.out.ext Ap).nxt A1;refine⟨w9.heap.size,ev,rfl,rfl,oh ⟨by simp,by have:=A1.size;have:=Bz.out;exact uF this.2 A1.size⟩,oh ⟨P9,_,G9,l9,o,j2,C0.trans j1,Ar.nxt j1,D8.nxt j1,Aa.nxt j1,j3,j1.sl A1.sub (A1.sl Al.out.sub (E7.out.ext Ap)),j1.sl A1.sub (A1.sl Al.out.sub (E8.out.ext Ap)),j1.sl A1.sub (A1.sl Al.out.sub (E9.out.ext Ap)),?_⟩⟩;rcases D6 with h9|⟨k,f9,el,h1,h2,h3,h4⟩
     .exact .inl h9
     .exact .inr ⟨k,f9,el,h1,h2,h3,j1.errc A1.sub h4⟩
    .go_wp2_with fail;go_meet;have Aq:=(zA.refl (λ_=>False) (w4.alloc (.cells zAV 255))).drew;have D9:=Al.out.trans Ak.out;have C0:=(D9.trans (zX.ext D9.env D9.sub Aq)).trans A1;have mX:=zA.set5 (F:=λk=>k=w4.heap.size) (zss w9) (R:=w4.heap.size) (.inr rfl) (.int .i64 (o.id0:Int)) (.int .i64 (o.id1:Int)) (.string o.key) (.bool o.two) (.bool o.news);have D8:=((E5.out.nxt Ak.out).ext Aq).nxt A1;have A4:=A8.mF mX;have Gl:=Bz.out;refine⟨w4.heap.size,ev,rfl,rfl,oh ⟨uF A8.blk.lt mX.size,Gl.2⟩,oh ⟨P9,F9,G9,l9,o,D5.var A8 mX,C0.var A8 mX,Ar.other mX (by omega),D8.other mX (by omega),Aa.other mX (by omega),⟨A8.blk.set5 _ _ _ _ _,A8.f,A8.p,A8.new⟩,(A1.sl Ak.out.sub ((Ak.out.sl Al.out.sub E7.out).ext Aq)).mods A4,(A1.sl Ak.out.sub ((Ak.out.sl Al.out.sub E8.out).ext Aq)).mods A4,(A1.sl Ak.out.sub ((Ak.out.sl Al.out.sub E9.out).ext Aq)).mods A4,?_⟩⟩;rcases D6 with h9|⟨k,f9,el,h1,h2,h3,h4⟩
     .exact .inl h9
     .exact .inr ⟨k,f9,el,h1,h2,h3,h4.mods A4⟩
   obtain⟨X,ev,rfl,rfl,Eb,Ec⟩:=hcut;obtain⟨w5,Ed⟩:∃w5,w5=wc:=⟨_,rfl⟩;rw[<- Ed] at Eb Ec ⊢;obtain⟨P5,F5,G5,l5,o,Ee,Ef,Eg,Eh,Ei,Ej,Ek,El,Em,hr⟩:=Ec.out;have Da:=oh Ee;have Az:=oh Ef;have En:=oh Eg;have Ab:=oh Eh;have C1:=oh Ei;have Bm:=oh Ej;have Eo:=oh Ek;have Ep:=oh El;have Eq:=oh Em;have Hc:=Eb.out;have Hd:=Cy.out;clear Ee Ef Eg Eh Ei Ej Ek El Em Ed b0 b1 b2 n3 k0 b0a b1a b2a n3a k0a ne0 ne1 ne2 ne3 ne4 i1 i2;rcases hr with ⟨hs,rfl⟩|⟨k,f5,el,hs,Ah,rfl,hE⟩
   .obtain⟨Er,Ah⟩:=D3.out _ _ _ hs;have HS:=oh hs;have Gm:=oh Er;have Cz:=oh Ah;obtain⟨tw,Db⟩:∃tw,o.two=tw:=⟨_,rfl⟩;have x0:=Bm.out.blk.d 0 (.int .i64 (o.id0:Int)) rfl;have x1:=Bm.out.blk.d 1 (.int .i64 (o.id1:Int)) rfl;have x2:=Bm.out.blk.d 2 (.string o.key) rfl;have x3:=Bm.out.blk.d 3 (.bool o.two) rfl;rw[Db] at x3;have n2:=C1.out.blk.k 2 rfl;have n3:=C1.out.blk.k 3 rfl;have nf:=C1.out.blk.frozen;have Es:=oh Db;obtain⟨n',hn'⟩:∃n',n'=zDe n at_ o:=⟨_,rfl⟩
    have HN':=oh hn';clear hs Er Ah Db hn';go_upto_if 69 with fail
    go_cut [] (λwx=>∃(ka':Option Addr) (kc':Nat) (ia':Option Addr) (ic':Nat),Hid (zSa F P ad w c s gen D X n' o G5 l5 (.slice ea n.entries.length ec) (.slice ka' n'.keys.length kc') (.slice ia' n'.kids.length ic') wx))
    case first =>
     have Dc:X≠D:=by omega
     have He:D≠X:=by omega
     have Et:=oh (λk (hk:F5 k)=>Az.out.env.lt k hk);cases tw with
     | true =>
      have As:n' = { n with kids:=n.kids.take at_++[(o.id0:Int),(o.id1:Int)]++n.kids.drop (at_+1),keys:=n.keys.take at_++[o.key]++n.keys.drop (at_+0) }:=by rw[HN'.out];unfold zDe;rw[if_pos Es.out]
      have C2:Hid (n.kids.take at_++[(o.id0:Int),(o.id1:Int)]++n.kids.drop (at_+1)=n'.kids):=oh (by rw[As]);have B0:Hid (n.keys.take at_++[o.key]++n.keys.drop (at_+0)=n'.keys):=oh (by rw[As]);have Dd:Hid (n'.entries=n.entries):=oh (by rw[As]);obtain⟨w6,Ac⟩:∃w6,w6=w5.alloc (.cells #[.int .i64 (o.id0:Int),.int .i64 (o.id1:Int)] 3):=⟨_,rfl⟩;have m6:zF w5 w6:=by rw[Ac];exact zr.alloc _
      have De:=oh (zFD (w:=w6) _ _ n.kids [(o.id0:Int),(o.id1:Int)] (Eq.out.ext m6) (Sl.two (F:=λ_=>False) (b:=w5.heap.size) (t := 3) (fz:=(0,0)) vH.len (by rw[Ac];exact zS rfl) (λf=>f)) at_ 1 (by have:=Bb.out;omega) (by have:=A9.out;omega) (by simp));have M6:=oh m6;have Df:=oh Ac;clear As m6 Ac;go_wp2_with fail;rw[<- Df.out];refine De.out.mono ?_;rintro e w7 ⟨v7,rfl,At,C3⟩;rw[C2.out] at At;obtain⟨oa,oc,rfl, -, -⟩:=At.form;have m7:zF w5 w7:=M6.out.trans C3;have Dg:=oh (At.slF (F:=F5) (λk hk=>uF (Et.out k hk) M6.out.size) vH.len (by rw[<- C2.out];have:=A9.out;simp;omega));have A5:=C1.out.ext m7;have Bc:=Bm.out.ext m7;have n2:=A5.blk.d 2 (.slice ka n.keys.length kc) rfl;have n3:=A5.blk.d 3 (.slice (some ⟨kb,koff,none⟩) n.kids.length ic) rfl;have nf:=A5.blk.frozen;have x2:=Bc.blk.d 2 (.string o.key) rfl;have mD:zA (λk=>k=D) w7 (w7.setCell ⟨D,3,none⟩ (.slice oa n'.kids.length oc)):=zA.at _ w7 _ 3 _ rfl;have A4:=A5.mF mD;obtain⟨w8,Cg⟩:∃w8,w8=(w7.setCell ⟨D,3,none⟩ (.slice oa n'.kids.length oc)).alloc (.cells #[.string o.key] 9):=⟨_,rfl⟩;have m8:zF (w7.setCell ⟨D,3,none⟩ (.slice oa n'.kids.length oc)) w8:=by rw[Cg];exact zr.alloc _
      have C4:(w7.setCell ⟨D,3,none⟩ (.slice oa n'.kids.length oc)).heap.size=w7.heap.size:=by simp[World.setCell]
      have Bd:=zGg (w:=w8) _ _ n.keys [o.key] (((Ep.out.ext m7).mods A4).ext m8) (Sl.one (F:=λ_=>False) (b:=(w7.setCell ⟨D,3,none⟩ (.slice oa n'.kids.length oc)).heap.size) (t := 9) (fz:=(0,0)) (by rw[Cg];exact zS rfl) (λf=>f)) at_ 0 (by have:=Bb.out;omega) (by have:=A9.out;omega) (by simp)
      rw[C4,show ((0:Nat):Int)=0 from rfl] at Bd;have Gn:=oh Bd;have Be:Hid (jZ F5 P5 w (w7.setCell ⟨D,3,none⟩ (.slice oa n'.kids.length oc)) D #[.bool false,.slice ea n.entries.length ec,.slice ka n.keys.length kc,.slice oa n'.kids.length oc] 200):=oh (by simpa using A5.put 3 (.slice oa n'.kids.length oc));have Ba:=oh ((Da.out.at m7).var A5 mD);have Aj:=oh ((Az.out.trans (zX.ext Az.out.env Az.out.sub m7)).var A5 mD);have Gp:=oh ((En.out.ext m7).other mD (by omega));have A2:=oh ((Ab.out.ext m7).other mD (by omega));have Gq:=oh (Bc.other mD Dc);have C5:=oh ((Eo.out.ext m7).mods A4);have Gr:=oh (Dg.out.mods A4);have M8:=oh m8;have Gs:=oh Cg;clear At C3 m7 A5 Bc mD A4 m8 Cg Bd C4;go_wp2_with fail;rw[<- Gs.out];refine Gn.out.mono ?_;rintro e w9 ⟨v9,rfl,Ch,Eu⟩;rw[B0.out] at Ch;obtain⟨sa,sc,rfl, -, -⟩:=Ch.form;have m9:=M8.out.trans Eu;have Gt:=oh (Ch.slF (F:=F5) (λk hk=>uF (Aj.out.env.lt k hk) M8.out.size) zBm.len (by rw[<- B0.out];have:=A9.out;simp;omega));have Aa:=Be.out.ext m9;have nf:=Aa.blk.frozen;have n2:=Aa.blk.d 2 (.slice ka n.keys.length kc) rfl;have mD:zA (λk=>k=D) w9 (w9.setCell ⟨D,2,none⟩ (.slice sa n'.keys.length sc)):=zA.at _ w9 _ 2 _ rfl;have A4:=Aa.mF mD;have Dh:Hid (jZ F5 P5 w (w9.setCell ⟨D,2,none⟩ (.slice sa n'.keys.length sc)) D #[.bool false,.slice ea n.entries.length ec,.slice sa n'.keys.length sc,.slice oa n'.kids.length oc] 200):=oh (by simpa using Aa.put 2 (.slice sa n'.keys.length sc));have Au:Hid (zSa F P ad w c s gen D X n' o G5 l5 (.slice ea n.entries.length ec) (.slice sa n'.keys.length sc) (.slice oa n'.kids.length oc) (w9.setCell ⟨D,2,none⟩ (.slice sa n'.keys.length sc))):=oh (by
       refine⟨P5,F5,(Ba.out.at m9).var Aa mD,(Aj.out.trans (zX.ext Aj.out.env Aj.out.sub m9)).var Aa mD,(Gp.out.ext m9).other mD (by omega),(A2.out.ext m9).other mD (by omega),Dh.out,(Gq.out.ext m9).other mD Dc,?_,Gt.out.mods A4,(Gr.out.ext m9).mods A4⟩;rw[Dd.out];exact (C5.out.ext m9).mods A4)
      clear Ch Eu m9 Aa mD A4;go_wp2_with fail;go_meet;exact⟨sa,sc,oa,oc,Au⟩
     | false =>
      have As:n' = { n with kids:=n.kids.take at_++[(o.id0:Int)]++n.kids.drop (at_+1) }:=by rw[HN'.out];unfold zDe;rw[if_neg (by rw[Es.out];simp)]
      have C2:Hid (n.kids.take at_++[(o.id0:Int)]++n.kids.drop (at_+1)=n'.kids):=oh (by rw[As]);have B0:Hid (n'.keys=n.keys):=oh (by rw[As]);have Dd:Hid (n'.entries=n.entries):=oh (by rw[As]);obtain⟨w6,Ac⟩:∃w6,w6=w5.alloc (.cells #[.int .i64 (o.id0:Int)] 3):=⟨_,rfl⟩;have m6:zF w5 w6:=by rw[Ac];exact zr.alloc _
      have De:=oh (zFD (w:=w6) _ _ n.kids [(o.id0:Int)] (Eq.out.ext m6) (Sl.one (F:=λ_=>False) (b:=w5.heap.size) (t := 3) (fz:=(0,0)) (by rw[Ac];exact zS rfl) (λf=>f)) at_ 1 (by have:=Bb.out;omega) (by have:=A9.out;omega) (by simp));have M6:=oh m6;have Df:=oh Ac;clear As m6 Ac;go_wp2_with fail;rw[<- Df.out];refine De.out.mono ?_;rintro e w7 ⟨v7,rfl,At,C3⟩;rw[C2.out] at At;obtain⟨oa,oc,rfl, -, -⟩:=At.form;have m7:zF w5 w7:=M6.out.trans C3;have Dg:=oh (At.slF (F:=F5) (λk hk=>uF (Et.out k hk) M6.out.size) vH.len (by rw[<- C2.out];have:=A9.out;simp;omega));have A5:=C1.out.ext m7;have n3:=A5.blk.d 3 (.slice (some ⟨kb,koff,none⟩) n.kids.length ic) rfl;have nf:=A5.blk.frozen;have mD:zA (λk=>k=D) w7 (w7.setCell ⟨D,3,none⟩ (.slice oa n'.kids.length oc)):=zA.at _ w7 _ 3 _ rfl;have A4:=A5.mF mD;have Be:Hid (jZ F5 P5 w (w7.setCell ⟨D,3,none⟩ (.slice oa n'.kids.length oc)) D #[.bool false,.slice ea n.entries.length ec,.slice ka n.keys.length kc,.slice oa n'.kids.length oc] 200):=oh (by simpa using A5.put 3 (.slice oa n'.kids.length oc));have Au:Hid (zSa F P ad w c s gen D X n' o G5 l5 (.slice ea n.entries.length ec) (.slice ka n'.keys.length kc) (.slice oa n'.kids.length oc) (w7.setCell ⟨D,3,none⟩ (.slice oa n'.kids.length oc))):=oh (by
       refine⟨P5,F5,(Da.out.at m7).var A5 mD,(Az.out.trans (zX.ext Az.out.env Az.out.sub m7)).var A5 mD,(En.out.ext m7).other mD (by omega),(Ab.out.ext m7).other mD (by omega),?_,(Bm.out.ext m7).other mD Dc,?_,?_,Dg.out.mods A4⟩
       .rw[B0.out];exact Be.out
       .rw[Dd.out];exact (Eo.out.ext m7).mods A4
       .rw[B0.out];exact (Ep.out.ext m7).mods A4)
      clear At C3 m7 A5 mD A4;go_wp2_with fail;go_meet;exact⟨ka,kc,oa,oc,Au⟩
    obtain⟨sa,sc,oa,oc,B0⟩:=hcut;obtain⟨w6,Ac⟩:∃w6,w6=wc:=⟨_,rfl⟩;rw[<- Ac] at B0 ⊢;obtain⟨P6,F6,Ev,Ci,Cj,Ew,C6,Ex,Ey,Ez,G0⟩:=B0.out;have G3:n'.leaf=false:=by
     rw[HN'.out];unfold zDe;split <;> exact Ag.out
    have C7:zIj G5 l5 id n':=by rw[HN'.out];have:=Gm.out;rw[<- Gj.out] at this;exact this
    have Gu:Hid (n'.entries=n.entries):=oh (by
     rw[HN'.out];unfold zDe;split <;> rfl)
    have Au:=zIk n' Ci.env Ci.sub Ev gen id B6 _ _ _ Ey Ez G0 C7;rw[G3] at Au;unfold pgV at Au;have Au:=oh Au;have b0:=Cj.blk.k 0 rfl;have b1:=Cj.blk.k 1 rfl;have b2:=Cj.blk.k 2 rfl;have n0:=C6.blk.k 0 rfl;have n1:=C6.blk.k 1 rfl;have n2:=C6.blk.k 2 rfl;have n3:=C6.blk.k 3 rfl;have Gv:=oh Ci;have Gx:=oh Ew;have Gy:=oh Ex;clear Ev Ci Cj Ew C6 Ex Ey Ez G0 G3 C7 Ac x0 x1 x2 x3 nf;go_wp2_with fail;refine Au.out.mono ?_;rintro e w7 hq;obtain⟨P7,F7,G7,l7,o2,ev2,Bu,Ay,rfl,hr⟩:=hq.q;have Av:=Gx.out.nxt Ay;have Bc:=Gy.out.nxt Ay;have Ba:=oh Bu;have Aj:=oh (Gv.out.trans Ay);have Gz:w.heap.size+1<w7.heap.size:=Av.blk.lt;have H0:X<w7.heap.size:=Bc.blk.lt;have q0:=Av.blk.k 0 rfl;have q1:=Av.blk.k 1 rfl;have q2:=Av.blk.k 2 rfl;have q3:=Av.blk.k 3 rfl;have q4:=Av.blk.k 4 rfl;have qf:=Av.blk.frozen;have x4:=Bc.blk.d 4 (.bool o.news) rfl;have x4c:=zR x4 (.cells #[.int .i64 (o2.id0:Int),.int .i64 (o2.id1:Int),.string o2.key,.bool o2.two,.bool o2.news] 255);have H1:w7.heap.size≠w.heap.size+1:=by omega
    have H2:w7.heap.size≠X:=by omega
    have A2:=oh Av;clear hq Bu Ay Av Bc b0 b1 b2 n0 n1 n2 n3;rcases hr with ⟨hs,rfl⟩|⟨k,f7,el,hs,Ah,rfl,hE⟩
    .have C8:Hid (zC7 gen key v (f+1) G l id=.inl (G7,l7,{ o2 with news:=o.news })):=oh (by rw[Bj.out,HS.out];simp only;rw[<- HN'.out,hs]);clear hs;go_wp2_with fail;have mR:=zA.set5 (F:=λk=>k=w.heap.size+1) (zss w7) (R:=w.heap.size+1) (.inr rfl) (.int .i64 (o2.id0:Int)) (.int .i64 (o2.id1:Int)) (.string o2.key) (.bool o2.two) (.bool o.news);have bR:=A2.out.blk.set5 (.int .i64 (o2.id0:Int)) (.int .i64 (o2.id1:Int)) (.string o2.key) (.bool o2.two) (.bool o.news);have gR:=Ba.out.var A2.out mR;have nR:=Aj.out.var A2.out mR;have mA:=(zA.refl (λ_=>False) (((((w7.setCell ⟨w.heap.size+1,0,none⟩ (.int .i64 (o2.id0:Int))).setCell ⟨w.heap.size+1,1,none⟩ (.int .i64 (o2.id1:Int))).setCell ⟨w.heap.size+1,2,none⟩ (.string o2.key)).setCell ⟨w.heap.size+1,3,none⟩ (.bool o2.two)).setCell ⟨w.heap.size+1,4,none⟩ (.bool o.news))).alloc (.cells #[.int .i64 (o2.id0:Int),.int .i64 (o2.id1:Int),.string o2.key,.bool o2.two,.bool o.news] 255);refine bodyPost_ret (zC rfl _ _ (w.heap.size+1) 255 _ _ rfl (bR.ext mA) Tryz.underlying255 rfl Tryz.outSz) rfl ?_;exact⟨P7,F7,G7,l7,gR.at mA,nR.trans (zX.ext nR.env nR.sub mA),.inl ⟨{ o2 with news:=o.news },C8.out,rfl⟩⟩
    .have C8:Hid (zC7 gen key v (f+1) G l id=.inr k):=oh (by rw[Bj.out,HS.out];simp only;rw[<- HN'.out,hs]);have Bf:=oh (Cz.out.trans Ah);have C5:=oh hE;clear hs Ah hE;go_wp2_with fail;have mR:=zA.set5 (F:=λk=>k=w.heap.size+1) (zss w7) (R:=w.heap.size+1) (.inr rfl) (.int .i64 (o2.id0:Int)) (.int .i64 (o2.id1:Int)) (.string o2.key) (.bool o2.two) (.bool o.news);have bR:=A2.out.blk.set5 (.int .i64 (o2.id0:Int)) (.int .i64 (o2.id1:Int)) (.string o2.key) (.bool o2.two) (.bool o.news);have gR:=Ba.out.var A2.out mR;have nR:=Aj.out.var A2.out mR;have mA:=(zA.refl (λ_=>False) (((((w7.setCell ⟨w.heap.size+1,0,none⟩ (.int .i64 (o2.id0:Int))).setCell ⟨w.heap.size+1,1,none⟩ (.int .i64 (o2.id1:Int))).setCell ⟨w.heap.size+1,2,none⟩ (.string o2.key)).setCell ⟨w.heap.size+1,3,none⟩ (.bool o2.two)).setCell ⟨w.heap.size+1,4,none⟩ (.bool o.news))).alloc (.cells #[.int .i64 (o2.id0:Int),.int .i64 (o2.id1:Int),.string o2.key,.bool o2.two,.bool o.news] 255);refine bodyPost_ret (zC rfl _ _ (w.heap.size+1) 255 _ _ rfl (bR.ext mA) Tryz.underlying255 rfl Tryz.outSz) rfl ?_;exact⟨P7,F7,G7,l7,gR.at mA,nR.trans (zX.ext nR.env nR.sub mA),.inr ⟨k,{ o2 with news:=o.news },f7,el,C8.out,Bf.out,rfl,(C5.out.mods (A2.out.mF mR)).mods mA.ext⟩⟩
   .have C8:Hid (zC7 gen key v (f+1) G l id=.inr k):=oh (by rw[Bj.out,hs]);have Bf:=oh Ah;have C5:=oh hE;have q0:=Ab.out.blk.k 0 rfl;have q1:=Ab.out.blk.k 1 rfl;have q2:=Ab.out.blk.k 2 rfl;have q3:=Ab.out.blk.k 3 rfl;have q4:=Ab.out.blk.k 4 rfl;have qf:=Ab.out.blk.frozen;clear hs Ah hE;go_wp2_with fail;have mR:=zA.set5 (F:=λk=>k=w.heap.size+1) (zss w5) (R:=w.heap.size+1) (.inr rfl) (.int .i64 0) (.int .i64 0) (.string ⟨#[]⟩) (.bool false) (.bool false);have bR:=Ab.out.blk.set5 (.int .i64 0) (.int .i64 0) (.string ⟨#[]⟩) (.bool false) (.bool false);refine bodyPost_ret (zC rfl _ _ (w.heap.size+1) 255 _ _ rfl bR Tryz.underlying255 rfl Tryz.outSz) rfl ?_;exact⟨P5,F5,G5,l5,Da.out.var Ab.out mR,Az.out.var Ab.out mR,.inr ⟨k,zSY,f5,el,C8.out,Bf.out,rfl,C5.out.mods (Ab.out.mF mR)⟩⟩
end
end
end Go.Proofs.YtalpfcaakpgkmaaGreatDoor
