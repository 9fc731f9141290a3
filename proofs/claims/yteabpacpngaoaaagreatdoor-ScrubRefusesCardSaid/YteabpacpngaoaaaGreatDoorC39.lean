import Derived.Test.YteabpacpngaoaaaGreatDoorC38
namespace Go.Proofs.YteabpacpngaoaaaGreatDoor
open Lib renaming hid->oh
section
open Go.RowKit
section
variable {G G' G1:GA}{l l' l1:List Nat}{gen:Nat}{lo:ByteArray}{hi:Option ByteArray}{ps:List zT}{q:List Nat}
theorem zLe:∀es:List ByteArray,5 * (es.length:Int)<=yT es
 | []=>by simp[yT]
 | e :: es=>by
  have h2:=zLe es;rw[yT,List.length_cons];omega
theorem zGL{n:zJ}(hr:zO n=true)(hw:zG n<=2000):n.entries.length<=1000/\n.keys.length<=1000/\n.kids.length<=1000:=by
 have h1:=zFr n.entries;have h2:=zLe n.keys;have h3:=zAR n.entries;have h4:=zAe n.keys;have hf:=qU hr;unfold zAt at hf;unfold zG at hw;cases hl:n.leaf with
 | true =>
  rw[if_pos hl] at hf;rw[hl] at hw;simp only[if_true] at hw;rw[hf.2];simp only[List.length_nil];omega
 | false =>
  rw[if_neg (by rw[hl];simp)] at hf;rw[hl] at hw;simp only[Bool.false_eq_true,if_false] at hw;omega
theorem zLf{old:Nat}{n:zJ}(hc:zBx G l)(ho:vA l old)(hr:zO n=true)(hw:zG n<=(G.size:Int)-24+77)(hco:G.cost+10<=1000000):zH4 G l old n:=by
 have hs:=hc.s1024;have hs2:=hc.s256;have hf:=zGL hr (by omega);refine⟨ho,hc.low,Nat.le_of_eq hc.len,hco,by omega,λ_=>?_,λhn=>?_,by omega⟩
 .have:=zAm (qU hr);omega
 .obtain⟨a,_,h2,h3,h4⟩:=zNY hr (W:=(G.size:Int)-24) (by omega) (by omega) (by omega);exact⟨_,_,_,h2,h3,h4⟩
theorem jH.nth{es:List zV}(h:jH G gen es ps q):∀(i:Nat) (e:zV),es[i]? = some e->∃v ids,zH6 G gen e v ids/\ids.Sublist q:=by
 induction h with
 | nil=>intro i e he;simp at he
 | @cons e x ids es l q h1 h2 _ ih =>
  intro i f hf;match i,hf with
  | 0,hf =>
   simp at hf;subst hf;exact⟨_,_,h2,List.sublist_append_left _ _⟩
  | i+1,hf =>
   obtain⟨v,ids',a1,a2⟩:=ih i f (by simpa using hf);exact⟨v,ids',a1,a2.trans (List.sublist_append_right _ _)⟩
theorem zQB{old:Nat}{n:zJ}{key v:ByteArray}(hc:zBx G l)(ho:vA l old)(hl:n.leaf=true)(hr:zO n=true)(hw:zG n<=(G.size:Int)-24)(he:jH G gen n.entries ps q)(hkb:zAE key=true)(hv:v.size<=4096)
  (hq:q.Nodup) (hu:zAW l (λk=>k∈q)) (hoq:old≠0->old ∉ q):FrG G l (jQ G (qR G n key)) (jM l (qR G n key))/\∀Gw lw e,zA1 (jQ G (qR G n key)) (jM l (qR G n key)) gen key v=.inl (Gw,lw,e) ->
   zBx Gw lw/\vA lw old/\zO (zDK n key e)=true/\zG (zDK n key e)<=(Gw.size:Int)-24+77/\FrG G l Gw lw/\Gw.cost<=G.cost+18:=by
 have hpw:=zDH hr hl;have h2q:∀i∈q,2<=i:=λi hi=>(he.lt i hi).1
 obtain⟨l1,lm,l2,q1,qm,q2,e1,e2,rfl,rfl,hlow,hhigh,his,hlm,hold,hsum⟩:=he.at_ hpw key hc.s256 hc.b256;have hsort:zA5 (l1++(lm++l2)):=by
  rw[he.keys] at hpw;exact List.pairwise_map.1 hpw
 have hnd:=List.nodup_append.1 hq;have hnd2:=List.nodup_append.1 hnd.2.1;have hum:zAW l (λk=>k∈qm):=λk hk=>hu k (by simp[hk])
 obtain⟨u1,u2,u3⟩:=zEs (G:=G) qm l hnd2.1 (λi hi=>h2q i (by simp[hi])) hum;have hA2:∀k,k∈qm->2<=k:=λk hk=>h2q k (by simp[hk])
 have hcg:=hc.upd u1 hA2;rw[hold n rfl];have hszg:(jQ G qm).size=G.size:=u1.sz;refine⟨u1.fr hA2,λGw lw e hE=>?_⟩;rcases zLZ (gen:=gen) hcg hkb hv with ⟨f1,f2⟩|⟨Gw',lw',e',ids,f1,f2,f3,f4,f5,f6,f7,f8⟩
 .rw[f1] at hE;cases hE
 .rw[f1] at hE;injection hE with hE;injection hE with hE1 hE2;injection hE2 with hE2 hE3;subst hE1 hE2 hE3;have u4:=u1.trans f2 hum;have hcw:=hc.upd u4 hA2;have how:=zDN u4 ho (λhz hm=>hoq hz (by simp[hm]));have hszw:Gw'.size=G.size:=u4.sz;have hd1:∀k∈q1++q2,¬ (k∈qm):=λk hk hm=>by
   rcases List.mem_append.1 hk with hk|hk
   .exact hnd.2.2 k hk k (by simp[hm]) rfl
   .exact hnd2.2.2 k hm k hk rfl
  obtain⟨z1,z2⟩:=u4.views hd1 (λk hk=>hu k (by rcases List.mem_append.1 hk with hk|hk <;> simp[hk]));have hE:jH Gw' gen (n.entries.take (zAI key n.entries)++[e']++n.entries.drop (zAI key n.entries+if zAf key n.entries=true then 1 else 0)) (l1++([(key,v)]++l2)) (q1++(ids++q2)):=by
   rw[List.append_assoc];exact (e1.mono (Nat.le_refl _) u4.bl hszw (λi hi=>(z1 i (by simp[hi])).1)).append ((jH.one f5 f6).append (e2.mono (Nat.le_refl _) u4.bl hszw (λi hi=>(z1 i (by simp[hi])).1)))
  obtain⟨n',hn'⟩:∃n',n'=zDK n key e':=⟨_,rfl⟩;have hent':n'.entries=n.entries.take (zAI key n.entries)++[e']++n.entries.drop (zAI key n.entries+if zAf key n.entries=true then 1 else 0):=by rw[hn'];rfl
  have hform:=qU hr;unfold zAt at hform;rw[if_pos hl] at hform;have hleaf':n'.leaf=true:=by rw[hn'];exact hl
  have hkeys':n'.keys=[]:=by rw[hn'];exact hform.1
  have hkids':n'.kids=[]:=by rw[hn'];exact hform.2
  have hse':yL n'.entries<=yL n.entries+59:=by
   rw[hent',zAB,zAB];have:=zEu f7;simp only[yL];omega
  have hwt:zG n=2+yL n.entries:=by unfold zG;rw[hl,hform.1];simp[yT]
  have hwt':zG n'=2+yL n'.entries:=by unfold zG;rw[hleaf',hkeys'];simp[yT]
  have hwp:yS key v true (l1++(lm++l2))=l1++([(key,v)]++l2):=by
   rw[zEt _ hlow,zD5 hhigh];congr 1
   congr 1
   rcases hlm with rfl|⟨ov,rfl⟩
   .rfl
   .simp[yS,zBA]
  have hsort':zA5 (l1++([(key,v)]++l2)):=by rw[<- hwp];exact zDp hsort
  have hr':zO n'=true:=by
   have e:n'=⟨true,n'.entries,[],[]⟩:=by rw[<- hleaf',<- hkeys',<- hkids']
   rw[e];refine zDM (λx hx=>?_) ?_ ?_
   .rw[hent'] at hx;rcases List.mem_append.1 hx with hx|hx
    .rcases List.mem_append.1 hx with hx|hx
     .exact zAT hr x (List.mem_of_mem_take hx)
     .rw[List.mem_singleton.1 hx];exact f7
    .exact zAT hr x (List.mem_of_mem_drop hx)
   .rw[hent',hE.keys];exact List.pairwise_map.2 hsort'
   .have:=zFr n'.entries;have:=hc.s1024;omega
  rw[<- hn'];refine⟨hcw,how,hr',by rw[hszw,hwt'];omega,u4.fr hA2,?_⟩;have hgc:(jQ G qm).cost=G.cost:=(zB8 qm G).2.2.1;unfold zA1 at f1;split at f1
  .injection f1 with f1;injection f1 with f1 _;rw[<- f1];omega
  .split at f1
   .rename_i ids2 l2' ht;injection f1 with f1;injection f1 with f1 _;rw[<- f1,(qY _ _ _ _ _ _).2.2,hgc];have h1:=(zBJ _ _ _ _ ht).len;have h2:=zH0 (jQ G qm).size v.size (by omega) hcg.s256 hcg.s1024;have h3:=zP2 (jQ G qm).size v.size hv hcg.s256;rw[h2,Int.toNat_natCast] at h1;omega
   .cases f1
theorem zJU{old:Nat}{n:zJ}{key v:ByteArray}(hc:zBx G l)(ho:vA l old)(hl:n.leaf=true)(hr:zO n=true)(hw:zG n<=(G.size:Int)-24)(he:jH G gen n.entries ps q)(hkb:zAE key=true)(hv:v.size<=4096)
  (hq:q.Nodup) (hu:zAW l (λk=>k∈q)) (hoq:old≠0->old ∉ q) (hco:G.cost+200<=1000000):zMy G l gen old n key v:=by
 obtain⟨m1,m2⟩:=zQB hc ho hl hr hw he hkb hv hq hu hoq;have hs:=hc.s1024;have hf:=zGL hr (by omega);have hform:=qU hr;unfold zAt at hform;rw[if_pos hl] at hform;refine⟨hl,hform,by omega,λe hea his hce=>?_,m1,hc.low,hc.len,hco,hv,λG1 l1 e hE=>?_⟩
 .obtain⟨x,ids,h1,h2⟩:=he.nth _ e hea;rcases h1 with ⟨h1,_⟩|⟨_,h1⟩
  .exact absurd h1 hce
  .obtain⟨w1,w2,w3,_⟩:=h1.walk hc.s256 hc.b256;have hold:qR G n key=ids:=by
    unfold qR;rw[hea];simp only;rw[if_pos ⟨his,hce⟩];have:=congrArg (List.map Int.toNat) w3;simp only[List.map_map] at this;rw[show (λx:Int × List UInt8=>x.1.toNat)=Int.toNat ∘ (·.1) from rfl,this];rw[show (Int.toNat ∘ λk:Nat=>(k:Int))=id from funext λk=>Int.toNat_natCast k,List.map_id]
   have hids:∀i∈ids,i∈q:=λi hi=>h2.subset hi
   obtain⟨_,u2,_⟩:=zEs (G:=G) ids l (hq.sublist h2) (λi hi=>(h1.lt i hi).1) (λi hi=>hu i (hids i hi));have hlo:=h1.lo;have hhi:=h1.hi;have hsz:=h1.size;have hpos:0<ids.length:=by rw[h1.len];exact Nat.succ_pos _
   have hin:=h1.lt _ (zBn hpos);have hb:=hc.b256;have hfst:=h1.first;rw[hold];exact⟨w2,w1,w3,u2,by omega,by omega,by omega,by omega⟩
 .obtain⟨a1,a2,a3,a4,a5,a6⟩:=m2 G1 l1 e hE;exact⟨zLf a1 a2 a3 a4 (by omega),a5,by omega⟩
theorem zGn{old:Nat}{n:zJ}{o:zA0}(h:qC G l gen old n=.inl (G',l',o)):G'.cost<=G.cost+2:=by
 unfold qC at h;split at h
 .split at h
  .injection h with h;injection h with h _;rw[<- h];have:=(zCv G l gen old n).2.2;omega
  .cases h
 .split at h
  .cases h
  .rename_i a k b _;split at h
   .split at h
    .cases h
    .split at h
     .cases h
     .injection h with h;injection h with h _;rw[<- h];have:=(zCv G l gen old a).2.2;have:=(zCv (yN G l gen old a) (yV G l old a) gen 0 b).2.2;omega
   .cases h
theorem zMz{key v:ByteArray}{e:zV}(hv:v.size<=4096)(h1:256<=G.size)(h2:G.size<=1024)(h:zA1 G l gen key v=.inl (G',l',e)):G'.cost<=G.cost+18:=by
 unfold zA1 at h;split at h
 .injection h with h;injection h with h _;rw[<- h];omega
 .split at h
  .rename_i ids2 l2' ht;injection h with h;injection h with h _;rw[<- h,(qY _ _ _ _ _ _).2.2];have h3:=(zBJ _ _ _ _ ht).len;have h4:=zH0 G.size v.size (by omega) h1 h2;have h5:=zP2 G.size v.size hv h1;rw[h4,Int.toNat_natCast] at h3;omega
  .cases h
theorem zJV{old:Nat}{n:zJ}{key v:ByteArray}{o:zA0}(hv:v.size<=4096)(h1:256<=G.size)(h2:G.size<=1024)(h:zBo G l gen old n key v=.inl (G',l',o)):G'.cost<=G.cost+20:=by
 unfold zBo at h;split at h
 .cases h
 .rename_i G1 l1 e hE;obtain⟨s1,s2,s3,_⟩:=zB8 (qR G n key) G;have h3:=zMz hv (by rw[s2];exact h1) (by rw[s2];exact h2) hE;split at h
  .cases h
  .rename_i G2 l2 o2 hS;injection h with h;injection h with h _;rw[<- h];have:=zGn hS;omega
theorem zID{key v:ByteArray}(hv:v.size<=4096):∀(f:Nat) (G:GA) (l:List Nat) (id:Nat) {G':GA} {l':List Nat} {o:zA0},256<=G.size->G.size<=1024->zCs gen key v f G l id=.inl (G',l',o)->G'.cost<=G.cost+20+2 * f
 | 0,_,_,_,_,_,_,_,_,h=>by cases h
 | f+1,G,l,id,G',l',o,h1,h2,h=>by
  rw[zCs] at h;split at h
  .cases h
  .rename_i n hn;split at h
   .have:=zJV hv h1 h2 h;omega
   .split at h
    .cases h
    .rename_i G1 l1 o1 hP;have h3:=zID hv f G l _ h1 h2 hP;split at h
     .cases h
     .rename_i G2 l2 o2 hS;injection h with h;injection h with h _;rw[<- h];have:=zGn hS;omega
end
section
variable {G G' G1:GA}{l l' l1:List Nat}{gen:Nat}{lo:ByteArray}{hi:Option ByteArray}{ps:List zT}{q:List Nat}
theorem zQ3{d f id:Nat}{n:zJ}{key v:ByteArray}(hc:zBx G l)(hp:PgN G gen id n)(hr:zO n=true)(hl:n.leaf=false)(hkd:jD (TrD G gen d) lo hi n.keys n.kids ps q)(hn:(id :: q).Nodup)(hu:zAW l (λk=>k∈id :: q))(hk:inB lo hi key)(hd:d<=f)(hf16:f<=16)(hkb:zAE key=true)(hv:v.size<=4096)(hco:G.cost+200<=1000000){G1:GA}{l1':List Nat}{o:zA0}
  (hP:zCs gen key v f G l (n.kids.getD (zBS key n.keys) 0).toNat=.inl (G1,l1',o)):zH4 G1 l1' id (zDL n (zBS key n.keys) o)/\FrG G l G1 l1':=by
 have hid:id ∉ q/\q.Nodup:=List.nodup_cons.1 hn;have hqid:id≠0:=by have:=hp.lo;omega
 have huq:zAW l (λk=>k∈q):=λk hk=>hu k (List.mem_cons_of_mem _ hk)
 have hpl:vA l id:=.inr ⟨hp.lo,hu id List.mem_cons_self⟩;obtain⟨k1,k2,c1,c,c2,l1,lm,l2,q1,qm,q2,lo',hi',e1,e2,e3,e4,rfl,rfl,e7,e8,e9,e10,e11⟩:=hkd.at_ (TrD.bounds d) hk;have hkd0:n.kids.getD (zBS key n.keys) 0=(c:Int):=by
  rw[e4,e2,<- e3];simp[List.getD]
 rw[hkd0,Int.toNat_natCast] at hP;have hnd:=List.nodup_append.1 hid.2;have hnd2:=List.nodup_append.1 hnd.2.1;have hum:zAW l (λk=>k∈qm):=λk hk=>huq k (by simp[hk])
 have hcost:=zID hv f G l c hc.s256 hc.s1024 hP;rcases zKG (gen:=gen) hkb hv d f G l c lo' hi' lm qm hc e7 hnd2.1 hum e8 hd with ⟨a1,_⟩|⟨G1',l1'',o',qm',a1,a2,a3,a4⟩
 .rw[a1] at hP;cases hP
 .rw[a1] at hP;injection hP with hP;injection hP with hE1 hE2;injection hE2 with hE2 hE3;subst hE1 hE2 hE3;have u4:=a3.upd;have hA2:∀k,k∈qm->2<=k:=λk hk=>(e7 |> TrD.ltq d lo' hi' c lm qm) k hk |>.1
  have hd1:∀k∈q1++q2,¬ (k∈qm):=λk hk hm=>by
   rcases List.mem_append.1 hk with hk|hk
   .exact hnd.2.2 k hk k (by simp[hm]) rfl
   .exact hnd2.2.2 k hm k hk rfl
  obtain⟨z1,z2⟩:=u4.views hd1 (λk hk=>huq k (by rcases List.mem_append.1 hk with hk|hk <;> simp[hk]));have how:=zDN u4 hpl (λ_ hm=>hid.1 (by simp[hm]));obtain⟨n',hn'⟩:∃n',n'=zDL n (zBS key n.keys) o':=⟨_,rfl⟩;have hK:=e11 (TrD G1' gen d) _ _ _ _ a3.kids (λlo hi c l p hp h=>TrD.mono (Nat.le_refl _) u4.bl u4.sz d lo hi c l p (λi hi=>(z1 i (by rcases hp i hi with h|h <;> simp[h])).1) h);have hj:n' = { n with kids:=c1++(zA6 o'++c2),keys:=k1++(vY o'++k2) }:=by
   rw[hn',zLa,e1,e2,show zBS key (k1++k2)=k1.length by rw[<- e1];exact e4];have t1:(c1++(c:Int) :: c2).take k1.length=c1:=by rw[<- e3];simp
   have t2:(c1++(c:Int) :: c2).drop (k1.length+1)=c2:=by rw[<- e3];simp
   rw[t1,t2];simp
  have hleaf':n'.leaf=false:=by rw[hj];exact hl
  have hents':n'.entries=n.entries:=by rw[hj]
  have hform:=qU hr;unfold zAt at hform;rw[if_neg (by rw[hl];simp)] at hform;have hkeys':n'.keys=k1++(vY o'++k2):=by rw[hj]
  have hkids':n'.kids=c1++(zA6 o'++c2):=by rw[hj]
  have hsk:yT n'.keys<=yT n.keys+37:=by
   rw[hkeys',e1,jF,jF,jF];have:yT (vY o')<=37:=by
    unfold vY;split
    .rename_i h2;have:=a3.keys o'.key (by unfold vY;rw[if_pos h2];simp);have:=(zAo _).1 this;simp[yT];omega
    .simp[yT]
   omega
  have hwt:zG n=6+yT n.keys:=by unfold zG;rw[hl,hform.1];simp[yL]
  have hwt':zG n'=6+yT n'.keys:=by unfold zG;rw[hleaf',hents',hform.1];simp[yL]
  have hd2:∀i∈qm',i ∉ q1++q2/\i≠id:=λi hi=>by
   refine⟨λhm=>(z1 i hm).2.2 hi,λe=>?_⟩;subst e;exact (u4.view (i:=i) (λhm=>hid.1 (by simp[hm])) (hu.ne0 List.mem_cons_self)).2.2 hi
  have hq':(q1++(qm'++q2)).Nodup:=by
   refine List.nodup_append.2 ⟨hnd.1,List.nodup_append.2 ⟨a3.nodup,hnd2.2.1,λa ha b hb e=>?_⟩,λa ha b hb e=>?_⟩
   .subst e;exact (hd2 a ha).1 (by simp[hb])
   .subst e;rcases List.mem_append.1 hb with hb|hb
    .exact (hd2 a hb).1 (by simp[ha])
    .exact hnd.2.2 a ha a (by simp[hb]) rfl
  have hr':zO n'=true:=by
   have e:n'=⟨false,[],n'.keys,n'.kids⟩:=by rw[hj];simp[hl,hform.1]
   rw[e,hkeys',hkids'];refine hK.right hq' (λs hs=>?_) ?_ a3.ctx.b256
   .rcases List.mem_append.1 hs with hs|hs
    .exact zBc hr s (by rw[e1];simp[hs])
    .rcases List.mem_append.1 hs with hs|hs
     .exact a3.keys s hs
     .exact zBc hr s (by rw[e1];simp[hs])
   .have h2:2<=n.kids.length:=(zEv hr).2.2 hl;rw[e2] at h2;have:1<=(zA6 o').length:=by unfold zA6;split <;> simp
    simp at h2 ⊢;omega
  rw[<- hn'];exact⟨zLf a3.ctx how hr' (by rw[u4.sz,hwt'];have:=hp.fit;omega) (by omega),u4.fr hA2⟩
end
end
section
open Go.RowKit
attribute [local go_sem ↓] Go.wp_at_zero Go.wp_at_succ
section
variable {P P0 P' F F0 F':Nat->Prop}{ad:Nat->Addr}{w0 w w':World}{c s:Nat}{G:GA}{l:List Nat}
theorem zNb[zW](hN:zY P0 P F0 F ad w0 w)(hG:jU F w P c s G l)(cs:Array Value)(t:TypeId)(h0:w0.heap.size<=w.heap.size) :
  zY P P F (λk=>F k\/k=w.heap.size) ad w (w.alloc (.cells cs t))/\jU (λk=>F k\/k=w.heap.size) (w.alloc (.cells cs t)) P c s G l/\jR (λk=>F k\/k=w.heap.size) P w0 (w.alloc (.cells cs t)) w.heap.size cs t:=by
 have m:=(zA.refl (λ_=>False) w).alloc (.cells cs t);refine⟨zY.new hN.env hN.sub (Q:=λk=>k=w.heap.size) m (λk hk=>by omega) (λk hk=>by simp;omega),hG.plusNew hN.sub (Q:=λk=>k=w.heap.size) m (λk hk=>by omega),⟨zH.new w _ _,.inr rfl,λhp=>by have:=hG.bd _ hp;omega,h0⟩⟩
theorem zMr.q[zW]{r:StA zA0}{e:Ending}(h:zMr F P ad w c s G l r e w'):∃(P' F':Nat->Prop) (G':GA) (l':List Nat) (o:zA0) (ev:Value),jU F' w' P' c s G' l'/\zY P P' F F' ad w w'/\e=.returned (.tuple #[.agg #[.int .i64 (o.id0:Int),.int .i64 (o.id1:Int),.string o.key,.bool o.two,.bool o.news],ev]) /\
  ((r=.inl (G',l',o)/\ev=.nilIface)\/(∃k f el,r=.inr k/\FrG G l G' l'/\ev=zL f/\vB F' ad w' (zL f) el k)):=by
 obtain⟨P',F',G',l',h1,h2,⟨o,h3,h4⟩|⟨k,o,f,el,h3,h4,h5,h6⟩⟩:=h
 .exact⟨P',F',G',l',o,_,h1,h2,h4,.inl ⟨h3,rfl⟩⟩
 .exact⟨P',F',G',l',o,_,h1,h2,h5,.inr ⟨k,f,el,h3,h4,rfl,h6⟩⟩
theorem Sl.two{α:Type}{sz:Nat}{enc:α->List Value}{x y:α}{b:Nat}{t:TypeId}{fz:Nat × Nat}(henc:∀x,(enc x).length=sz)(h:w.heap[b]? = some (.cells (enc x++enc y).toArray t fz))(hF:¬ F b):Sl F w sz enc (.slice (some ⟨b,0,none⟩) 2 2) [x,y]:=by
 refine⟨_,2,rfl,Nat.le_refl _,by simp[maxLen],by simp,.inr ⟨b,0,rfl,(Array.getElem?_eq_some_iff.1 h).1,hF,λi z hi j u hu=>?_⟩⟩;rw[qO h];have hl:=zC4 henc [x,y] i z j u hi hu;simpa using hl
theorem zJW{v:Value}{b o:Nat}(m:zA P w w')(h:w.cell? ⟨b,o,none⟩=some v)(hn:¬ P b):w'.cell? ⟨b,o,none⟩=some v:=(m.cell (yH h) hn).trans h
def zSO[zW](F P:Nat->Prop)(ad:Nat->Addr)(w:World)(c s gen D:Nat)(nd:Array Value)(n:zJ)(ve vk vi:Value)(G:GA)(l:List Nat)(r:StA zA0)(X:Nat)(ev:Value)(wx:World):Prop :=
 ∃(P' F':Nat->Prop) (G':GA) (l':List Nat) (o:zA0),jU F' wx P' c s G' l'/\zY P P' F F' ad w wx/\jR F' P' w wx w.heap.size #[.pointer (some ⟨c,0,none⟩),.pointer (some ⟨s,0,none⟩),.int .u64 (gen:Int)] 120 /\ jR F' P' w wx (w.heap.size+1) zAJ 169 /\ jR F' P' w wx D nd 174 /\
  jR F' P' w wx X (zIm o) 169 /\ Sl F' wx 4 zAO ve n.entries/\Sl F' wx 1 vZ vk n.keys/\Sl F' wx 1 yK vi n.kids /\
  ((r=.inl (G',l',o)/\ev=.nilIface)\/(∃k f el,r=.inr k/\FrG G l G' l'/\ev=zL f/\vB F' ad wx (zL f) el k))
def zRh[zW](F P:Nat->Prop)(ad:Nat->Addr)(w:World)(c s gen D X:Nat)(n':zJ)(o:zA0)(G':GA)(l':List Nat)(ve vk vi:Value)(wx:World):Prop :=
 ∃(P' F':Nat->Prop),jU F' wx P' c s G' l'/\zY P P' F F' ad w wx/\jR F' P' w wx w.heap.size #[.pointer (some ⟨c,0,none⟩),.pointer (some ⟨s,0,none⟩),.int .u64 (gen:Int)] 120 /\ jR F' P' w wx (w.heap.size+1) zAJ 169 /\ jR F' P' w wx D #[.bool false,ve,vk,vi] 174 /\
  jR F' P' w wx X (zIm o) 169 /\ Sl F' wx 4 zAO ve n'.entries/\Sl F' wx 1 vZ vk n'.keys/\Sl F' wx 1 yK vi n'.kids
set_option maxRecDepth 100000 in
set_option maxHeartbeats 8000000 in
theorem zIE[zW]{gen:Nat}(hgen:gen<18446744073709551616){key v:ByteArray}(hkb:zAE key=true)(hv:v.size<=4096):∀(d f:Nat) {F P:Nat->Prop} {w:World} {G:GA} {l:List Nat} (id:Nat) (lo:ByteArray) (hi:Option ByteArray) (ps:List zT) (pgs:List Nat) (dep:Nat),yG F ad w->(∀k,P k->F k)->jU F w P c s G l->zBx G l->TrD G gen d lo hi id ps pgs->pgs.Nodup->zAW l (λk=>k∈pgs)->inB lo hi key->d<=f->dep+f=17->f<=16->G.cost+300<=1000000 ->
  Calls Tryz.prog 92 #[pgV c s gen,.int .i64 (id:Int),.int .i64 (dep:Int),.string key,.string v] w (zMr F P ad w c s G l (zCs gen key v f G l id))
 | 0,_,_,_,_,_,_,_,_,_,_,_,_,_,_,_,_,h,_,_,_,_,_,_,_=>h.elim
 | d+1,0,_,_,_,_,_,_,_,_,_,_,_,_,_,_,_,_,_,_,_,h,_,_,_=>by omega
 | d+1,f+1,F,P,w,G,l,id,lo,hi,ps,pgs,dep,hL,hP,h,hc,hT,hn,hu,hk,hf,hdep,hf16,hco=>by
  obtain⟨n,q,hp,hr,rfl,hb⟩:=hT;obtain⟨hload,hnode⟩:=zKF hp;have hkn:=(GA.node_load hnode).1;have hid:id ∉ q/\q.Nodup:=List.nodup_cons.1 hn;have hqid:id≠0:=by have:=hp.lo;omega
  have huq:zAW l (λk=>k∈q):=λk hk=>hu k (List.mem_cons_of_mem _ hk)
  have hpl:vA l id:=.inr ⟨hp.lo,hu id List.mem_cons_self⟩;have hd16:(dep:Int)<=16:=by omega
  obtain⟨lf,hlf⟩:∃lf,n.leaf=lf:=⟨_,rfl⟩;have HLF:=oh hlf;obtain⟨w1,hw1⟩:∃w1,w1=(w.alloc (.cells #[.pointer (some ⟨c,0,none⟩),.pointer (some ⟨s,0,none⟩),.int .u64 (gen:Int)] 120)).alloc (.cells zAJ 169):=⟨_,rfl⟩;have m0:zF w w1:=by rw[hw1];exact ((zA.refl _ w).alloc _).alloc _
  have hz:w1.heap.size=w.heap.size+2:=by rw[hw1];simp
  have hN:zY P P F (λk=>F k\/(w.heap.size<=k/\k<w1.heap.size)) ad w w1:=zY.new hL hP (Q:=λk=>w.heap.size<=k/\k<w1.heap.size) m0 (λk hk=>hk.1) (λk hk=>hk.2);have HB:=oh (show jR (λk=>F k\/(w.heap.size<=k/\k<w1.heap.size)) P w w1 w.heap.size #[.pointer (some ⟨c,0,none⟩),.pointer (some ⟨s,0,none⟩),.int .u64 (gen:Int)] 120 from ⟨by rw[hw1];exact (zH.new w _ _).alloc _,.inr ⟨by omega,by omega⟩,λhp=>by have:=h.bd _ hp;omega,by omega⟩);have HR:=oh (show jR (λk=>F k\/(w.heap.size<=k/\k<w1.heap.size)) P w w1 (w.heap.size+1) zAJ 169 from ⟨by rw[hw1];exact zR (by simp),.inr ⟨by omega,by omega⟩,λhp=>by have:=h.bd _ hp;omega,by omega⟩);have HG:=oh (h.plusNew hP (Q:=λk=>w.heap.size<=k/\k<w1.heap.size) m0 (λk hk=>hk.1));have HLD:=zPx hN.env hN.sub HG.out gen (id:Int) hkn;rw[hload] at HLD;unfold pgV at HLD;have HLD:=oh HLD;have HN:=oh hN;have b0:=HB.out.blk.cell (o:=0) rfl;have b1:=HB.out.blk.cell (o:=1) rfl;have b2:=HB.out.blk.cell (o:=2) rfl;have HW1:=oh hw1;have HN0:=oh (And.intro hn (And.intro hid (And.intro hqid (And.intro huq (And.intro hpl hu)))));have HC:=oh hc;have HK:=oh hk;have HRI:=oh hr;have HBD:=oh hb;have HFIT:=oh hp.fit;have HPG:=oh hp;have HLO:=oh hload;have HDEP:=oh (And.intro hf (And.intro hdep hf16));have HZ:=oh hz;clear hL hP h m0 hN hw1 hn hid hqid huq hpl hu hc hk hr hb hp hload hkn hnode hf hdep hf16 hz;unfold pgV
  go_enter Tryz.func92, Tryz.ntmps92
  go_wp2_with fail;rw[<- HW1.out];refine HLD.out.mono ?_;rintro e w2 ⟨P2,F2,hG2,hN2,ve,vk,vi,rfl,hve,hvk,hvi⟩;rw[HLF.out];obtain⟨g1,g2,g3⟩:=zNb (w0:=w) (HN.out.trans hN2) hG2 #[.bool lf,ve,vk,vi] 174 (by have:=hN2.size;have:=HZ.out;omega);obtain⟨w3,hw3⟩:∃w3,w3=w2.alloc (.cells #[.bool lf,ve,vk,vi] 174):=⟨_,rfl⟩;obtain⟨D,hD⟩:∃D,D=w2.heap.size:=⟨_,rfl⟩;obtain⟨F3,hF3⟩:∃F3:Nat->Prop,F3=λk=>F2 k\/k=w2.heap.size:=⟨_,rfl⟩
  rw[<- hF3,<- hw3] at g1 g2 g3;rw[<- hD] at g3;have hN3:=HN.out.trans (hN2.trans g1);have HB3:=oh ((HB.out.nxt hN2).nxt g1);have HR3:=oh ((HR.out.nxt hN2).nxt g1);have HG3:=oh g2;have HD3:=oh g3;have HVE:=oh (g1.sl hN2.sub (F:=F2) hve);have HVK:=oh (g1.sl hN2.sub (F:=F2) hvk);have HVI:=oh (g1.sl hN2.sub (F:=F2) hvi);have HN3:=oh hN3;have HDZ:Hid (w.heap.size+2<=D/\D<w3.heap.size):=oh ⟨by rw[hD];have:=hN2.size;have:=HZ.out;omega,by rw[hD,hw3];simp⟩;obtain⟨ea,ec,rfl,he1, -, -, -⟩:=hve;obtain⟨ka,kc,rfl, -, -, -, -⟩:=hvk;obtain⟨ia,ic,rfl,hi1, -, -, -⟩:=hvi;have b0:=HB3.out.blk.cell (o:=0) rfl;have b1:=HB3.out.blk.cell (o:=1) rfl;have b2:=HB3.out.blk.cell (o:=2) rfl;have r0:=HR3.out.blk.cell (o:=0) rfl;have r1:=HR3.out.blk.cell (o:=1) rfl;have r2:=HR3.out.blk.cell (o:=2) rfl;have r3:=HR3.out.blk.cell (o:=3) rfl;have r4:=HR3.out.blk.cell (o:=4) rfl;have rf:=HR3.out.blk.frozen;have n0:=HD3.out.blk.cell (o:=0) rfl;have n1:=HD3.out.blk.cell (o:=1) rfl;have n2:=HD3.out.blk.cell (o:=2) rfl;have n3:=HD3.out.blk.cell (o:=3) rfl;have b0x:(w2.alloc (.cells #[.bool lf,.slice ea n.entries.length ec,.slice ka n.keys.length kc,.slice ia n.kids.length ic] 174)).cell? ⟨w.heap.size,0,none⟩=some (.pointer (some ⟨c,0,none⟩)):=by rw[<- hw3];exact b0
  have b1x:(w2.alloc (.cells #[.bool lf,.slice ea n.entries.length ec,.slice ka n.keys.length kc,.slice ia n.kids.length ic] 174)).cell? ⟨w.heap.size,1,none⟩=some (.pointer (some ⟨s,0,none⟩)):=by rw[<- hw3];exact b1
  have b2x:(w2.alloc (.cells #[.bool lf,.slice ea n.entries.length ec,.slice ka n.keys.length kc,.slice ia n.kids.length ic] 174)).cell? ⟨w.heap.size,2,none⟩=some (.int .u64 (gen:Int)):=by rw[<- hw3];exact b2
  have HW3:=oh hw3;have HDD:=oh hD;clear g1 g2 g3 hN3 hG2 hN2 hw3 hD hF3 hlf;cases lf with
  | true =>
   go_wp2_with fail;rw[<- HW3.out];obtain⟨hn,hid,hqid,huq,hpl,hu⟩:=HN0.out;have hlB:d=0/\jH G gen n.entries ps q/\∀x∈ps,inB lo hi x.1:=by
    rcases HBD.out with ⟨_,h2,_,h4,h5⟩|⟨h1,_⟩
    .exact⟨h2,h4,h5⟩
    .rw[HLF.out] at h1;cases h1
   have hLO:=zJU (gen:=gen) (old:=id) HC.out hpl HLF.out HRI.out HFIT.out hlB.2.1 hkb hv hid.2 huq (λ_=>hid.1) (by omega);have HLE:=zGm n key v HN3.out.env HN3.out.sub HG3.out gen id hgen _ _ _ HVE.out HVK.out HVI.out hLO;unfold pgV at HLE;have HPA:Hid (zCs gen key v (f+1) G l id=zBo G l gen id n key v):=oh (by rw[zCs,HLO.out];simp only;rw[if_pos HLF.out]);have HLE:=oh HLE;clear hn hid hqid huq hpl hu hlB hLO b0x b1x b2x;refine HLE.out.mono ?_;rintro e w7 ⟨P7,F7,G7,l7,hG7,hN7,hr⟩;have HR7:=oh (HR3.out.nxt hN7);have HG7:=oh hG7;have HN7:=oh (HN3.out.trans hN7);have q0:=HR7.out.blk.cell (o:=0) rfl;have q1:=HR7.out.blk.cell (o:=1) rfl;have q2:=HR7.out.blk.cell (o:=2) rfl;have q3:=HR7.out.blk.cell (o:=3) rfl;have q4:=HR7.out.blk.cell (o:=4) rfl;have qf:=HR7.out.blk.frozen;clear hG7 hN7;rcases hr with ⟨o,hs,rfl⟩|⟨k,o,f2,el,hs,hfr,rfl,hE⟩
   .have HS:=oh hs;clear hs;unfold zIm;go_wp2_with fail;have mR:=zA.set5 (F:=λk=>k=w.heap.size+1) (zA.refl _ w7) (R:=w.heap.size+1) (.inr rfl) (.int .i64 (o.id0:Int)) (.int .i64 (o.id1:Int)) (.string o.key) (.bool o.two) (.bool o.news);have bR:=HR7.out.blk.set5 (.int .i64 (o.id0:Int)) (.int .i64 (o.id1:Int)) (.string o.key) (.bool o.two) (.bool o.news);refine bodyPost_ret (zC rfl _ _ (w.heap.size+1) 169 _ _ rfl bR Tryz.underlying169 rfl Tryz.outSz) rfl ?_;exact⟨P7,F7,G7,l7,HG7.out.var HR7.out mR,HN7.out.var HR7.out mR,.inl ⟨o,by rw[HPA.out,HS.out],rfl⟩⟩
   .have HS:=oh hs;have HE:=oh hE;have HFR:=oh hfr;clear hs hE hfr;unfold zIm;go_wp2_with fail;have mR:=zA.set5 (F:=λk=>k=w.heap.size+1) (zA.refl _ w7) (R:=w.heap.size+1) (.inr rfl) (.int .i64 (o.id0:Int)) (.int .i64 (o.id1:Int)) (.string o.key) (.bool o.two) (.bool o.news);have bR:=HR7.out.blk.set5 (.int .i64 (o.id0:Int)) (.int .i64 (o.id1:Int)) (.string o.key) (.bool o.two) (.bool o.news);refine bodyPost_ret (zC rfl _ _ (w.heap.size+1) 169 _ _ rfl bR Tryz.underlying169 rfl Tryz.outSz) rfl ?_;exact⟨P7,F7,G7,l7,HG7.out.var HR7.out mR,HN7.out.var HR7.out mR,.inr ⟨k,o,f2,el,by rw[HPA.out,HS.out],HFR.out,rfl,HE.out.mods (HR7.out.mF mR)⟩⟩
  | false =>
   obtain⟨hn,hid,hqid,huq,hpl,hu⟩:=HN0.out;have hkd:jD (TrD G gen d) lo hi n.keys n.kids ps q:=by
    rcases HBD.out with ⟨h1,_⟩|⟨_,h2⟩
    .rw[HLF.out] at h1;cases h1
    .exact h2
   obtain⟨k1,k2,c1,ck,c2,l1,lm,l2,q1,qm,q2,lo',hi',e1,e2,e3,e4,rfl,rfl,e7,e8, -, -, -⟩:=hkd.at_ (TrD.bounds d) HK.out;obtain⟨at_,hat⟩:∃at_,at_=zBS key n.keys:=⟨_,rfl⟩
   rw[<- hat] at e4;have hkat:n.kids[at_]? = some (ck:Int):=by rw[e4,e2,<- e3];simp
   have hkd0:n.kids.getD at_ 0=(ck:Int):=by simp[List.getD,hkat]
   have hnd2:=List.nodup_append.1 (List.nodup_append.1 hid.2).2.1;obtain⟨hde1,hde2,hde3⟩:=HDEP.out;have HIH:=oh (λ(F':Nat->Prop) (W:World) (hL:yG F' ad W) (hP:∀k,P2 k->F' k) (h:jU F' W P2 c s G l)=>zIE hgen hkb hv d f ck lo' hi' lm qm (dep+1) hL hP h HC.out e7 hnd2.1 (λk hk=>huq k (by simp[hk])) e8 (by omega) (by omega) (by omega) (by omega));have HPA:Hid (zCs gen key v (f+1) G l id=match zCs gen key v f G l ck with
    | .inr k=>.inr k
    | .inl (G1,l1,o)=>match qC G1 l1 gen id (zDL n at_ o) with
     | .inr k=>.inr k
     | .inl (G2,l2,o2)=>.inl (G2,l2,{ o2 with news:=o.news })):=oh (by
    rw[zCs,HLO.out];simp only;rw[if_neg (by rw[HLF.out];simp),<- hat,hkd0,Int.toNat_natCast];rfl)
   have HMID:=oh (λ(G1:GA) (l1':List Nat) (o:zA0) (h:zCs gen key v f G l ck=.inl (G1,l1',o))=>zQ3 (f:=f) (G1:=G1) (l1':=l1') (o:=o) HC.out ⟨(TrD.ltq (G:=G) (gen:=gen) (d+1) lo hi id _ _ ⟨n,_,HPG.out,HRI.out,rfl,HBD.out⟩ id List.mem_cons_self).1,(TrD.ltq (G:=G) (gen:=gen) (d+1) lo hi id _ _ ⟨n,_,HPG.out,HRI.out,rfl,HBD.out⟩ id List.mem_cons_self).2,HPG.out.page,HFIT.out⟩ HRI.out HLF.out hkd hn hu HK.out (by omega) (by omega) hkb hv (by omega) (by rw[<- hat,hkd0,Int.toNat_natCast];exact h));have halt:=(List.getElem?_eq_some_iff.1 hkat).1;have hkl:n.kids.length=n.keys.length+1:=(zCp HRI.out HLF.out).2.1;have HFEW:=oh (zGL HRI.out (by have:=HFIT.out;have:=HC.out.s1024;omega));have HATL:Hid (at_<=n.keys.length/\at_<n.kids.length):=oh ⟨by omega,halt⟩;have i1:(0:Int)<=(at_:Int):=by omega
   have i2:(at_:Int)<(n.kids.length:Int):=by omega
   have hs1:IntKind.i64.wrap ((dep:Int)+1)=((dep+1:Nat):Int):=by rw[IntWalk.i64_in _ (by omega)];omega
   have HAT:=oh hat;obtain⟨kb,koff,rfl,hkb1,hkc⟩:=zQA HVI.out hkat;have k0:w3.cell? ⟨kb,koff+at_,none⟩=some (.int .i64 (ck:Int)):=by have:=hkc 0 _ rfl;simpa using this
   have hkbP:¬ P2 kb:=λhp=>by
    obtain⟨a,cap,e,_,_,_,h4⟩:=HVI.out;injection e with e _ _;subst e;rcases h4 with h4|⟨b,off,ha,_,hF,_⟩
    .rw[h4] at halt;simp at halt
    .injection ha with ha;injection ha with ha _;subst ha;exact hF (HN3.out.sub _ hp)
   have HKBP:=oh hkbP;have HFD:=zFi (w:=w3) n key _ _ (.slice (some ⟨kb,koff,none⟩) n.kids.length ic) HVE.out HVK.out;rw[HLF.out,zK9 HLF.out key,<- hat] at HFD;have HFD:=oh HFD;clear hn hid hqid huq hpl hu hkd e1 e2 e3 e4 e7 e8 hkat hkd0 hnd2 hde1 hde2 hde3 halt hkl hat hkc hkbP;go_wp2_with fail;rw[<- HW3.out,<- HDD.out];refine HFD.out.mono ?_;rintro e w4 ⟨rfl,hm4⟩;have hN4:=HN3.out.trans (zY.ext HN3.out.env HN3.out.sub hm4);have hG4:=HG3.out.at hm4;have HB4:=oh (HB3.out.ext hm4);have HR4:=oh (HR3.out.ext hm4);have HD4:=oh (HD3.out.ext hm4);have HE4:=oh (HVE.out.ext hm4);have HK4:=oh (HVK.out.ext hm4);have HI4:=oh (HVI.out.ext hm4);have b0:=zE hm4 b0;have b1:=zE hm4 b1;have b2:=zE hm4 b2;have n3:=zE hm4 n3;have k0:=zE hm4 k0;have hd4:=(zA.refl (λ_=>False) w4).drew;obtain⟨g1,g2,g3⟩:=zNb (w0:=w) hN4 hG4 zAJ 169 hN4.size;obtain⟨F4,hF4⟩:∃F4:Nat->Prop,F4=λk=>F3 k\/k=w4.heap.size:=⟨_,rfl⟩
   rw[<- hF4] at g1 g2 g3;have HG1:=oh g1;have HG3b:=oh g3;have HIH1:=oh (HIH.out F3 w4.drew (hN4.env.mods hd4.ext) hN4.sub (hG4.at hd4));have hda:=(zA.refl (λ_=>False) (w4.alloc (.cells zAJ 169))).drew;have HIH2:=oh (HIH.out F4 (w4.alloc (.cells zAJ 169)).drew (g1.env.mods hda.ext) g1.sub (g2.at hda));have HN4:=oh hN4;have b0a:=zM b0 (.cells zAJ 169);have b1a:=zM b1 (.cells zAJ 169);have b2a:=zM b2 (.cells zAJ 169);have n3a:=zM n3 (.cells zAJ 169);have k0a:=zM k0 (.cells zAJ 169);have HD4Z:Hid (w.heap.size+2<=D/\D<w4.heap.size):=oh ⟨HDZ.out.1,by have:=HDZ.out.2;have:=hm4.size;omega⟩;have ne0:=World.new_ne w4 _ b0;have ne1:=World.new_ne w4 _ b1;have ne2:=World.new_ne w4 _ b2;have ne3:=World.new_ne w4 _ n3;have ne4:=World.new_ne w4 _ k0;unfold pgV at HIH1 HIH2;clear hN4 hG4 g1 g2 g3 hF4 hd4 hda hm4 r0 r1 r2 r3 r4 rf n0 n1 n2 b0x b1x b2x;go_wp2_with fail;go_cut [13,16] (λv13 v16 wx=>∃X ev,v16=.pointer (some ⟨X,0,none⟩)/\v13=ev/\Hid (X<wx.heap.size/\D<X)/\Hid (zSO F P ad w c s gen D #[.bool false,.slice ea n.entries.length ec,.slice ka n.keys.length kc,.slice (some ⟨kb,koff,none⟩) n.kids.length ic] n (.slice ea n.entries.length ec) (.slice ka n.keys.length kc) (.slice (some ⟨kb,koff,none⟩) n.kids.length ic) G l (zCs gen key v f G l ck) X ev wx))
   case first =>
    go_region_held3 (λw'=>w'.cell? ⟨w.heap.size,0,none⟩=some (.pointer (some ⟨c,0,none⟩))/\w'.cell? ⟨w.heap.size,1,none⟩=some (.pointer (some ⟨s,0,none⟩))/\w'.cell? ⟨w.heap.size,2,none⟩=some (.int .u64 (gen:Int))/\w'.cell? ⟨D,3,none⟩=some (.slice (some ⟨kb,koff,none⟩) n.kids.length ic)/\w'.cell? ⟨kb,koff+at_,none⟩=some (.int .i64 (ck:Int)))
     (first|(with_reducible exact⟨b0,b1,b2,n3,k0⟩)|(with_reducible exact⟨b0a,b1a,b2a,n3a,k0a⟩)|(with_reducible exact⟨x0,x1,x2,x3,x4⟩)|go_keep)
     (first
      | (go_at_call 92;refine (HIH1.out).mono ?_;rintro e w9 hq;obtain⟨P9,F9,G9,l9,o,ev,hG9,hN9,rfl,hr9⟩:=hq.q;have hB9:=(HB4.out.ext (zA.refl _ w4).drew).nxt hN9;have hD9:=(HD4.out.ext (zA.refl _ w4).drew).nxt hN9;have x0:=hB9.blk.cell (o:=0) rfl;have x1:=hB9.blk.cell (o:=1) rfl;have x2:=hB9.blk.cell (o:=2) rfl;have x3:=hD9.blk.cell (o:=3) rfl;have x4:=zJW (w:=w4.drew) hN9.stp.mods k0 HKBP.out)
      | (go_at_call 92;refine (HIH2.out).mono ?_;rintro e w9 hq;obtain⟨P9,F9,G9,l9,o,ev,hG9,hN9,rfl,hr9⟩:=hq.q;have hB9:=(((HB4.out.nxt HG1.out)).ext (zA.refl _ _).drew).nxt hN9;have hD9:=((HD4.out.nxt HG1.out).ext (zA.refl _ _).drew).nxt hN9;have x0:=hB9.blk.cell (o:=0) rfl;have x1:=hB9.blk.cell (o:=1) rfl;have x2:=hB9.blk.cell (o:=2) rfl;have x3:=hD9.blk.cell (o:=3) rfl;have x4:=zJW (w:=(w4.alloc (.cells zAJ 169)).drew) hN9.stp.mods k0a HKBP.out;have hX9:=(HG3b.out.ext (zA.refl _ _).drew).nxt hN9;have y0:=hX9.blk.cell (o:=0) rfl;have y1:=hX9.blk.cell (o:=1) rfl;have y2:=hX9.blk.cell (o:=2) rfl;have y3:=hX9.blk.cell (o:=3) rfl;have y4:=hX9.blk.cell (o:=4) rfl;have yf:=hX9.blk.frozen)
      | fail)
    .go_wp2_with fail;go_meet;have hd4:=(zA.refl (λ_=>False) w4).drew;have hN4d:=HN4.out.trans (zY.ext HN4.out.env HN4.out.sub hd4);have hNN:=hN4d.trans hN9;obtain⟨j1,j2,j3⟩:=zNb (w0:=w) hNN hG9 (zIm o) 169 hNN.size;have hR9:=(HR4.out.ext hd4).nxt hN9;refine⟨w9.heap.size,ev,rfl,rfl,oh ⟨by simp,by have:=hN9.size;have:=HD4Z.out;exact Nat.lt_of_lt_of_le this.2 hN9.size⟩,oh ⟨P9,_,G9,l9,o,j2,hNN.trans j1,hB9.nxt j1,hR9.nxt j1,hD9.nxt j1,j3,j1.sl hN9.sub (hN9.sl HN4.out.sub (HE4.out.ext hd4)),j1.sl hN9.sub (hN9.sl HN4.out.sub (HK4.out.ext hd4)),j1.sl hN9.sub (hN9.sl HN4.out.sub (HI4.out.ext hd4)),?_⟩⟩;rcases hr9 with h9|⟨k,f9,el,h1,h2,h3,h4⟩
     .exact .inl h9
     .exact .inr ⟨k,f9,el,h1,h2,h3,j1.errc hN9.sub h4⟩
    .go_wp2_with fail;go_meet;have hda:=(zA.refl (λ_=>False) (w4.alloc (.cells zAJ 169))).drew;have hNa:=HN4.out.trans HG1.out;have hNN:=(hNa.trans (zY.ext hNa.env hNa.sub hda)).trans hN9;have mX:=zA.set5 (F:=λk=>k=w4.heap.size) (zA.refl _ w9) (R:=w4.heap.size) (.inr rfl) (.int .i64 (o.id0:Int)) (.int .i64 (o.id1:Int)) (.string o.key) (.bool o.two) (.bool o.news);have hR9:=((HR4.out.nxt HG1.out).ext hda).nxt hN9;have hmF:=hX9.mF mX;have hDZ:=HD4Z.out;refine⟨w4.heap.size,ev,rfl,rfl,oh ⟨Nat.lt_of_lt_of_le hX9.blk.lt mX.size,hDZ.2⟩,oh ⟨P9,F9,G9,l9,o,hG9.var hX9 mX,hNN.var hX9 mX,hB9.other mX (by omega),hR9.other mX (by omega),hD9.other mX (by omega),⟨hX9.blk.set5 _ _ _ _ _,hX9.f,hX9.p,hX9.new⟩,(hN9.sl HG1.out.sub ((HG1.out.sl HN4.out.sub HE4.out).ext hda)).mods hmF,(hN9.sl HG1.out.sub ((HG1.out.sl HN4.out.sub HK4.out).ext hda)).mods hmF,(hN9.sl HG1.out.sub ((HG1.out.sl HN4.out.sub HI4.out).ext hda)).mods hmF,?_⟩⟩;rcases hr9 with h9|⟨k,f9,el,h1,h2,h3,h4⟩
     .exact .inl h9
     .exact .inr ⟨k,f9,el,h1,h2,h3,h4.mods hmF⟩
   obtain⟨X,ev,rfl,rfl,HXZ,HPS⟩:=hcut;obtain⟨w5,hw5⟩:∃w5,w5=wc:=⟨_,rfl⟩;rw[<- hw5] at HXZ HPS ⊢;obtain⟨P5,F5,G5,l5,o,hG5,hN5,hB5,hR5,hD5,hX5,hE5,hK5,hI5,hr⟩:=HPS.out;have HG5:=oh hG5;have HN5:=oh hN5;have HB5:=oh hB5;have HR5:=oh hR5;have HD5:=oh hD5;have HX5:=oh hX5;have HE5:=oh hE5;have HK5:=oh hK5;have HI5:=oh hI5;have hxz:=HXZ.out;have hdz:=HDZ.out;clear hG5 hN5 hB5 hR5 hD5 hX5 hE5 hK5 hI5 hw5 b0 b1 b2 n3 k0 b0a b1a b2a n3a k0a ne0 ne1 ne2 ne3 ne4 i1 i2;rcases hr with ⟨hs,rfl⟩|⟨k,f5,el,hs,hfr,rfl,hE⟩
   .obtain⟨hok,hfr⟩:=HMID.out _ _ _ hs;have HS:=oh hs;have HOK:=oh hok;have HFR:=oh hfr;obtain⟨tw,htw⟩:∃tw,o.two=tw:=⟨_,rfl⟩;have x0:=HX5.out.blk.cell (o:=0) (v:=.int .i64 (o.id0:Int)) rfl;have x1:=HX5.out.blk.cell (o:=1) (v:=.int .i64 (o.id1:Int)) rfl;have x2:=HX5.out.blk.cell (o:=2) (v:=.string o.key) rfl;have x3:=HX5.out.blk.cell (o:=3) (v:=.bool o.two) rfl;rw[htw] at x3;have n2:=HD5.out.blk.cell (o:=2) rfl;have n3:=HD5.out.blk.cell (o:=3) rfl;have nf:=HD5.out.blk.frozen;have HTW:=oh htw;obtain⟨n',hn'⟩:∃n',n'=zDL n at_ o:=⟨_,rfl⟩
    have HN':=oh hn';clear hs hok hfr htw hn';go_upto_if 69 with fail
    go_cut [] (λwx=>∃(ka':Option Addr) (kc':Nat) (ia':Option Addr) (ic':Nat),Hid (zRh F P ad w c s gen D X n' o G5 l5 (.slice ea n.entries.length ec) (.slice ka' n'.keys.length kc') (.slice ia' n'.kids.length ic') wx))
    case first =>
     have hXD:X≠D:=by omega
     have hDX:D≠X:=by omega
     have HFL:=oh (λk (hk:F5 k)=>HN5.out.env.lt k hk);cases tw with
     | true =>
      have hjt:n' = { n with kids:=n.kids.take at_++[(o.id0:Int),(o.id1:Int)]++n.kids.drop (at_+1),keys:=n.keys.take at_++[o.key]++n.keys.drop (at_+0) }:=by rw[HN'.out];unfold zDL;rw[if_pos HTW.out]
      have HJK:Hid (n.kids.take at_++[(o.id0:Int),(o.id1:Int)]++n.kids.drop (at_+1)=n'.kids):=oh (by rw[hjt]);have HJS:Hid (n.keys.take at_++[o.key]++n.keys.drop (at_+0)=n'.keys):=oh (by rw[hjt]);have HJE:Hid (n'.entries=n.entries):=oh (by rw[hjt]);obtain⟨w6,hw6⟩:∃w6,w6=w5.alloc (.cells #[.int .i64 (o.id0:Int),.int .i64 (o.id1:Int)] 3):=⟨_,rfl⟩;have m6:zF w5 w6:=by rw[hw6];exact (zA.refl _ _).alloc _
      have HLI:=oh (zEr (w:=w6) _ _ n.kids [(o.id0:Int),(o.id1:Int)] (HI5.out.ext m6) (Sl.two (F:=λ_=>False) (b:=w5.heap.size) (t := 3) (fz:=(0,0)) vW.len (by rw[hw6];exact zR rfl) (λf=>f)) at_ 1 (by have:=HATL.out;omega) (by have:=HFEW.out;omega) (by simp));have M6:=oh m6;have HW6:=oh hw6;clear hjt m6 hw6;go_wp2_with fail;rw[<- HW6.out];refine HLI.out.mono ?_;rintro e w7 ⟨v7,rfl,hO7,hm7⟩;rw[HJK.out] at hO7;obtain⟨oa,oc,rfl, -, -⟩:=hO7.form;have m7:zF w5 w7:=M6.out.trans hm7;have HO7:=oh (hO7.slF (F:=F5) (λk hk=>Nat.lt_of_lt_of_le (HFL.out k hk) M6.out.size) vW.len (by rw[<- HJK.out];have:=HFEW.out;simp;omega));have hD7:=HD5.out.ext m7;have hX7:=HX5.out.ext m7;have n2:=hD7.blk.cell (o:=2) (v:=.slice ka n.keys.length kc) rfl;have n3:=hD7.blk.cell (o:=3) (v:=.slice (some ⟨kb,koff,none⟩) n.kids.length ic) rfl;have nf:=hD7.blk.frozen;have x2:=hX7.blk.cell (o:=2) (v:=.string o.key) rfl;have mD:zA (λk=>k=D) w7 (w7.setCell ⟨D,3,none⟩ (.slice oa n'.kids.length oc)):=zA.at _ w7 _ 3 _ rfl;have hmF:=hD7.mF mD;obtain⟨w8,hw8⟩:∃w8,w8=(w7.setCell ⟨D,3,none⟩ (.slice oa n'.kids.length oc)).alloc (.cells #[.string o.key] 9):=⟨_,rfl⟩;have m8:zF (w7.setCell ⟨D,3,none⟩ (.slice oa n'.kids.length oc)) w8:=by rw[hw8];exact (zA.refl _ _).alloc _
      have hsz8:(w7.setCell ⟨D,3,none⟩ (.slice oa n'.kids.length oc)).heap.size=w7.heap.size:=by simp[World.setCell]
      have HLS0:=zGG (w:=w8) _ _ n.keys [o.key] (((HK5.out.ext m7).mods hmF).ext m8) (Sl.one (F:=λ_=>False) (b:=(w7.setCell ⟨D,3,none⟩ (.slice oa n'.kids.length oc)).heap.size) (t := 9) (fz:=(0,0)) (by rw[hw8];exact zR rfl) (λf=>f)) at_ 0 (by have:=HATL.out;omega) (by have:=HFEW.out;omega) (by simp)
      rw[hsz8,show ((0:Nat):Int)=0 from rfl] at HLS0;have HLS:=oh HLS0;have HDD7:Hid (jR F5 P5 w (w7.setCell ⟨D,3,none⟩ (.slice oa n'.kids.length oc)) D #[.bool false,.slice ea n.entries.length ec,.slice ka n.keys.length kc,.slice oa n'.kids.length oc] 174):=oh (by simpa using hD7.put 3 (.slice oa n'.kids.length oc));have HG7:=oh ((HG5.out.at m7).var hD7 mD);have HN7:=oh ((HN5.out.trans (zY.ext HN5.out.env HN5.out.sub m7)).var hD7 mD);have HB7:=oh ((HB5.out.ext m7).other mD (by omega));have HR7:=oh ((HR5.out.ext m7).other mD (by omega));have HX7:=oh (hX7.other mD hXD);have HE7:=oh ((HE5.out.ext m7).mods hmF);have HI7:=oh (HO7.out.mods hmF);have M8:=oh m8;have HW8:=oh hw8;clear hO7 hm7 m7 hD7 hX7 mD hmF m8 hw8 HLS0 hsz8;go_wp2_with fail;rw[<- HW8.out];refine HLS.out.mono ?_;rintro e w9 ⟨v9,rfl,hO9,hm9⟩;rw[HJS.out] at hO9;obtain⟨sa,sc,rfl, -, -⟩:=hO9.form;have m9:=M8.out.trans hm9;have HO9:=oh (hO9.slF (F:=F5) (λk hk=>Nat.lt_of_lt_of_le (HN7.out.env.lt k hk) M8.out.size) zBl.len (by rw[<- HJS.out];have:=HFEW.out;simp;omega));have hD9:=HDD7.out.ext m9;have nf:=hD9.blk.frozen;have n2:=hD9.blk.cell (o:=2) (v:=.slice ka n.keys.length kc) rfl;have mD:zA (λk=>k=D) w9 (w9.setCell ⟨D,2,none⟩ (.slice sa n'.keys.length sc)):=zA.at _ w9 _ 2 _ rfl;have hmF:=hD9.mF mD;have HDD9:Hid (jR F5 P5 w (w9.setCell ⟨D,2,none⟩ (.slice sa n'.keys.length sc)) D #[.bool false,.slice ea n.entries.length ec,.slice sa n'.keys.length sc,.slice oa n'.kids.length oc] 174):=oh (by simpa using hD9.put 2 (.slice sa n'.keys.length sc));have HST:Hid (zRh F P ad w c s gen D X n' o G5 l5 (.slice ea n.entries.length ec) (.slice sa n'.keys.length sc) (.slice oa n'.kids.length oc) (w9.setCell ⟨D,2,none⟩ (.slice sa n'.keys.length sc))):=oh (by
       refine⟨P5,F5,(HG7.out.at m9).var hD9 mD,(HN7.out.trans (zY.ext HN7.out.env HN7.out.sub m9)).var hD9 mD,(HB7.out.ext m9).other mD (by omega),(HR7.out.ext m9).other mD (by omega),HDD9.out,(HX7.out.ext m9).other mD hXD,?_,HO9.out.mods hmF,(HI7.out.ext m9).mods hmF⟩;rw[HJE.out];exact (HE7.out.ext m9).mods hmF)
      clear hO9 hm9 m9 hD9 mD hmF;go_wp2_with fail;go_meet;exact⟨sa,sc,oa,oc,HST⟩
     | false =>
      have hjt:n' = { n with kids:=n.kids.take at_++[(o.id0:Int)]++n.kids.drop (at_+1) }:=by rw[HN'.out];unfold zDL;rw[if_neg (by rw[HTW.out];simp)]
      have HJK:Hid (n.kids.take at_++[(o.id0:Int)]++n.kids.drop (at_+1)=n'.kids):=oh (by rw[hjt]);have HJS:Hid (n'.keys=n.keys):=oh (by rw[hjt]);have HJE:Hid (n'.entries=n.entries):=oh (by rw[hjt]);obtain⟨w6,hw6⟩:∃w6,w6=w5.alloc (.cells #[.int .i64 (o.id0:Int)] 3):=⟨_,rfl⟩;have m6:zF w5 w6:=by rw[hw6];exact (zA.refl _ _).alloc _
      have HLI:=oh (zEr (w:=w6) _ _ n.kids [(o.id0:Int)] (HI5.out.ext m6) (Sl.one (F:=λ_=>False) (b:=w5.heap.size) (t := 3) (fz:=(0,0)) (by rw[hw6];exact zR rfl) (λf=>f)) at_ 1 (by have:=HATL.out;omega) (by have:=HFEW.out;omega) (by simp));have M6:=oh m6;have HW6:=oh hw6;clear hjt m6 hw6;go_wp2_with fail;rw[<- HW6.out];refine HLI.out.mono ?_;rintro e w7 ⟨v7,rfl,hO7,hm7⟩;rw[HJK.out] at hO7;obtain⟨oa,oc,rfl, -, -⟩:=hO7.form;have m7:zF w5 w7:=M6.out.trans hm7;have HO7:=oh (hO7.slF (F:=F5) (λk hk=>Nat.lt_of_lt_of_le (HFL.out k hk) M6.out.size) vW.len (by rw[<- HJK.out];have:=HFEW.out;simp;omega));have hD7:=HD5.out.ext m7;have n3:=hD7.blk.cell (o:=3) (v:=.slice (some ⟨kb,koff,none⟩) n.kids.length ic) rfl;have nf:=hD7.blk.frozen;have mD:zA (λk=>k=D) w7 (w7.setCell ⟨D,3,none⟩ (.slice oa n'.kids.length oc)):=zA.at _ w7 _ 3 _ rfl;have hmF:=hD7.mF mD;have HDD7:Hid (jR F5 P5 w (w7.setCell ⟨D,3,none⟩ (.slice oa n'.kids.length oc)) D #[.bool false,.slice ea n.entries.length ec,.slice ka n.keys.length kc,.slice oa n'.kids.length oc] 174):=oh (by simpa using hD7.put 3 (.slice oa n'.kids.length oc));have HST:Hid (zRh F P ad w c s gen D X n' o G5 l5 (.slice ea n.entries.length ec) (.slice ka n'.keys.length kc) (.slice oa n'.kids.length oc) (w7.setCell ⟨D,3,none⟩ (.slice oa n'.kids.length oc))):=oh (by
       refine⟨P5,F5,(HG5.out.at m7).var hD7 mD,(HN5.out.trans (zY.ext HN5.out.env HN5.out.sub m7)).var hD7 mD,(HB5.out.ext m7).other mD (by omega),(HR5.out.ext m7).other mD (by omega),?_,(HX5.out.ext m7).other mD hXD,?_,?_,HO7.out.mods hmF⟩
       .rw[HJS.out];exact HDD7.out
       .rw[HJE.out];exact (HE5.out.ext m7).mods hmF
       .rw[HJS.out];exact (HK5.out.ext m7).mods hmF)
      clear hO7 hm7 m7 hD7 mD hmF;go_wp2_with fail;go_meet;exact⟨ka,kc,oa,oc,HST⟩
    obtain⟨sa,sc,oa,oc,HJS⟩:=hcut;obtain⟨w6,hw6⟩:∃w6,w6=wc:=⟨_,rfl⟩;rw[<- hw6] at HJS ⊢;obtain⟨P6,F6,hG6,hN6,hB6,hR6,hD6,hX6,hE6,hK6,hI6⟩:=HJS.out;have hnl:n'.leaf=false:=by
     rw[HN'.out];unfold zDL;split <;> exact HLF.out
    have hokn:zH4 G5 l5 id n':=by rw[HN'.out];have:=HOK.out;rw[<- HAT.out] at this;exact this
    have HELN:Hid (n'.entries=n.entries):=oh (by
     rw[HN'.out];unfold zDL;split <;> rfl)
    have HST:=zIC n' hN6.env hN6.sub hG6 gen id hgen _ _ _ hE6 hK6 hI6 hokn;rw[hnl] at HST;unfold pgV at HST;have HST:=oh HST;have b0:=hB6.blk.cell (o:=0) rfl;have b1:=hB6.blk.cell (o:=1) rfl;have b2:=hB6.blk.cell (o:=2) rfl;have n0:=hD6.blk.cell (o:=0) rfl;have n1:=hD6.blk.cell (o:=1) rfl;have n2:=hD6.blk.cell (o:=2) rfl;have n3:=hD6.blk.cell (o:=3) rfl;have HN6:=oh hN6;have HR6:=oh hR6;have HX6:=oh hX6;clear hG6 hN6 hB6 hR6 hD6 hX6 hE6 hK6 hI6 hnl hokn hw6 x0 x1 x2 x3 nf;go_wp2_with fail;refine HST.out.mono ?_;rintro e w7 hq;obtain⟨P7,F7,G7,l7,o2,ev2,hG7,hN7,rfl,hr⟩:=hq.q;have hR7:=HR6.out.nxt hN7;have hX7:=HX6.out.nxt hN7;have HG7:=oh hG7;have HN7:=oh (HN6.out.trans hN7);have hRlt:w.heap.size+1<w7.heap.size:=hR7.blk.lt;have hXlt:X<w7.heap.size:=hX7.blk.lt;have q0:=hR7.blk.cell (o:=0) rfl;have q1:=hR7.blk.cell (o:=1) rfl;have q2:=hR7.blk.cell (o:=2) rfl;have q3:=hR7.blk.cell (o:=3) rfl;have q4:=hR7.blk.cell (o:=4) rfl;have qf:=hR7.blk.frozen;have x4:=hX7.blk.cell (o:=4) (v:=.bool o.news) rfl;have x4c:=zM x4 (.cells #[.int .i64 (o2.id0:Int),.int .i64 (o2.id1:Int),.string o2.key,.bool o2.two,.bool o2.news] 169);have hne7:w7.heap.size≠w.heap.size+1:=by omega
    have hnX7:w7.heap.size≠X:=by omega
    have HR7:=oh hR7;clear hq hG7 hN7 hR7 hX7 b0 b1 b2 n0 n1 n2 n3;rcases hr with ⟨hs,rfl⟩|⟨k,f7,el,hs,hfr,rfl,hE⟩
    .have HS7:Hid (zCs gen key v (f+1) G l id=.inl (G7,l7,{ o2 with news:=o.news })):=oh (by rw[HPA.out,HS.out];simp only;rw[<- HN'.out,hs]);clear hs;go_wp2_with fail;have mR:=zA.set5 (F:=λk=>k=w.heap.size+1) (zA.refl _ w7) (R:=w.heap.size+1) (.inr rfl) (.int .i64 (o2.id0:Int)) (.int .i64 (o2.id1:Int)) (.string o2.key) (.bool o2.two) (.bool o.news);have bR:=HR7.out.blk.set5 (.int .i64 (o2.id0:Int)) (.int .i64 (o2.id1:Int)) (.string o2.key) (.bool o2.two) (.bool o.news);have gR:=HG7.out.var HR7.out mR;have nR:=HN7.out.var HR7.out mR;have mA:=(zA.refl (λ_=>False) (((((w7.setCell ⟨w.heap.size+1,0,none⟩ (.int .i64 (o2.id0:Int))).setCell ⟨w.heap.size+1,1,none⟩ (.int .i64 (o2.id1:Int))).setCell ⟨w.heap.size+1,2,none⟩ (.string o2.key)).setCell ⟨w.heap.size+1,3,none⟩ (.bool o2.two)).setCell ⟨w.heap.size+1,4,none⟩ (.bool o.news))).alloc (.cells #[.int .i64 (o2.id0:Int),.int .i64 (o2.id1:Int),.string o2.key,.bool o2.two,.bool o.news] 169);refine bodyPost_ret (zC rfl _ _ (w.heap.size+1) 169 _ _ rfl (bR.ext mA) Tryz.underlying169 rfl Tryz.outSz) rfl ?_;exact⟨P7,F7,G7,l7,gR.at mA,nR.trans (zY.ext nR.env nR.sub mA),.inl ⟨{ o2 with news:=o.news },HS7.out,rfl⟩⟩
    .have HS7:Hid (zCs gen key v (f+1) G l id=.inr k):=oh (by rw[HPA.out,HS.out];simp only;rw[<- HN'.out,hs]);have HFR7:=oh (HFR.out.trans hfr);have HE7:=oh hE;clear hs hfr hE;go_wp2_with fail;have mR:=zA.set5 (F:=λk=>k=w.heap.size+1) (zA.refl _ w7) (R:=w.heap.size+1) (.inr rfl) (.int .i64 (o2.id0:Int)) (.int .i64 (o2.id1:Int)) (.string o2.key) (.bool o2.two) (.bool o.news);have bR:=HR7.out.blk.set5 (.int .i64 (o2.id0:Int)) (.int .i64 (o2.id1:Int)) (.string o2.key) (.bool o2.two) (.bool o.news);have gR:=HG7.out.var HR7.out mR;have nR:=HN7.out.var HR7.out mR;have mA:=(zA.refl (λ_=>False) (((((w7.setCell ⟨w.heap.size+1,0,none⟩ (.int .i64 (o2.id0:Int))).setCell ⟨w.heap.size+1,1,none⟩ (.int .i64 (o2.id1:Int))).setCell ⟨w.heap.size+1,2,none⟩ (.string o2.key)).setCell ⟨w.heap.size+1,3,none⟩ (.bool o2.two)).setCell ⟨w.heap.size+1,4,none⟩ (.bool o.news))).alloc (.cells #[.int .i64 (o2.id0:Int),.int .i64 (o2.id1:Int),.string o2.key,.bool o2.two,.bool o.news] 169);refine bodyPost_ret (zC rfl _ _ (w.heap.size+1) 169 _ _ rfl (bR.ext mA) Tryz.underlying169 rfl Tryz.outSz) rfl ?_;exact⟨P7,F7,G7,l7,gR.at mA,nR.trans (zY.ext nR.env nR.sub mA),.inr ⟨k,{ o2 with news:=o.news },f7,el,HS7.out,HFR7.out,rfl,(HE7.out.mods (HR7.out.mF mR)).mods mA.ext⟩⟩
   .have HS7:Hid (zCs gen key v (f+1) G l id=.inr k):=oh (by rw[HPA.out,hs]);have HFR7:=oh hfr;have HE7:=oh hE;have q0:=HR5.out.blk.cell (o:=0) rfl;have q1:=HR5.out.blk.cell (o:=1) rfl;have q2:=HR5.out.blk.cell (o:=2) rfl;have q3:=HR5.out.blk.cell (o:=3) rfl;have q4:=HR5.out.blk.cell (o:=4) rfl;have qf:=HR5.out.blk.frozen;clear hs hfr hE;go_wp2_with fail;have mR:=zA.set5 (F:=λk=>k=w.heap.size+1) (zA.refl _ w5) (R:=w.heap.size+1) (.inr rfl) (.int .i64 0) (.int .i64 0) (.string ⟨#[]⟩) (.bool false) (.bool false);have bR:=HR5.out.blk.set5 (.int .i64 0) (.int .i64 0) (.string ⟨#[]⟩) (.bool false) (.bool false);refine bodyPost_ret (zC rfl _ _ (w.heap.size+1) 169 _ _ rfl bR Tryz.underlying169 rfl Tryz.outSz) rfl ?_;exact⟨P5,F5,G5,l5,HG5.out.var HR5.out mR,HN5.out.var HR5.out mR,.inr ⟨k,zRd,f5,el,HS7.out,HFR7.out,rfl,HE7.out.mods (HR5.out.mF mR)⟩⟩
end
end
end Go.Proofs.YteabpacpngaoaaaGreatDoor
