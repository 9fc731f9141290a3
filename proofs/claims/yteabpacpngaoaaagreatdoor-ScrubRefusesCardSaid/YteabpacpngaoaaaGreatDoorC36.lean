import Derived.Test.YteabpacpngaoaaaGreatDoorC35
namespace Go.Proofs.YteabpacpngaoaaaGreatDoor
open Go.RowKit
theorem zDM{es:List zV}(h1:∀e∈es,vC e=true)(h2:(es.map (·.key)).Pairwise λa b=>ltS a b=true)(h3:es.length<=65535):zO ⟨true,es,[],[]⟩=true:=by
 unfold zO;simp only[if_true,Bool.and_eq_true,decide_eq_true_eq,List.all_eq_true];exact⟨⟨⟨⟨h1,rfl⟩,rfl⟩,zGC h2⟩,h3⟩
theorem zKD{keys:List ByteArray}{kids:List Int}(h1:2<=kids.length)(h2:kids.length=keys.length+1)(h3:∀k∈kids,2<=k/\k<256)(h4:kids.Nodup)(h5:∀s∈keys,zAE s=true)(h6:keys.Pairwise λa b=>ltS a b=true):zO ⟨false,[],keys,kids⟩=true:=by
 unfold zO;simp only[Bool.false_eq_true,if_false,Bool.and_eq_true,decide_eq_true_eq,List.all_eq_true];have h7:=zDy 256 kids h4 (λi hi=>by have:=h3 i hi;omega);exact⟨⟨⟨⟨⟨⟨⟨rfl,h1⟩,h2⟩,h7⟩,λk hk=>by have:=h3 k hk;simp[zCo];omega⟩,h4⟩,h5⟩,zGC h6⟩
theorem zEv{n:zJ}(h:zO n=true):n.entries.length<=65535/\n.kids.length<=256/\(n.leaf=false->2<=n.kids.length):=by
 unfold zO at h;split at h
 .rename_i hl;simp only[Bool.and_eq_true,decide_eq_true_eq,List.isEmpty_iff] at h;refine⟨h.2,by rw[h.1.1.2];simp,λhf=>by rw[hl] at hf;cases hf⟩
 .simp only[Bool.and_eq_true,decide_eq_true_eq,List.isEmpty_iff] at h;obtain⟨⟨⟨⟨⟨⟨⟨h1,h2⟩,h3⟩,h4⟩,h5⟩,h6⟩,h7⟩,h8⟩:=h;exact⟨by rw[h1];simp,h4,λ_=>h2⟩
section
variable {G G':GA}{gen:Nat}{T:zEg}{lo:ByteArray}{hi:Option ByteArray}{l:List zT}{q:List Nat}{kk:List ByteArray}{cc:List Int}
theorem jH.keys{es:List zV}(h:jH G gen es l q):es.map (·.key)=l.map (·.1):=by
 induction h with
 | nil=>rfl
 | cons h1 _ _ ih=>simp[h1,ih]
theorem jH.len{es:List zV}(h:jH G gen es l q):es.length=l.length:=by
 have:=congrArg List.length h.keys;simpa using this
theorem jH.append{es1 es2:List zV}{l1 l2:List zT}{q1 q2:List Nat}(h1:jH G gen es1 l1 q1)(h2:jH G gen es2 l2 q2):jH G gen (es1++es2) (l1++l2) (q1++q2):=by
 induction h1 with
 | nil=>exact h2
 | cons a b _ ih=>simp only[List.cons_append,List.append_assoc];exact .cons a b ih
theorem jH.split:∀(es1:List zV) {es2:List zV} {l:List zT} {q:List Nat},jH G gen (es1++es2) l q->∃l1 l2 q1 q2,jH G gen es1 l1 q1/\jH G gen es2 l2 q2/\l=l1++l2/\q=q1++q2
 | [],es2,l,q,h=>⟨[],l,[],q,.nil,h,rfl,rfl⟩
 | e :: es1,es2,l,q,h=>by
  generalize hs:e :: es1++es2=es at h
  cases h with
  | nil=>simp at hs
  | cons a b c =>
   simp only[List.cons_append,List.cons.injEq] at hs;obtain⟨rfl,rfl⟩:=hs;obtain⟨l1,l2,q1,q2,h1,h2,rfl,rfl⟩:=jH.split es1 c;exact⟨_,_,_,_,.cons a b h1,h2,rfl,(List.append_assoc _ _ _).symm⟩
theorem jH.one{e:zV}{x:zT}{ids:List Nat}(h1:e.key=x.1)(h2:zH6 G gen e x.2 ids):jH G gen [e] [x] ids:=by
 have:=jH.cons h1 h2 .nil;simpa using this
theorem jH.lt{es:List zV}(h:jH G gen es l q):∀i∈q,2<=i/\i<G.blocks:=by
 induction h with
 | nil=>intro i hi;simp at hi
 | cons _ b _ ih =>
  intro i hi;rcases List.mem_append.1 hi with hi|hi
  .rcases b with ⟨_,_,b⟩|⟨_,b⟩
   .rw[b] at hi;simp at hi
   .exact b.lt i hi
  .exact ih i hi
theorem jD.ne(hT:∀lo hi c l q,T lo hi c l q->l≠[])(h:jD T lo hi kk cc l q):l≠[]:=by
 cases h with
 | one h=>exact hT _ _ _ _ _ h
 | cons h _ _=>exact λe=>hT _ _ _ _ _ h (List.append_eq_nil_iff.1 e).1
theorem TrD.ne:∀(d:Nat) (lo:ByteArray) (hi:Option ByteArray) (id:Nat) (l:List zT) (q:List Nat),TrD G gen d lo hi id l q->l≠[]
 | 0,_,_,_,_,_,h=>h.elim
 | d+1,lo,hi,id,l,q,h=>by
  obtain⟨n,q,_,_,_,h⟩:=h;rcases h with ⟨_,_,h,_⟩|⟨_,h⟩
  .exact h
  .exact h.ne (TrD.ne d)
theorem jD.ltq(hT:∀lo hi c l q,T lo hi c l q->∀i∈q,2<=i/\i<G.blocks)(h:jD T lo hi kk cc l q):∀i∈q,2<=i/\i<G.blocks:=by
 induction h with
 | one h=>exact hT _ _ _ _ _ h
 | cons h _ _ ih =>
  intro i hi;rcases List.mem_append.1 hi with hi|hi
  .exact hT _ _ _ _ _ h i hi
  .exact ih i hi
theorem TrD.ltq:∀(d:Nat) (lo:ByteArray) (hi:Option ByteArray) (id:Nat) (l:List zT) (q:List Nat),TrD G gen d lo hi id l q->∀i∈q,2<=i/\i<G.blocks
 | 0,_,_,_,_,_,h=>h.elim
 | d+1,lo,hi,id,l,q,h=>by
  obtain⟨n,q,hp,_,rfl,h⟩:=h;intro i hi;rcases List.mem_cons.1 hi with rfl|hi
  .exact⟨hp.lo,hp.lt⟩
  .rcases h with ⟨_,_,_,h,_⟩|⟨_,h⟩
   .exact h.lt i hi
   .exact h.ltq (TrD.ltq d) i hi
theorem jD.heads(hT:∀lo hi c l q,T lo hi c l q->∃r,q=c :: r)(h:jD T lo hi kk cc l q):∃ks:List Nat,cc=ks.map (λ(i:Nat)=>(i:Int))/\ks.Sublist q:=by
 induction h with
 | @one lo hi c l q h =>
  obtain⟨r,rfl⟩:=hT _ _ _ _ _ h;exact⟨[c],rfl,List.Sublist.cons_cons _ (List.nil_sublist _)⟩
 | @cons lo hi s c keys kids l1 l2 q1 q2 h _ _ ih =>
  obtain⟨r,rfl⟩:=hT _ _ _ _ _ h;obtain⟨ks,rfl,hs⟩:=ih;exact⟨c :: ks,rfl,List.Sublist.cons_cons _ (hs.trans (List.sublist_append_right _ _))⟩
theorem TrD.head:∀(d:Nat) (lo:ByteArray) (hi:Option ByteArray) (id:Nat) (l:List zT) (q:List Nat),TrD G gen d lo hi id l q->∃r,q=id :: r
 | 0,_,_,_,_,_,h=>h.elim
 | d+1,lo,hi,id,l,q,h=>by
  obtain⟨n,q,_,_,rfl,_⟩:=h;exact⟨_,rfl⟩
theorem jD.rise(hb:∀lo hi c l q,T lo hi c l q->∀x∈l,inB lo hi x.1)(hT:∀lo hi c l q,T lo hi c l q->l≠[])(h:jD T lo hi kk cc l q):(kk.Pairwise λa b=>ltS a b=true)/\∀s∈kk,ltS lo s=true:=by
 induction h with
 | one=>exact⟨List.Pairwise.nil,λs hs=>by simp at hs⟩
 | @cons lo hi s c keys kids l1 l2 q1 q2 h _ _ ih =>
  have hls:ltS lo s=true:=by
   obtain⟨x,hx⟩:=List.exists_mem_of_ne_nil _ (hT _ _ _ _ _ h);have:=hb _ _ _ _ _ h x hx;exact zJr this.1 (this.2 s rfl)
  refine⟨List.pairwise_cons.2 ⟨λt ht=>ih.2 t ht,ih.1⟩,λt ht=>?_⟩;rcases List.mem_cons.1 ht with rfl|ht
  .exact hls
  .exact zAw hls (ih.2 t ht)
theorem jD.right{d:Nat}(h:jD (TrD G gen d) lo hi kk cc l q)(hn:q.Nodup)(hk:∀s∈kk,zAE s=true)(h2:2<=cc.length)(hb:G.blocks<=256):zO ⟨false,[],kk,cc⟩=true:=by
 obtain⟨ks,rfl,hs⟩:=h.heads (TrD.head d);refine zKD h2 h.len (λk hk=>?_) ?_ hk (h.rise (TrD.bounds d) (TrD.ne d)).1
 .obtain⟨i,hi,rfl⟩:=List.mem_map.1 hk;have:=h.ltq (TrD.ltq d) i (hs.subset hi);omega
 .exact List.pairwise_map.2 ((hn.sublist hs).imp (λh e=>h (by omega)))
theorem zH7.cut{d:Nat}{n:zJ}{a:Nat}(hb:zH7 G gen (TrD G gen d) d lo hi n l q)(hr:zO n=true)(hp:zBG n a)(hq:q.Nodup)(hbl:G.blocks<=256) :
  ∃l1 l2 q1 q2,zH7 G gen (TrD G gen d) d lo (some (zU n a).2.1) (zU n a).1 l1 q1/\zH7 G gen (TrD G gen d) d (zU n a).2.1 hi (zU n a).2.2 l2 q2/\l=l1++l2/\q=q1++q2 /\
   inB lo hi (zU n a).2.1/\zAE (zU n a).2.1=true/\zO (zU n a).1=true/\zO (zU n a).2.2=true:=by
 rcases hb with ⟨hl,hd,hne,he,hbd⟩|⟨hl,hk⟩
 .have hpl:=hp.leaf hl;have hright:=zAT hr;have hpw:=zDH hr hl;have hlen:n.entries.length<=65535:=by
   unfold zO at hr;rw[if_pos hl] at hr;simp only[Bool.and_eq_true,decide_eq_true_eq] at hr;exact hr.2
  obtain⟨e,hea⟩:∃e,n.entries[a]? = some e:=⟨_,List.getElem?_eq_getElem hpl.2⟩;have hap:zU n a=(⟨true,n.entries.take a,[],[]⟩,e.key,⟨true,n.entries.drop a,[],[]⟩):=by unfold zU;rw[if_pos hl,hea]
  rw[hap];simp only;have he2:jH G gen (n.entries.take a++n.entries.drop a) l q:=by rw[List.take_append_drop];exact he
  obtain⟨l1,l2,q1,q2,s1,s2,rfl,rfl⟩:=jH.split _ he2;have hkeys:=he.keys;have hsort:zA5 (l1++l2):=by
   rw[hkeys] at hpw;exact List.pairwise_map.1 hpw
  have hdrop:n.entries.drop a=e :: n.entries.drop (a+1):=by
   obtain⟨h1,rfl⟩:=List.getElem?_eq_some_iff.1 hea;exact List.drop_eq_getElem_cons h1
  obtain⟨y,l3,rfl,hy⟩:∃y l3,l2=y :: l3/\e.key=y.1:=by
   have h4:=s2.keys;rw[hdrop] at h4;cases l2 with
   | nil=>simp at h4
   | cons y l3=>simp only[List.map_cons,List.cons.injEq] at h4;exact⟨y,l3,rfl,h4.1⟩
  have hse:=List.pairwise_append.1 hsort;have h1ne:l1≠[]:=λe1=>by
   have:=s1.len;rw[e1,List.length_take,List.length_nil] at this;omega
  have hin:inB lo hi e.key:=by rw[hy];exact hbd y (by simp)
  refine⟨l1,y :: l3,q1,q2,.inl ⟨rfl,hd,h1ne,s1,λx hx=>⟨(hbd x (List.mem_append_left _ hx)).1,λk hk=>?_⟩⟩,.inl ⟨rfl,hd,by simp,s2,λx hx=>⟨?_,(hbd x (List.mem_append_right _ hx)).2⟩⟩,rfl,rfl,hin,?_,?_,?_⟩
  .injection hk with hk;rw[<- hk,hy];exact hse.2.2 x hx y List.mem_cons_self
  .rw[hy];rcases List.mem_cons.1 hx with rfl|hx
   .exact zBA _
   .exact zEm ((List.pairwise_cons.1 hse.2.1).1 x hx)
  .have:=hright e (List.mem_of_getElem? hea);unfold vC at this;simp only[Bool.and_eq_true] at this;exact this.1
  .refine zDM (λx hx=>hright x (List.mem_of_mem_take hx)) ?_ (by rw[List.length_take];omega);rw[List.map_take];exact hpw.sublist (List.take_sublist _ _)
  .refine zDM (λx hx=>hright x (List.mem_of_mem_drop hx)) ?_ (by rw[List.length_drop];omega);rw[List.map_drop];exact hpw.sublist (List.drop_sublist _ _)
 .have hpl:=hp.inner hl;obtain⟨hpw,hkl,_⟩:=zCp hr hl;have hkb:=zBc hr;have hlt:a-1<n.keys.length:=by omega
  obtain⟨s,hs⟩:∃s,n.keys[a-1]? = some s:=⟨_,List.getElem?_eq_getElem hlt⟩;have hap:zU n a=(⟨false,[],n.keys.take (a-1),n.kids.take a⟩,s,⟨false,[],n.keys.drop a,n.kids.drop a⟩):=by
   unfold zU;rw[if_neg (by rw[hl];simp)];simp[List.getD,hs]
  have hke:n.keys=n.keys.take (a-1)++s :: n.keys.drop a:=by
   have h1:n.keys.drop (a-1)=s :: n.keys.drop (a-1+1):=by
    obtain⟨h1,rfl⟩:=List.getElem?_eq_some_iff.1 hs;exact List.drop_eq_getElem_cons h1
   rw[show a-1+1=a by omega] at h1;rw[<- h1,List.take_append_drop]
  have hks:jD (TrD G gen d) lo hi (n.keys.take (a-1)++s :: n.keys.drop a) (n.kids.take a++n.kids.drop a) l q:=by rw[<- hke,List.take_append_drop];exact hk
  obtain⟨l1,l2,q1,q2,k1,k2,rfl,rfl,k5⟩:=jD.split _ hks (by rw[List.length_take,List.length_take];omega) (by rw[<- hke];exact hpw);rw[hap];simp only;have hnd:=List.nodup_append.1 hq;refine⟨l1,l2,q1,q2,.inr ⟨rfl,k1⟩,.inr ⟨rfl,k2⟩,rfl,rfl,k5,hkb s (List.mem_of_getElem? hs),?_,?_⟩
  .exact k1.right hnd.1 (λt ht=>hkb t (List.mem_of_mem_take ht)) (by rw[List.length_take];omega) hbl
  .exact k2.right hnd.2.1 (λt ht=>hkb t (List.mem_of_mem_drop ht)) (by rw[List.length_drop];omega) hbl
end
structure zBx(G:GA)(l:List Nat):Prop where
 low:zKA l
 len:l.length=G.blocks
 b256:G.blocks<=256
 s256:256<=G.size
 s1024:G.size<=1024
section
variable {G G' G1:GA}{l l' l1:List Nat}{gen:Nat}{lo:ByteArray}{hi:Option ByteArray}{ps:List zT}{q:List Nat}
theorem zBx.upd{A A1:Nat->Prop}(hc:zBx G l)(h:Upd G l A G' l' A1)(hA:∀i,A i->2<=i):zBx G' l' :=
 ⟨(h.fr hA).lowL hc.low,by rw[h.len,h.bl];exact hc.len,by rw[h.bl];exact hc.b256,by rw[h.sz];exact hc.s256,by rw[h.sz];exact hc.s1024⟩
theorem zBx.free2(hc:zBx G l){i:Nat}(h:l[i]? = some 0):2<=i:=by
 rcases Nat.lt_or_ge i 2 with h2|h2
 .obtain rfl|rfl:i=0\/i=1:=by omega
  .rw[hc.low.1] at h;simp at h
  .rw[hc.low.2] at h;simp at h
 .exact h2
theorem zAW.ne0{A:Nat->Prop}(hu:zAW l A){i:Nat}(hi:A i):l[i]? ≠ some 0:=λe=>by
 rcases hu i hi with h|h <;> rw[e] at h <;> simp at h
theorem Upd.views{A A1:Nat->Prop}(h:Upd G l A G1 l1 A1){ids:List Nat}(hd:∀i∈ids,¬ A i)(hu:zAW l (· ∈ ids)):(∀i∈ids,G1.view i=G.view i/\l1[i]? = l[i]? /\ ¬ A1 i)/\zAW l1 (· ∈ ids) :=
 ⟨λi hi=>h.view (hd i hi) (hu.ne0 hi),λi hi=>by rw[(h.view (hd i hi) (hu.ne0 hi)).2.1];exact hu i hi⟩
theorem zLX{old:Nat}(h:vS l old=none)(ho:vA l old):zAn l<=0:=by
 unfold vS at h;by_cases hz:old=0
 .rw[if_neg (by simp[hz])] at h;rcases Int.lt_or_le 0 (zAn l) with hp|hp
  .obtain⟨i,hi⟩:=zLR (l:=l) (by omega);rw[hi] at h;cases h
  .exact hp
 .split at h
  .cases h
  .rename_i hn;rcases ho with ho|⟨_,ho⟩
   .exact absurd ho hz
   .rcases ho with ho|ho
    .rcases Int.lt_or_le 0 (zAn l) with hp|hp
     .obtain⟨i,hi⟩:=zPz (l:=l) (by omega) ho;rw[hi] at h;cases h
     .exact hp
    .exfalso;refine hn ⟨hz,?_⟩;unfold vM;rw[Int.toNat_natCast,ho];simp
theorem zD6{old:Nat}{n:zJ}(h:qQ G l old n=none)(hd:zBm n G.size)(ho:vA l old):zAn l<=0:=by
 unfold qQ at h;rw[if_pos hd] at h;exact zLX h ho
theorem zQz{n:zJ}(hr:zO n=true)(i:Int)(gen:Nat):qH ⟨zBH n,i,gen,yE n⟩=.inl n:=by
 unfold qH zBH;cases hl:n.leaf with
 | true =>
  have:=(zHU true (yE n) n).2 ⟨hr,hl,rfl⟩;simp[this]
 | false =>
  have:=(zHU false (yE n) n).2 ⟨hr,hl,rfl⟩;simp[this]
theorem zHE{old i d:Nat}{n:zJ}(hc:zBx G l)(ho:vA l old)(hdn:qQ G l old n=some i)(hr:zO n=true)(hb:zH7 G gen (TrD G gen d) d lo hi n ps q)(hq:q.Nodup)(hu:zAW l (· ∈ q))(hoq:old≠0->old ∉ q)(_h2:∀x∈q,2<=x) :
  Upd G l (λk=>(k=old/\old≠0)\/k∈q) (yN G l gen old n) (yV G l old n) (λk=>k=i\/k∈q)/\TrD (yN G l gen old n) gen (d+1) lo hi i ps (i :: q)/\(i :: q).Nodup/\2<=i/\zBx (yN G l gen old n) (yV G l old n) /\
   zAW (yV G l old n) (λk=>k=i\/k∈q)/\vA (yV G l old n) i:=by
 obtain⟨u1,_,u3,u4,u5,u6⟩:=zH3 (gen:=gen) ho hdn (by rw[hc.low.1];simp);have hA2:∀k,(k=old/\old≠0)->2<=k:=λk hk=>by
  obtain⟨rfl,hz⟩:=hk;rcases ho with h|h
  .exact absurd h hz
  .exact h.1
 have huA:zAW l (λk=>k=old/\old≠0):=λk hk=>by
  obtain⟨rfl,hz⟩:=hk;rcases ho with h|h
  .exact absurd h hz
  .exact h.2
 have hdis:∀k∈q,¬ (k=old/\old≠0):=λk hk h=>hoq h.2 (h.1 ▸ hk)
 obtain⟨hv,hu1⟩:=u1.views hdis hu;have hiq:i ∉ q:=λhm=>(hv i hm).2.2 rfl
 have hi2:2<=i:=by
  rcases u1.inn i rfl with ⟨h,_⟩|⟨h,_⟩
  .exact hA2 i h
  .exact hc.free2 h
 have hc1:=hc.upd u1 hA2;have hui:=u1.use huA;refine⟨u1.frame (λk hk=>⟨hdis k hk,hu.ne0 hk⟩),⟨n,q,⟨hi2,?_,⟨_,u5,Nat.le_refl _,zQz hr _ _⟩,by rw[u1.sz];exact u6.2⟩,hr,rfl,hb.mono (Nat.le_refl _) u1.bl u1.sz (λk hk=>(hv k hk).1)⟩,List.nodup_cons.2 ⟨hiq,hq⟩,hi2,hc1,λk hk=>?_,.inr ⟨hi2,hui i rfl⟩⟩
 .rw[u1.bl];have:=hc.len;omega
 .rcases hk with rfl|hk
  .exact hui k rfl
  .exact hu1 k hk
def vY(o:zA0):List ByteArray:=if o.two=true then [o.key] else []
def zA6(o:zA0):List Int:=if o.two=true then [(o.id0:Int),(o.id1:Int)] else [(o.id0:Int)]
structure zOn(G:GA)(l:List Nat)(A:Nat->Prop)(gen d:Nat)(lo:ByteArray)(hi:Option ByteArray)(ps:List zT)(G':GA)(l':List Nat)(o:zA0)(pgs:List Nat):Prop where
 upd:Upd G l A G' l' (λk=>k∈pgs)
 nodup:pgs.Nodup
 two:∀i∈pgs,2<=i
 kids:jD (TrD G' gen d) lo hi (vY o) (zA6 o) ps pgs
 keys:∀s∈vY o,zAE s=true
 ctx:zBx G' l'
 use:zAW l' (λk=>k∈pgs)
theorem zJS{old d:Nat}{n:zJ}(hc:zBx G l)(ho:vA l old)(hr:zO n=true)(hw:zG n<=(G.size:Int)-24+77)(hb:zH7 G gen (TrD G gen d) d lo hi n ps q)(hq:q.Nodup)(hu:zAW l (· ∈ q))(hoq:old≠0->old ∉ q)(h2:∀x∈q,2<=x) :
  (qC G l gen old n=.inr 3/\zAn l<=1) \/
  ∃G' l' o pgs,qC G l gen old n=.inl (G',l',o)/\o.news=false/\zOn G l (λk=>(k=old/\old≠0)\/k∈q) gen (d+1) lo hi ps G' l' o pgs/\pgs.length<=q.length+2/\(zG n<=(G.size:Int)-24->o.two=false):=by
 have hs:=hc.s256;by_cases hfit:zG n<=(G.size:Int)-24
 .unfold qC;rw[if_pos hfit];cases hdn:qQ G l old n with
  | none =>
   refine .inl ⟨?_,by have:=zD6 hdn ⟨hr,hfit⟩ ho;omega⟩;unfold zBI;rw[if_pos ⟨hr,hfit⟩]
  | some i =>
   obtain⟨a1,a2,a3,a4,a5,a6,a7⟩:=zHE hc ho hdn hr hb hq hu hoq h2;refine .inr ⟨_,_,_,i :: q,rfl,rfl,⟨a1.iff (λ_=>Iff.rfl) (λk=>by rw[List.mem_cons]),a3,λk hk=>?_,?_,λs hs=>by simp[vY] at hs,a5,λk hk=>a6 k (List.mem_cons.1 hk)⟩,by simp,λ_=>rfl⟩
   .rcases List.mem_cons.1 hk with rfl|hk
    .exact a4
    .exact h2 k hk
   .exact .one a2
 .obtain⟨a,ha,hcut,w1,w2⟩:=zNY hr (W:=(G.size:Int)-24) (by omega) (by omega) (by omega);obtain⟨l1,l2,q1,q2,b1,b2,rfl,rfl,b5,b6,b7,b8⟩:=hb.cut hr ha hq hc.b256;obtain⟨⟨x,k,y⟩,hx⟩:∃x,x=zU n a:=⟨_,rfl⟩;rw[<- hx] at hcut w1 w2 b1 b2 b5 b6 b7 b8;simp only at w1 w2 b1 b2 b5 b6 b7 b8;have hnd:=List.nodup_append.1 hq;have e:qC G l gen old n=(match qQ G l old x with
    | none=>.inr (zBI G x)
    | some i=>match qQ (yN G l gen old x) (yV G l old x) 0 y with
     | none=>.inr (zBI (yN G l gen old x) y)
     | some j=>.inl (yN (yN G l gen old x) (yV G l old x) gen 0 y,yV (yN G l gen old x) (yV G l old x) 0 y,⟨i,j,k,true,false⟩)):=by
   unfold qC;rw[if_neg hfit,hcut];simp only;rw[if_pos ⟨w1,w2⟩];try rfl
  rw[e];cases hdn:qQ G l old x with
  | none =>
   refine .inl ⟨?_,by have:=zD6 hdn ⟨b7,w1⟩ ho;omega⟩;simp only;unfold zBI;rw[if_pos ⟨b7,w1⟩]
  | some i =>
   have hu1:zAW l (· ∈ q1):=λk hk=>hu k (List.mem_append_left _ hk)
   have hu2:zAW l (· ∈ q2):=λk hk=>hu k (List.mem_append_right _ hk)
   obtain⟨a1,a2,a3,a4,a5,a6,a7⟩:=zHE hc ho hdn b7 b1 hnd.1 hu1 (λhz hm=>hoq hz (List.mem_append_left _ hm)) (λk hk=>h2 k (List.mem_append_left _ hk));simp only;generalize hGx:yN G l gen old x=Gx at a1 a2 a5 ⊢
   generalize hlx:yV G l old x=lx at a1 a5 a6 a7 ⊢
   have hdq:∀k∈q2,¬ ((k=old/\old≠0)\/k∈q1):=λk hk h=>by
    rcases h with ⟨rfl,hz⟩|h
    .exact hoq hz (List.mem_append_right _ hk)
    .exact hnd.2.2 k h k hk rfl
   obtain⟨v1,v2⟩:=a1.views hdq hu2;have huA:zAW l (λk=>(k=old/\old≠0)\/k∈q1):=λk hk=>by
    rcases hk with ⟨rfl,hz⟩|hk
    .rcases ho with h|h
     .exact absurd h hz
     .exact h.2
    .exact hu1 k hk
   cases hdm:qQ Gx lx 0 y with
   | none =>
    refine .inl ⟨?_,?_⟩
    .simp only;unfold zBI;rw[if_pos ⟨b8,by rw[a1.sz];exact w2⟩]
    .have h3:=zD6 hdm ⟨b8,by rw[a1.sz];exact w2⟩ (.inl rfl);have h4:=(zH3 (gen:=gen) ho hdn (by rw[hc.low.1];simp)).2.1;rw[hlx] at h4;split at h4 <;> omega
   | some j =>
    have hb2:=b2.mono (Nat.le_refl _) a1.bl a1.sz (λk hk=>(v1 k hk).1);obtain⟨c1,c2,c3,c4,c5,c6,c7⟩:=zHE (gen:=gen) a5 (.inl rfl) hdm b8 hb2 hnd.2.1 v2 (λh=>absurd rfl h) (λk hk=>h2 k (List.mem_append_right _ hk));simp only;generalize hGy:yN Gx lx gen 0 y=Gy at c1 c2 c5 ⊢
    generalize hly:yV Gx lx 0 y=ly at c1 c5 c6 c7 ⊢
    -- the first half stays
    have hd1:∀k∈i :: q1,¬ ((k=0/\(0:Nat)≠0)\/k∈q2):=λk hk h=>by
     rcases h with ⟨_,h⟩|h
     .exact h rfl
     .rcases List.mem_cons.1 hk with rfl|hk
      .exact (v1 k h).2.2 (.inl rfl)
      .exact hnd.2.2 k hk k h rfl
    obtain⟨z1,z2⟩:=c1.views hd1 (λk hk=>a6 k (List.mem_cons.1 hk));have hT1:TrD Gy gen (d+1) lo (some k) i l1 (i :: q1):=TrD.mono (Nat.le_refl _) c1.bl c1.sz _ _ _ _ _ _ (λt ht=>(z1 t ht).1) a2;have f1:=a1.frame (B:=λt=>t∈q2) (λt ht=>⟨hdq t ht,hu2.ne0 ht⟩);have f2:=(c1.frame (B:=λt=>t∈i :: q1) (λt ht=>⟨hd1 t ht,(λe=>by
     rcases a6 t (List.mem_cons.1 ht) with h|h <;> rw[e] at h <;> simp at h)⟩)).iff (A':=λt=>(t=i\/t∈q1)\/t∈q2) (A1':=λt=>t∈(i :: q1)++(j :: q2)) (λt=>by
      simp only[List.mem_cons];constructor
      .rintro ((h|h)|h)
       .exact .inr (.inl h)
       .exact .inr (.inr h)
       .exact .inl (.inr h)
      .rintro ((⟨_,h⟩|h)|(h|h))
       .exact absurd rfl h
       .exact .inr h
       .exact .inl (.inl h)
       .exact .inl (.inr h)) (λt=>by
      simp only[List.mem_append,List.mem_cons];exact or_comm)
    have huB:zAW l (λt=>((t=old/\old≠0)\/t∈q1)\/t∈q2):=λt ht=>by
     rcases ht with ht|ht
     .exact huA t ht
     .exact hu2 t ht
    have f3:=(f1.trans f2 huB).iff (A':=λk=>(k=old/\old≠0)\/k∈q1++q2) (A1':=λt=>t∈(i :: q1)++(j :: q2)) (λt=>by
     rw[List.mem_append,or_assoc]) (λt=>Iff.rfl)
    have huE:=f3.use (λt ht=>by
     rcases ht with ⟨rfl,hz⟩|ht
     .exact huA t (.inl ⟨rfl,hz⟩)
     .exact hu t ht)
    refine .inr ⟨Gy,ly,_,(i :: q1)++(j :: q2),rfl,rfl,⟨f3,?_,λt ht=>?_,?_,λs hs=>?_,c5,huE⟩,by simp;omega,λh=>absurd h hfit⟩
    .refine List.nodup_append.2 ⟨a3,c3,λt ht u hu e=>?_⟩;subst e;rcases List.mem_cons.1 hu with rfl|hu
     .exact (z1 t ht).2.2 (.inl rfl)
     .exact hd1 t ht (.inr hu)
    .rcases List.mem_append.1 ht with ht|ht
     .rcases List.mem_cons.1 ht with rfl|ht
      .exact a4
      .exact h2 t (List.mem_append_left _ ht)
     .rcases List.mem_cons.1 ht with rfl|ht
      .exact c4
      .exact h2 t (List.mem_append_right _ ht)
    .exact .cons hT1 b5 (.one c2)
    .simp[vY] at hs;rw[hs];exact b6
end
def zDA(f:Nat->Int):Nat->Int
 | 0=>0
 | n+1=>zDA f n+f n
theorem zCX(f g:Nat->Int):∀n,zDA (λi=>f i+g i) n=zDA f n+zDA g n
 | 0=>rfl
 | n+1=>by simp only[zDA,zCX f g n];omega
theorem zLY(x:Nat):∀n,zDA (λi=>if i=x then 1 else 0) n=if x<n then 1 else 0
 | 0=>by simp[zDA]
 | n+1=>by
  rw[zDA,zLY x n];by_cases h1:n=x
  .subst h1;simp
  .rw[if_neg h1];by_cases h2:x<n
   .rw[if_pos h2,if_pos (by omega)];rfl
   .rw[if_neg h2,if_neg (by omega)];rfl
theorem zJT:∀n,zDA (λ_=>0) n=0
 | 0=>rfl
 | n+1=>by rw[zDA,zJT n];rfl
theorem zEw:∀(a:List Nat) (n:Nat),a.Nodup->(∀i∈a,i<n)->zDA (λi=>if i∈a then 1 else 0) n=a.length
 | [],n,_,_=>by simpa using zJT n
 | x :: a,n,hn,h=>by
  have hn2:=List.nodup_cons.1 hn;have e:(λi=>if i∈x :: a then (1:Int) else 0)=λi=>(if i=x then 1 else 0)+(if i∈a then 1 else 0):=by
   funext i
   by_cases h1:i=x
   .subst h1;simp[hn2.1]
   .simp[h1]
  rw[e,zCX,zLY,if_pos (h x List.mem_cons_self),zEw a n hn2.2 (λi hi=>h i (List.mem_cons_of_mem _ hi)),List.length_cons];omega
def wtL(x:Option Nat):Int:=if x=some 0 then 1 else if x=some 1 then -1 else 0
theorem zHF(l:List Nat):∀n,n<=l.length->zAn (l.take n)=zDA (λi=>wtL l[i]?) n
 | 0,_=>by simp[zAn,zDA]
 | n+1,h=>by
  have hx:l[n]? = some l[n]:=List.getElem?_eq_getElem (by omega);rw[zDA,<- zHF l n (by omega),jA l n _ hx,hx];unfold zAn wtL;rw[List.countP_append,List.countP_append];simp only[List.countP_cons,List.countP_nil,beq_iff_eq,Option.some.injEq];generalize l[n]=x
  by_cases h0:x=0
  .subst h0;simp;omega
  .by_cases h1:x=1
   .subst h1;simp;omega
   .simp[h0,h1]
section
variable {G G' G1:GA}{l l' l1:List Nat}{gen:Nat}{lo:ByteArray}{hi:Option ByteArray}{ps:List zT}{q:List Nat}
theorem Upd.phi{a b:List Nat}(h:Upd G l (λk=>k∈a) G' l' (λk=>k∈b))(hu:zAW l (λk=>k∈a))(ha:a.Nodup)(hb:b.Nodup):zAn l'+b.length=zAn l+a.length:=by
 have hub:=h.use hu;have hla:∀i∈a,i<l.length:=λi hi=>by
  rcases hu i hi with e|e <;> exact (List.getElem?_eq_some_iff.1 e).1
 have hlb:∀i∈b,i<l.length:=λi hi=>by
  rw[<- h.len];rcases hub i hi with e|e <;> exact (List.getElem?_eq_some_iff.1 e).1
 have e1:=zHF l l.length (Nat.le_refl _);have e2:=zHF l' l.length (by rw[h.len];exact Nat.le_refl _);rw[List.take_length] at e1;rw[List.take_of_length_le (by rw[h.len];exact Nat.le_refl _)] at e2;rw[e1,e2,<- zEw a l.length ha hla,<- zEw b l.length hb hlb,<- zCX,<- zCX];congr 1
 funext i
 unfold wtL;by_cases hia:i∈a
 .by_cases hib:i∈b
  .rcases h.inn i hib with ⟨_,e⟩|⟨e,_⟩
   .rw[e,if_pos hia,if_pos hib]
   .exact absurd e (hu.ne0 hia)
  .rw[if_pos hia,if_neg hib];rcases h.gone i hia hib with ⟨e,f⟩|⟨e,f⟩ <;> simp[e,f]
 .by_cases hib:i∈b
  .rw[if_neg hia,if_pos hib];rcases h.inn i hib with ⟨e,_⟩|⟨e,f⟩
   .exact absurd e hia
   .simp[e,f]
  .rw[if_neg hia,if_neg hib,(h.rest i hia hib).1]
theorem zOn.pre{A A1:Nat->Prop}{d:Nat}{o:zA0}{pgs:List Nat}(h:zOn G1 l1 A1 gen d lo hi ps G' l' o pgs)(u:Upd G l A G1 l1 A1)(hu:zAW l A):zOn G l A gen d lo hi ps G' l' o pgs :=
 ⟨u.trans h.upd hu,h.nodup,h.two,h.kids,h.keys,h.ctx,h.use⟩
theorem zFr:∀es:List zV,2 * (es.length:Int)<=yL es
 | []=>by simp[yL]
 | e :: es=>by
  have h1:=zA7 e;have h2:=zFr es;rw[yL,List.length_cons];omega
theorem zFP{α:Type}{l:List α}{i:Nat}{x:α}(h:l[i]? = some x):l=l.take i++(x :: l.drop (i+1)):=by
 obtain⟨h1,rfl⟩:=List.getElem?_eq_some_iff.1 h;rw[<- List.drop_eq_getElem_cons h1,List.take_append_drop]
theorem jH.at_{es:List zV}(h:jH G gen es ps q)(hpw:(es.map (·.key)).Pairwise λa b=>ltS a b=true)(key:ByteArray)(hs:256<=G.size)(hb:G.blocks<=256) :
  ∃l1 lm l2 q1 qm q2,jH G gen (es.take (zAI key es)) l1 q1/\jH G gen (es.drop (zAI key es+if zAf key es=true then 1 else 0)) l2 q2/\ps=l1++(lm++l2)/\q=q1++(qm++q2) /\
   (∀x∈l1,ltS x.1 key=true)/\(∀x∈l2,ltS key x.1=true)/\(zAf key es=(jP key ps).isSome)/\(lm=[]\/∃old,lm=[(key,old)]) /\
   (∀n:zJ,n.entries=es->qR G n key=qm)/\yL (es.take (zAI key es))+yL (es.drop (zAI key es+if zAf key es=true then 1 else 0))<=yL es:=by
 have hlow:∀(i:Nat) (e:zV),i<zAI key es->es[i]? = some e->ltS e.key key=true:=λi e hi he=>by
  have:=zL9 (f:=λe:zV=>!ltS e.key key) (show i<es.findIdx _ from hi) he;simpa using this
 have h1low:∀(l1:List zT) (q1:List Nat),jH G gen (es.take (zAI key es)) l1 q1->∀x∈l1,ltS x.1 key=true:=λl1 q1 h1 x hx=>by
  have hk:=h1.keys;have hm:x.1∈(es.take (zAI key es)).map (·.key):=by rw[hk];exact List.mem_map_of_mem hx
  obtain⟨e,he,hex⟩:=List.mem_map.1 hm;obtain⟨i,hi,hie⟩:=List.getElem_of_mem he;rw[List.length_take] at hi;rw[<- hex];refine hlow i e (by omega) ?_;rw[<- hie,List.getElem_take];exact List.getElem?_eq_getElem (by omega)
 cases hm:es[zAI key es]? with
 | none =>
  have his:zAf key es=false:=by unfold zAf;rw[hm]
  have hlen:es.length<=zAI key es:=List.getElem?_eq_none_iff.1 hm;have htk:es.take (zAI key es)=es:=List.take_of_length_le hlen;rw[his];simp only[Bool.false_eq_true,if_false,Nat.add_zero];rw[List.drop_eq_nil_of_le hlen,htk];have hl:=h1low ps q (by rw[htk];exact h);refine⟨ps,[],[],q,[],[],h,.nil,by simp,by simp,hl,by simp,by rw[zFX hl];rfl,.inl rfl,λn hn=>?_,by simp[yL]⟩;unfold qR;rw[hn,hm]
 | some e =>
  have hes:=zFP hm;have hge:ltS e.key key=false:=by
   have:=zMA (f:=λe:zV=>!ltS e.key key) (l:=es) (a:=e) hm;simpa using this
  have h2:jH G gen (es.take (zAI key es)++(e :: es.drop (zAI key es+1))) ps q:=by rw[<- hes];exact h
  obtain⟨l1,l2,q1,q2,e1,e2,rfl,rfl⟩:=jH.split _ h2;have hl:=h1low l1 q1 e1;generalize hr:es.drop (zAI key es+1)=r at *
  obtain⟨x,ids,l3,q3,e3,e4,e5,rfl,rfl⟩:∃x ids l3 q3,e.key=x.1/\zH6 G gen e x.2 ids/\jH G gen r l3 q3/\l2=x :: l3/\q2=ids++q3:=by
   cases e2 with
   | cons a b c=>exact⟨_,_,_,_,a,b,c,rfl,rfl⟩
  have hsort:zA5 (l1++x :: l3):=by
   rw[h.keys] at hpw;exact List.pairwise_map.1 hpw
  have hse:=(List.pairwise_append.1 hsort).2.1;have hx3:=(List.pairwise_cons.1 hse).1;have hsum:=congrArg yL hes;rw[zAB,yL] at hsum;have hw:=zA7 e;by_cases hk:e.key=key
  .have his:zAf key es=true:=by unfold zAf;rw[hm];simp[hk]
   rw[his];simp only[if_true];rw[hr];refine⟨l1,[x],l3,q1,ids,q3,e1,e5,rfl,rfl,hl,λy hy=>by rw[<- hk,e3];exact hx3 y hy,?_,.inr ⟨x.2,by rw[<- hk,e3]⟩,λn hn=>?_,by omega⟩
   .rw[zCn,zFX hl,zFG,if_pos (by rw[<- e3,hk])];rfl
   .unfold qR;rw[hn,hm];simp only[his,true_and];rcases e4 with ⟨c1,_,c3⟩|⟨c1,c2⟩
    .rw[if_neg (by rw[c1];simp),c3]
    .rw[if_pos c1];have hw:=(c2.walk hs hb).2.2.1;have:=congrArg (List.map Int.toNat) hw;simp only[List.map_map] at this;rw[show (λx:Int × List UInt8=>x.1.toNat)=Int.toNat ∘ (·.1) from rfl,this];rw[show (Int.toNat ∘ λk:Nat=>(k:Int))=id from funext λk=>Int.toNat_natCast k,List.map_id]
  .have his:zAf key es=false:=by unfold zAf;rw[hm];simp[hk]
   have hlt:ltS key e.key=true:=(zDo hge).resolve_right hk;rw[his];simp only[Bool.false_eq_true,if_false,Nat.add_zero];have hd:es.drop (zAI key es)=e :: r:=by
    rw[<- hr];obtain⟨h3,rfl⟩:=List.getElem?_eq_some_iff.1 hm;exact List.drop_eq_getElem_cons h3
   rw[hd];have hgt:∀y∈x :: l3,ltS key y.1=true:=λy hy=>by
    rcases List.mem_cons.1 hy with rfl|hy
    .rw[<- e3];exact hlt
    .refine zAw (b:=x.1) (by rw[<- e3];exact hlt) (hx3 y hy)
   refine⟨l1,[],x :: l3,q1,[],ids++q3,e1,.cons e3 e4 e5,rfl,rfl,hl,hgt,?_,.inl rfl,λn hn=>?_,by rw[yL];omega⟩
   .rw[zCn,zFX hl,zKc hgt];rfl
   .unfold qR;rw[hn,hm];simp only[his];simp
def ndV(sz:Nat)(v:ByteArray):Nat:=if v.size<=24 then 0 else ndS sz v.size
theorem zLZ{key v:ByteArray}(hc:zBx G l)(hk:zAE key=true)(hv:v.size<=4096) :
  (zA1 G l gen key v=.inr 3/\zAn l<ndV G.size v) \/
  ∃G' l' e ids,zA1 G l gen key v=.inl (G',l',e)/\Upd G l (λ_=>False) G' l' (λi=>i∈ids)/\ids.Nodup/\ids.length=ndV G.size v/\e.key=key/\zH6 G' gen e v ids/\vC e=true/\zAn l'=zAn l-ndV G.size v:=by
 unfold zA1 ndV;by_cases h24:v.size<=24
 .rw[if_pos h24,if_pos h24];refine .inr ⟨G,l,_,[],rfl,(Upd.refl G l (λ_=>False)).iff (λ_=>Iff.rfl) (λi=>by simp),List.nodup_nil,rfl,rfl,.inl ⟨rfl,rfl,rfl⟩,?_,by simp⟩;unfold vC;simp[hk,h24]
 .rw[if_neg h24,if_neg h24];have hnd:=zH0 G.size v.size (by omega) hc.s256 hc.s1024;have hnn:(zC3 (v.size:Int) (G.size:Int)).toNat=ndS G.size v.size:=by rw[hnd,Int.toNat_natCast]
  rw[hnn];cases ht:zAp (ndS G.size v.size) l with
  | none =>
   refine .inl ⟨rfl,?_⟩;rcases Int.lt_or_le (zAn l) (ndS G.size v.size:Int) with h|h
   .exact h
   .obtain⟨ids,l1,h1⟩:=zH2 _ _ h;rw[ht] at h1;cases h1
  | some x =>
   obtain⟨ids,l1⟩:=x;obtain⟨t1,t2,t3,t4,t5,t6⟩:=zBJ _ _ _ _ ht;have hlen:ids.length=ndS G.size v.size:=t1;have hch:=zQu (G:=G) ht rfl (by omega) hv (by rw[hc.low.1];simp) (by rw[hc.low.2];simp) (Nat.le_of_eq hc.len) gen;have hup:=zOj (G:=G) ht gen v.data.toList (G.size-28);simp only;rw[hlen];refine .inr ⟨_,_,_,ids,rfl,hup,t3,hlen,rfl,.inr ⟨?_,?_⟩,?_,t6⟩
   .have h1:0<ids.length:=by rw[hlen];exact Nat.succ_pos _
    have:=hch.lt _ (zBn h1);show ((ids.getD 0 0:Nat):Int)≠0;omega
   .exact hch
   .have h1:0<ids.length:=by rw[hlen];exact Nat.succ_pos _
    have h2:=hch.lt _ (zBn h1);have h3:=hc.b256;have h4:(jZ gen v.data.toList (G.size-28) ids (ndS G.size v.size) G).blocks=G.blocks:=(qY _ _ _ _ _ G).1;rw[h4] at h2;unfold vC;have hne:¬ ((ids.getD 0 0:Nat):Int)=0:=by omega
    simp only[hk,Bool.true_and];rw[if_neg hne];unfold zCo;simp only[Bool.and_eq_true,decide_eq_true_eq];have:(e0:ByteArray).size=0:=rfl;omega
end
section
variable {G G' G1:GA}{l l' l1:List Nat}{gen:Nat}{lo:ByteArray}{hi:Option ByteArray}{ps:List zT}{q:List Nat}
theorem zDN{old:Nat}{A A1:Nat->Prop}(h:Upd G l A G1 l1 A1)(ho:vA l old)(hn:old≠0->¬ A old):vA l1 old:=by
 rcases ho with ho|⟨h1,h2⟩
 .exact .inl ho
 .have h0:l[old]? ≠ some 0:=λe=>by rcases h2 with h2|h2 <;> rw[e] at h2 <;> simp at h2
  exact .inr ⟨h1,by rw[(h.view (hn (by omega)) h0).2.1];exact h2⟩
theorem zFQ{old:Nat}{n:zJ}{key v:ByteArray}(hc:zBx G l)(ho:vA l old)(hl:n.leaf=true)(hr:zO n=true)(hw:zG n<=(G.size:Int)-24)(he:jH G gen n.entries ps q)(hbd:∀x∈ps,inB lo hi x.1)(hk:inB lo hi key)(hkb:zAE key=true)(hv:v.size<=4096)
  (hq:q.Nodup) (hu:zAW l (λk=>k∈q)) (hoq:old≠0->old ∉ q) :
  (zBo G l gen old n key v=.inr 3/\zAn l<=1+(ndV G.size v:Nat)) \/
  ∃G' l' o pgs,zBo G l gen old n key v=.inl (G',l',o)/\o.news=(jP key ps).isNone/\zOn G l (λk=>(k=old/\old≠0)\/k∈q) gen 1 lo hi (yS key v true ps) G' l' o pgs/\pgs.length<=q.length+ndV G.size v+2/\(n.entries=[]->o.two=false):=by
 have hpw:=zDH hr hl;have h2q:∀i∈q,2<=i:=λi hi=>(he.lt i hi).1
 obtain⟨l1,lm,l2,q1,qm,q2,e1,e2,rfl,rfl,hlow,hhigh,his,hlm,hold,hsum⟩:=he.at_ hpw key hc.s256 hc.b256;have hsort:zA5 (l1++(lm++l2)):=by
  rw[he.keys] at hpw;exact List.pairwise_map.1 hpw
 have hnd:=List.nodup_append.1 hq;have hnd2:=List.nodup_append.1 hnd.2.1;have hum:zAW l (λk=>k∈qm):=λk hk=>hu k (by simp[hk])
 obtain⟨u1,u2,u3⟩:=zEs (G:=G) qm l hnd2.1 (λi hi=>h2q i (by simp[hi])) hum;have hA2:∀k,k∈qm->2<=k:=λk hk=>h2q k (by simp[hk])
 have hcg:=hc.upd u1 hA2;unfold zBo;rw[hold n rfl];have hszg:(jQ G qm).size=G.size:=u1.sz;rcases zLZ (gen:=gen) hcg hkb hv with ⟨f1,f2⟩|⟨Gw,lw,e,ids,f1,f2,f3,f4,f5,f6,f7,f8⟩
 .rw[f1];rw[hszg] at f2;exact .inl ⟨rfl,by omega⟩
 .rw[f1];simp only;rw[hszg] at f4 f8;have u4:=u1.trans f2 hum
  -- what stays
  have hd1:∀k∈q1++q2,¬ (k∈qm):=λk hk hm=>by
   rcases List.mem_append.1 hk with hk|hk
   .exact hnd.2.2 k hk k (by simp[hm]) rfl
   .exact hnd2.2.2 k hm k hk rfl
  obtain⟨z1,z2⟩:=u4.views hd1 (λk hk=>hu k (by rcases List.mem_append.1 hk with hk|hk <;> simp[hk]));have hcw:=hc.upd u4 hA2;have how:=zDN u4 ho (λhz hm=>hoq hz (by simp[hm]));have hszw:Gw.size=G.size:=u4.sz;have hblw:Gw.blocks=G.blocks:=u4.bl
  -- the entries then
  have hE:jH Gw gen (n.entries.take (zAI key n.entries)++[e]++n.entries.drop (zAI key n.entries+if zAf key n.entries=true then 1 else 0)) (l1++([(key,v)]++l2)) (q1++(ids++q2)):=by
   rw[List.append_assoc];exact (e1.mono (Nat.le_refl _) hblw hszw (λi hi=>(z1 i (by simp[hi])).1)).append ((jH.one f5 f6).append (e2.mono (Nat.le_refl _) hblw hszw (λi hi=>(z1 i (by simp[hi])).1)))
  have hwp:yS key v true (l1++(lm++l2))=l1++([(key,v)]++l2):=by
   rw[zEt _ hlow,zD5 hhigh];congr 1
   congr 1
   rcases hlm with rfl|⟨ov,rfl⟩
   .rfl
   .simp[yS,zBA]
  obtain⟨n',hn'⟩:∃n',n'=zDK n key e:=⟨_,rfl⟩;have hent':n'.entries=n.entries.take (zAI key n.entries)++[e]++n.entries.drop (zAI key n.entries+if zAf key n.entries=true then 1 else 0):=by rw[hn'];rfl
  have hform:=qU hr;unfold zAt at hform;rw[if_pos hl] at hform;have hleaf':n'.leaf=true:=by rw[hn'];exact hl
  have hkeys':n'.keys=[]:=by rw[hn'];exact hform.1
  have hkids':n'.kids=[]:=by rw[hn'];exact hform.2
  have hse':yL n'.entries<=yL n.entries+59:=by
   rw[hent',zAB,zAB];have:=zEu f7;simp only[yL];omega
  have hwt:zG n=2+yL n.entries:=by unfold zG;rw[hl,hform.1];simp[yT]
  have hwt':zG n'=2+yL n'.entries:=by unfold zG;rw[hleaf',hkeys'];simp[yT]
  have hsort':zA5 (l1++([(key,v)]++l2)):=by rw[<- hwp];exact zDp hsort
  have hr':zO n'=true:=by
   have e:n'=⟨true,n'.entries,[],[]⟩:=by rw[<- hleaf',<- hkeys',<- hkids']
   rw[e];refine zDM (λx hx=>?_) ?_ ?_
   .rw[hent'] at hx;rcases List.mem_append.1 hx with hx|hx
    .rcases List.mem_append.1 hx with hx|hx
     .exact zAT hr x (List.mem_of_mem_take hx)
     .rw[List.mem_singleton.1 hx];exact f7
    .exact zAT hr x (List.mem_of_mem_drop hx)
   .rw[hent',hE.keys];exact List.pairwise_map.2 hsort'
   .have:=zFr n'.entries;have:=hc.s1024;omega
  have hb':zH7 Gw gen (TrD Gw gen 0) 0 lo hi n' (l1++([(key,v)]++l2)) (q1++(ids++q2)):=by
   refine .inl ⟨hleaf',rfl,by simp,by rw[hent'];exact hE,λx hx=>?_⟩;rcases List.mem_append.1 hx with hx|hx
   .exact hbd x (by simp[hx])
   .rcases List.mem_append.1 hx with hx|hx
    .rw[List.mem_singleton.1 hx];exact hk
    .exact hbd x (by simp[hx])
  have hid:∀i∈ids,i ∉ q1++q2/\(old≠0->i≠old):=λi hi=>by
   refine⟨λhm=>(z1 i hm).2.2 hi,λhz e=>?_⟩;rcases ho with h|⟨_,h⟩
   .exact hz h
   .have h0:l[old]? ≠ some 0:=λe=>by rcases h with h|h <;> rw[e] at h <;> simp at h
    have:=(u4.view (i:=old) (λhm=>hoq hz (by simp[hm])) h0).2.2;exact this (e ▸ hi)
  have hq':(q1++(ids++q2)).Nodup:=by
   refine List.nodup_append.2 ⟨hnd.1,List.nodup_append.2 ⟨f3,hnd2.2.1,λa ha b hb e=>?_⟩,λa ha b hb e=>?_⟩
   .subst e;exact (hid a ha).1 (by simp[hb])
   .subst e;rcases List.mem_append.1 hb with hb|hb
    .exact (hid a hb).1 (by simp[ha])
    .exact hnd.2.2 a ha a (by simp[hb]) rfl
  have huids:=u4.use hum;have hu':zAW lw (λk=>k∈q1++(ids++q2)):=λk hk=>by
   rcases List.mem_append.1 hk with hk|hk
   .exact z2 k (by simp[hk])
   .rcases List.mem_append.1 hk with hk|hk
    .exact huids k hk
    .exact z2 k (by simp[hk])
  have hoq':old≠0->old ∉ q1++(ids++q2):=λhz hm=>by
   rcases List.mem_append.1 hm with hm|hm
   .exact hoq hz (by simp[hm])
   .rcases List.mem_append.1 hm with hm|hm
    .exact (hid old hm).2 hz rfl
    .exact hoq hz (by simp[hm])
  have h2':∀k∈q1++(ids++q2),2<=k:=λk hk=>(hE.lt k hk).1
  have hcs:=zJS hcw how hr' (by rw[hszw,hwt'];omega) hb' hq' hu' hoq' h2';rw[<- hn'];have hlenq:(q1++(ids++q2)).length<=(q1++(qm++q2)).length+ndV G.size v:=by simp only[List.length_append];omega
  rcases hcs with ⟨s1,s2⟩|⟨G2,ll2,o,pgs,s1,s2,s3,s4,s5⟩
  .rw[s1];exact .inl ⟨rfl,by omega⟩
  .rw[s1];simp only;have hB:∀k,((k=old/\old≠0)\/k∈q1++q2)->¬ (k∈qm)/\l[k]? ≠ some 0:=λk hk=>by
    rcases hk with ⟨rfl,hz⟩|hk
    .refine⟨λhm=>hoq hz (by simp[hm]),λe=>?_⟩;rcases ho with h|⟨_,h⟩
     .exact hz h
     .rcases h with h|h <;> rw[e] at h <;> simp at h
    .exact⟨hd1 k hk,hu.ne0 (by rcases List.mem_append.1 hk with hk|hk <;> simp[hk])⟩
   have u5:=(u4.frame hB).iff (A':=λk=>(k=old/\old≠0)\/k∈q1++(qm++q2)) (A1':=λk=>(k=old/\old≠0)\/k∈q1++(ids++q2)) (λk=>by simp only[List.mem_append];grind) (λk=>by simp only[List.mem_append];grind);have huA:zAW l (λk=>(k=old/\old≠0)\/k∈q1++(qm++q2)):=λk hk=>by
    rcases hk with ⟨rfl,hz⟩|hk
    .rcases ho with h|⟨_,h⟩
     .exact absurd h hz
     .exact h
    .exact hu k hk
   have s6:=s3.pre u5 huA;rw[hwp];refine .inr ⟨G2,ll2,{ o with news:=!zAf key n.entries },pgs,rfl,?_,⟨s6.upd,s6.nodup,s6.two,s6.kids,s6.keys,s6.ctx,s6.use⟩,by omega,λhne=>?_⟩
   .simp only[his];cases jP key (l1++(lm++l2)) <;> rfl
   .refine s5 ?_;have h9:yL n.entries=0:=by rw[hne];rfl
    rw[hwt',hszw];have:=hc.s256;omega
theorem zLa(n:zJ)(i:Nat)(o:zA0):zDL n i o = { n with kids:=n.kids.take i++zA6 o++n.kids.drop (i+1),keys:=n.keys.take i++vY o++n.keys.drop (i+0) }:=by
 unfold zDL zA6 vY;by_cases h:o.two=true
 .simp[h]
 .simp[h]
theorem zKF{id:Nat}{n:zJ}(h:PgN G gen id n):G.load (id:Int)=.inl n/\G.node id=some n:=by
 obtain⟨p,h1,_,h3⟩:=h.page;have h4:G.node id=some n:=by
  unfold GA.node;rw[if_pos h.lt,h1];simp only[h3]
 exact⟨(GA.node_load h4).2,h4⟩
theorem zKG{key v:ByteArray}(hkb:zAE key=true)(hv:v.size<=4096):∀(d f:Nat) (G:GA) (l:List Nat) (id:Nat) (lo:ByteArray) (hi:Option ByteArray) (ps:List zT) (pgs:List Nat),zBx G l->TrD G gen d lo hi id ps pgs->pgs.Nodup->zAW l (λk=>k∈pgs)->inB lo hi key->d<=f ->
  (zCs gen key v f G l id=.inr 3/\zAn l<=(ndV G.size v:Nat)+d) \/
  ∃G' l' o pgs',zCs gen key v f G l id=.inl (G',l',o)/\o.news=(jP key ps).isNone/\zOn G l (λk=>k∈pgs) gen d lo hi (yS key v true ps) G' l' o pgs'/\pgs'.length<=pgs.length+ndV G.size v+d
 | 0,_,_,_,_,_,_,_,_,_,h,_,_,_,_=>h.elim
 | d+1,0,_,_,_,_,_,_,_,_,_,_,_,_,h=>by omega
 | d+1,f+1,G,l,id,lo,hi,ps,pgs,hc,hT,hn,hu,hk,hf=>by
  obtain⟨n,q,hp,hr,rfl,hb⟩:=hT;obtain⟨hload,_⟩:=zKF hp;have hid:id ∉ q/\q.Nodup:=List.nodup_cons.1 hn;have hqid:id≠0:=by have:=hp.lo;omega
  have huq:zAW l (λk=>k∈q):=λk hk=>hu k (List.mem_cons_of_mem _ hk)
  have hpl:vA l id:=.inr ⟨hp.lo,hu id List.mem_cons_self⟩;have hA:∀k,(k∈id :: q) ↔ ((k=id/\id≠0)\/k∈q):=λk=>by
   rw[List.mem_cons];exact⟨λh=>h.imp (λh=>⟨h,hqid⟩) (λh=>h),λh=>h.imp (λh=>h.1) (λh=>h)⟩
  rw[zCs,hload];simp only;rcases hb with ⟨hl,hd,hne,he,hbd⟩|⟨hl,hkd⟩
  .subst hd;rw[if_pos hl];rcases zFQ (key:=key) (v:=v) hc hpl hl hr hp.fit he hbd hk hkb hv hid.2 huq (λ_=>hid.1) with ⟨a1,a2⟩|⟨G2,l2,o,pgs,a1,a2,a3,a4,a5⟩
   .exact .inl ⟨a1,by omega⟩
   .exact .inr ⟨G2,l2,o,pgs,a1,a2,⟨a3.upd.iff hA (λ_=>Iff.rfl),a3.nodup,a3.two,a3.kids,a3.keys,a3.ctx,a3.use⟩,by rw[List.length_cons];omega⟩
  .rw[if_neg (by rw[hl];simp)];obtain⟨k1,k2,c1,c,c2,l1,lm,l2,q1,qm,q2,lo',hi',e1,e2,e3,e4,rfl,rfl,e7,e8,e9,e10,e11⟩:=hkd.at_ (TrD.bounds d) hk;have hkd0:n.kids.getD (zBS key n.keys) 0=(c:Int):=by
    rw[e4,e2,<- e3];simp[List.getD]
   rw[hkd0,Int.toNat_natCast];have hnd:=List.nodup_append.1 hid.2;have hnd2:=List.nodup_append.1 hnd.2.1;have hum:zAW l (λk=>k∈qm):=λk hk=>huq k (by simp[hk])
   have ih:=zKG hkb hv d f G l c lo' hi' lm qm hc e7 hnd2.1 hum e8 (by omega);rcases ih with ⟨a1,a2⟩|⟨G1,l1',o,qm',a1,a2,a3,a4⟩
   .rw[a1];exact .inl ⟨rfl,by omega⟩
   .rw[a1];simp only;have u4:=a3.upd;have hd1:∀k∈q1++q2,¬ (k∈qm):=λk hk hm=>by
     rcases List.mem_append.1 hk with hk|hk
     .exact hnd.2.2 k hk k (by simp[hm]) rfl
     .exact hnd2.2.2 k hm k hk rfl
    obtain⟨z1,z2⟩:=u4.views hd1 (λk hk=>huq k (by rcases List.mem_append.1 hk with hk|hk <;> simp[hk]));have how:=zDN u4 hpl (λ_ hm=>hid.1 (by simp[hm]));obtain⟨n',hn'⟩:∃n',n'=zDL n (zBS key n.keys) o:=⟨_,rfl⟩;have hK:=e11 (TrD G1 gen d) _ _ _ _ a3.kids (λlo hi c l p hp h=>TrD.mono (Nat.le_refl _) u4.bl u4.sz d lo hi c l p (λi hi=>(z1 i (by rcases hp i hi with h|h <;> simp[h])).1) h);have hj:n' = { n with kids:=c1++(zA6 o++c2),keys:=k1++(vY o++k2) }:=by
     rw[hn',zLa,e1,e2,show zBS key (k1++k2)=k1.length by rw[<- e1];exact e4];have t1:(c1++(c:Int) :: c2).take k1.length=c1:=by rw[<- e3];simp
     have t2:(c1++(c:Int) :: c2).drop (k1.length+1)=c2:=by rw[<- e3];simp
     rw[t1,t2];simp
    have hleaf':n'.leaf=false:=by rw[hj];exact hl
    have hents':n'.entries=n.entries:=by rw[hj]
    have hform:=qU hr;unfold zAt at hform;rw[if_neg (by rw[hl];simp)] at hform;have hkeys':n'.keys=k1++(vY o++k2):=by rw[hj]
    have hkids':n'.kids=c1++(zA6 o++c2):=by rw[hj]
    have hsk:yT n'.keys<=yT n.keys+37:=by
     rw[hkeys',e1,jF,jF,jF];have:yT (vY o)<=37:=by
      unfold vY;split
      .rename_i h2;have:=a3.keys o.key (by unfold vY;rw[if_pos h2];simp);have:=(zAo _).1 this;simp[yT];omega
      .simp[yT]
     omega
    have hwt:zG n=6+yT n.keys:=by unfold zG;rw[hl,hform.1];simp[yL]
    have hwt':zG n'=6+yT n'.keys:=by unfold zG;rw[hleaf',hents',hform.1];simp[yL]
    have hd2:∀i∈qm',i ∉ q1++q2/\i≠id:=λi hi=>by
     refine⟨λhm=>(z1 i hm).2.2 hi,λe=>?_⟩;subst e;exact (u4.view (i:=i) (λhm=>hid.1 (by simp[hm])) (hu.ne0 List.mem_cons_self)).2.2 hi
    have hq':(q1++(qm'++q2)).Nodup:=by
     refine List.nodup_append.2 ⟨hnd.1,List.nodup_append.2 ⟨a3.nodup,hnd2.2.1,λa ha b hb e=>?_⟩,λa ha b hb e=>?_⟩
     .subst e;exact (hd2 a ha).1 (by simp[hb])
     .subst e;rcases List.mem_append.1 hb with hb|hb
      .exact (hd2 a hb).1 (by simp[ha])
      .exact hnd.2.2 a ha a (by simp[hb]) rfl
    have hr':zO n'=true:=by
     have e:n'=⟨false,[],n'.keys,n'.kids⟩:=by rw[hj];simp[hl,hform.1]
     rw[e,hkeys',hkids'];refine hK.right hq' (λs hs=>?_) ?_ a3.ctx.b256
     .rcases List.mem_append.1 hs with hs|hs
      .exact zBc hr s (by rw[e1];simp[hs])
      .rcases List.mem_append.1 hs with hs|hs
       .exact a3.keys s hs
       .exact zBc hr s (by rw[e1];simp[hs])
     .have h2:2<=n.kids.length:=(zEv hr).2.2 hl;rw[e2] at h2;have:1<=(zA6 o).length:=by unfold zA6;split <;> simp
      simp at h2 ⊢;omega
    have hu':zAW l1' (λk=>k∈q1++(qm'++q2)):=λk hk=>by
     rcases List.mem_append.1 hk with hk|hk
     .exact z2 k (by simp[hk])
     .rcases List.mem_append.1 hk with hk|hk
      .exact a3.use k hk
      .exact z2 k (by simp[hk])
    have hoq':id≠0->id ∉ q1++(qm'++q2):=λhz hm=>by
     rcases List.mem_append.1 hm with hm|hm
     .exact hid.1 (by simp[hm])
     .rcases List.mem_append.1 hm with hm|hm
      .exact (hd2 id hm).2 rfl
      .exact hid.1 (by simp[hm])
    have h2':∀k∈q1++(qm'++q2),2<=k:=λk hk=>(hK.ltq (TrD.ltq d) k hk).1
    have hcs:=zJS (gen:=gen) a3.ctx how hr' (by rw[u4.sz,hwt'];have:=hp.fit;omega) (.inr ⟨hleaf',by rw[hkeys',hkids'];exact hK⟩) hq' hu' hoq' h2';rw[<- hn'];have hphi:=u4.phi hum hnd2.1 a3.nodup;have hlenq:(q1++(qm'++q2)).length<=(q1++(qm++q2)).length+ndV G.size v+d:=by simp only[List.length_append];omega
    rcases hcs with ⟨s1,s2⟩|⟨G2,ll2,o2,pgs2,s1,s2,s3,s4,s5⟩
    .rw[s1];exact .inl ⟨rfl,by omega⟩
    .rw[s1];simp only;have hB:∀k,(k=id\/k∈q1++q2)->¬ (k∈qm)/\l[k]? ≠ some 0:=λk hk=>by
      rcases hk with rfl|hk
      .exact⟨λhm=>hid.1 (by simp[hm]),hu.ne0 List.mem_cons_self⟩
      .exact⟨hd1 k hk,huq.ne0 (by rcases List.mem_append.1 hk with hk|hk <;> simp[hk])⟩
     have u5:=(u4.frame hB).iff (A':=λk=>k∈id :: (q1++(qm++q2))) (A1':=λk=>(k=id/\id≠0)\/k∈q1++(qm'++q2)) (λk=>by simp only[List.mem_append,List.mem_cons];grind) (λk=>by simp only[List.mem_append];grind);have s6:=s3.pre u5 hu;have hwp:yS key v true (l1++(lm++l2))=l1++(yS key v true lm++l2):=by rw[zEt _ e9,zD5 e10]
     rw[hwp];refine .inr ⟨G2,ll2,{ o2 with news:=o.news },pgs2,rfl,?_,⟨s6.upd,s6.nodup,s6.two,s6.kids,s6.keys,s6.ctx,s6.use⟩,by rw[List.length_cons];omega⟩;show o.news=_;rw[a2,zOl e9 e10]
end
end Go.Proofs.YteabpacpngaoaaaGreatDoor
