import Derived.Test.YteabpacpngaoaaaGreatDoorC36
namespace Go.Proofs.YteabpacpngaoaaaGreatDoor
open Lib renaming hid->oh
set_option maxHeartbeats 4000000
set_option maxRecDepth 100000
section
open Go.RowKit
def chS(sz:Nat)(l:List zT):Nat:=(l.map λx=>ndV sz x.2).sum
theorem zIB(sz:Nat)(a b:List zT):chS sz (a++b)=chS sz a+chS sz b:=by unfold chS;simp
theorem zLb(sz:Nat)(x:zT)(b:List zT):chS sz (x :: b)=ndV sz x.2+chS sz b:=by unfold chS;simp
section
variable {G G':GA}{gen:Nat}{T:zEg}{lo:ByteArray}{hi:Option ByteArray}{l:List zT}{q:List Nat}{kk:List ByteArray}{cc:List Int}
theorem jH.count{es:List zV}(h:jH G gen es l q)(hr:∀e∈es,vC e=true):q.length=chS G.size l:=by
 induction h with
 | nil=>rfl
 | @cons e x ids es l q h1 h2 _ ih =>
  rw[List.length_append,zLb,ih (λy hy=>hr y (List.mem_cons_of_mem _ hy))];congr 1
  have he:=hr e List.mem_cons_self;unfold vC at he;simp only[Bool.and_eq_true] at he;unfold ndV;rcases h2 with ⟨c1,c2,c3⟩|⟨c1,c2⟩
  .have h4:=he.2;rw[if_pos c1] at h4;simp only[Bool.and_eq_true,decide_eq_true_eq] at h4;rw[c2] at h4;rw[if_pos h4.2,c3];rfl
  .rw[if_neg (by have:=c2.lo;omega)];exact c2.len
theorem jD.count{P:List zT->List Nat->Prop}(hT:∀lo hi c l q,T lo hi c l q->P l q)(h:jD T lo hi kk cc l q){sz a:Nat}(hP:∀l q,P l q->q.length+1<=2 * l.length+chS sz l/\a<=l.length/\a+a<=q.length+1/\chS sz l+1<=q.length):q.length+kk.length+1<=2 * l.length+chS sz l/\(kk.length+1) * a<=l.length/\(kk.length+1) * (a+a)<=q.length+kk.length+1/\chS sz l+kk.length+1<=q.length:=by
 induction h with
 | one h=>have:=hP _ _ (hT _ _ _ _ _ h);simpa using this
 | cons h _ _ ih =>
  have h1:=hP _ _ (hT _ _ _ _ _ h);have h2:=ih;simp only[List.length_append,List.length_cons,zIB];have m1:∀k:Nat,(k+1+1) * a=(k+1) * a+a:=λk=>Nat.succ_mul _ _
  have m2:∀k:Nat,(k+1+1) * (a+a)=(k+1) * (a+a)+(a+a):=λk=>Nat.succ_mul _ _
  rw[m1,m2];omega
theorem jD.pos(h:jD (TrD G gen 0) lo hi kk cc l q):False:=by
 cases h with
 | one h=>exact h
 | cons h _ _=>exact h
theorem TrD.count:∀(d:Nat) (lo:ByteArray) (hi:Option ByteArray) (id:Nat) (l:List zT) (q:List Nat),TrD G gen d lo hi id l q->q.length+1<=2 * l.length+chS G.size l/\2 ^ (d-1)<=l.length/\2 ^ (d-1)+2 ^ (d-1)<=q.length+1/\chS G.size l+1<=q.length
 | 0,_,_,_,_,_,h=>h.elim
 | d+1,lo,hi,id,l,q,h=>by
  obtain⟨n,q,hp,hr,rfl,h⟩:=h;rcases h with ⟨hl,rfl,hne,he,_⟩|⟨hl,hk⟩
  .have hc:=he.count (zAT hr);have:1<=l.length:=List.length_pos_iff.2 hne;simp only[List.length_cons];refine⟨by omega,by simpa using this,by simp,by omega⟩
  .have hlen:=hk.len;have h2:=(zEv hr).2.2 hl;have h3:=hk.count (P:=λl q=>q.length+1<=2 * l.length+chS G.size l/\2 ^ (d-1)<=l.length/\2 ^ (d-1)+2 ^ (d-1)<=q.length+1/\chS G.size l+1<=q.length) (λlo hi c l q h=>TrD.count d lo hi c l q h) (sz:=G.size) (a:=2 ^ (d-1)) (λ_ _ h=>h);have hd:1<=d:=by
    rcases Nat.eq_zero_or_pos d with h0|h0
    .subst h0;exact hk.pos.elim
    .exact h0
   obtain⟨k,hkk⟩:∃k,n.keys.length=k+1:=⟨n.keys.length-1,by omega⟩;rw[hkk] at h3;have e:2 ^ (d+1-1)=2 ^ (d-1)+2 ^ (d-1):=by
    rw[show d+1-1=(d-1)+1 by omega,Nat.pow_succ];omega
   rw[e];generalize 2 ^ (d-1)=a at *
   have m1:(k+1+1) * a=k * a+a+a:=by rw[Nat.succ_mul,Nat.succ_mul]
   have m2:(k+1+1) * (a+a)=k * (a+a)+(a+a)+(a+a):=by rw[Nat.succ_mul,Nat.succ_mul]
   rw[m1,m2] at h3;have m3:k<=k * (a+a)\/a=0:=by
    rcases Nat.eq_zero_or_pos a with h|h
    .exact .inr h
    .exact .inl (Nat.le_mul_of_pos_right k (by omega))
   simp only[List.length_cons];refine⟨by omega,by omega,?_,by omega⟩;omega
theorem jD.sorted(hb:∀lo hi c l q,T lo hi c l q->∀x∈l,inB lo hi x.1)(hT:∀lo hi c l q,T lo hi c l q->zA5 l)(h:jD T lo hi kk cc l q):zA5 l:=by
 induction h with
 | one h=>exact hT _ _ _ _ _ h
 | @cons lo hi s c keys kids l1 l2 q1 q2 h h2 h3 ih =>
  refine List.pairwise_append.2 ⟨hT _ _ _ _ _ h,ih,λx hx y hy=>?_⟩;exact zDr ((hb _ _ _ _ _ h x hx).2 s rfl) (h3.bounds hb y hy).1
theorem TrD.sorted:∀(d:Nat) (lo:ByteArray) (hi:Option ByteArray) (id:Nat) (l:List zT) (q:List Nat),TrD G gen d lo hi id l q->zA5 l
 | 0,_,_,_,_,_,h=>h.elim
 | d+1,lo,hi,id,l,q,h=>by
  obtain⟨n,q,hp,hr,rfl,h⟩:=h;rcases h with ⟨hl,rfl,hne,he,_⟩|⟨hl,hk⟩
  .have:=zDH hr hl;rw[he.keys] at this;exact List.pairwise_map.1 this
  .exact hk.sorted (TrD.bounds d) (TrD.sorted d)
end
structure TD(G:GA)(gen root d:Nat)(ps:List zT)(pgs:List Nat):Prop where
 tree:(root=0/\d=0/\ps=[]/\pgs=[])\/(1<=d/\TrD G gen d e0 none root ps pgs)
 nodup:pgs.Nodup
section
variable {G G':GA}{l l':List Nat}{gen root d:Nat}{ps:List zT}{pgs:List Nat}
theorem TD.none(G:GA)(gen:Nat):TD G gen 0 0 [] []:=⟨.inl ⟨rfl,rfl,rfl,rfl⟩,List.nodup_nil⟩
theorem TD.sorted(h:TD G gen root d ps pgs):zA5 ps:=by
 rcases h.tree with ⟨_,_,rfl,_⟩|⟨_,h⟩
 .exact List.Pairwise.nil
 .exact TrD.sorted _ _ _ _ _ _ h
theorem TD.lt(h:TD G gen root d ps pgs):∀i∈pgs,2<=i/\i<G.blocks:=by
 rcases h.tree with ⟨_,_,_,rfl⟩|⟨_,h⟩
 .intro x hx;simp at hx
 .exact TrD.ltq _ _ _ _ _ _ h
theorem TD.count(h:TD G gen root d ps pgs):pgs.length+(if ps=[] then 0 else 1)<=2 * ps.length+chS G.size ps/\(ps≠[]->2 ^ (d-1)<=ps.length)/\(if d=0 then 0 else 2 ^ (d-1)+2 ^ (d-1))<=pgs.length+1/\chS G.size ps+(if ps=[] then 0 else 1)<=pgs.length:=by
 rcases h.tree with ⟨_,rfl,rfl,rfl⟩|⟨hd,h⟩
 .simp[chS]
 .obtain⟨h1,h2,h3,h4⟩:=TrD.count _ _ _ _ _ _ h;have hne:=TrD.ne _ _ _ _ _ _ h;rw[if_neg hne,if_neg (by omega)];exact⟨h1,λ_=>h2,h3,h4⟩
theorem TD.few(h:TD G gen root d ps pgs)(hb:G.blocks<=256):pgs.length<=254/\d<=7:=by
 have hl:pgs.length<=254:=by
  have h1:=zDy 254 (pgs.map λ(i:Nat)=>(i:Int)-2) (List.pairwise_map.2 (h.nodup.imp (λhne e=>hne (by omega)))) (λi hi=>by
   obtain⟨j,hj,rfl⟩:=List.mem_map.1 hi;have:=h.lt j hj;omega)
  simpa using h1
 refine⟨hl,?_⟩;have h3:=h.count.2.2.1;rcases Nat.lt_or_ge 7 d with hd|hd
 .rw[if_neg (by omega)] at h3;have:2 ^ 7<=2 ^ (d-1):=Nat.pow_le_pow_right (by omega) (by omega);omega
 .exact hd
theorem TD.mono(h:TD G gen root d ps pgs){gen':Nat}(hg:gen<=gen')(hb:G'.blocks=G.blocks)(hs:G'.size=G.size)(hv:∀i∈pgs,G'.view i=G.view i):TD G' gen' root d ps pgs :=
 ⟨h.tree.imp id (λh=>⟨h.1,TrD.mono hg hb hs _ _ _ _ _ _ hv h.2⟩),h.nodup⟩
theorem zQ0{key v:ByteArray}(hc:zBx G l)(hT:TD G gen root d ps pgs)(hu:zAW l (λk=>k∈pgs))(hkb:zAE key=true)(hv:v.size<=4096) :
  (zG4 G l gen root key v=.inr 3/\zAn l<=(ndV G.size v:Nat)+d+1) \/
  ∃G' l' root' d' pgs',zG4 G l gen root key v=.inl (G',l',(root',(jP key ps).isNone))/\Upd G l (λk=>k∈pgs) G' l' (λk=>k∈pgs')/\TD G' gen root' d' (yS key v true ps) pgs'/\zAW l' (λk=>k∈pgs')/\zBx G' l'/\2<=root'/\d'<=d+1:=by
 have hchk:zC9 key v=none:=by unfold zC9;rw[if_neg (by rw[hkb];simp),if_neg (by omega)]
 have hs:=hc.s256;unfold zG4;rw[hchk];simp only;rcases hT.tree with ⟨rfl,rfl,rfl,rfl⟩|⟨hd,hT2⟩
 .rw[if_pos rfl];rcases zFQ (gen:=gen) (lo:=e0) (hi:=none) (n:=zE9) (key:=key) (v:=v) (ps:=[]) (q:=[]) hc (.inl rfl) rfl rfl (by unfold zG zE9;simp[yL,yT];omega) .nil (λx hx=>by simp at hx) (zFl key) hkb hv List.nodup_nil (λk hk=>by simp at hk) (λh=>absurd rfl h) with ⟨a1,a2⟩|⟨G2,l2,o,pgs,a1,a2,a3,a4,a5⟩
  .rw[a1];exact .inl ⟨rfl,by omega⟩
  .rw[a1];simp only;have h2:=a5 rfl;rw[if_pos h2];have hk:=a3.kids;unfold vY zA6 at hk;rw[if_neg (by rw[h2];simp),if_neg (by rw[h2];simp)] at hk;generalize hkk:[(o.id0:Int)]=kk at hk
   cases hk with
   | @one _ _ c _ _ hT3 =>
    simp only[List.cons.injEq,and_true] at hkk;have hcc:c=o.id0:=by omega
    subst hcc;refine .inr ⟨G2,l2,o.id0,1,pgs,by rw[a2],a3.upd.iff (λk=>by simp) (λ_=>Iff.rfl),⟨.inr ⟨Nat.le_refl _,hT3⟩,a3.nodup⟩,a3.use,a3.ctx,?_,by omega⟩;obtain⟨r,hr⟩:=TrD.head _ _ _ _ _ _ hT3;exact a3.two _ (by rw[hr];simp)
 .have hd7:=(hT.few hc.b256).2;have hroot:root≠0:=by
   obtain⟨r,hr⟩:=TrD.head _ _ _ _ _ _ hT2;have:=hT.lt root (by rw[hr];simp);omega
  rw[if_neg hroot];rcases zKG (gen:=gen) hkb hv d 16 G l root e0 none ps pgs hc hT2 hT.nodup hu (zFl key) (by omega) with ⟨a1,a2⟩|⟨G2,l2,o,pgs',a1,a2,a3,a4⟩
  .rw[a1];exact .inl ⟨rfl,by omega⟩
  .rw[a1];simp only;have hk:=a3.kids;by_cases h2:o.two=false
   .rw[if_pos h2];unfold vY zA6 at hk;rw[if_neg (by rw[h2];simp),if_neg (by rw[h2];simp)] at hk;generalize hkk:[(o.id0:Int)]=kk at hk
    cases hk with
    | @one _ _ c _ _ hT3 =>
     simp only[List.cons.injEq,and_true] at hkk;have hcc:c=o.id0:=by omega
     subst hcc;refine .inr ⟨G2,l2,o.id0,d,pgs',by rw[a2],a3.upd,⟨.inr ⟨hd,hT3⟩,a3.nodup⟩,a3.use,a3.ctx,?_,by omega⟩;obtain⟨r,hr⟩:=TrD.head _ _ _ _ _ _ hT3;exact a3.two _ (by rw[hr];simp)
   .have h2t:o.two=true:=by simpa using h2
    rw[if_neg h2];have hkey:=a3.keys o.key (by unfold vY;rw[if_pos h2t];simp);unfold vY zA6 at hk;rw[if_pos h2t,if_pos h2t] at hk;have hr:zO (zCW o)=true:=hk.right a3.nodup (λs hs=>by rw[List.mem_singleton.1 hs];exact hkey) (by simp) a3.ctx.b256;have hksz:=(zAo o.key).1 hkey;have hw:zG (zCW o)<=(G2.size:Int)-24:=by
     unfold zG zCW;have:=a3.ctx.s256;simp[yL,yT];omega
    cases hdn:qQ G2 l2 0 (zCW o) with
    | none =>
     simp only;refine .inl ⟨by unfold zBI;rw[if_pos ⟨hr,hw⟩],?_⟩;have h3:=zD6 hdn ⟨hr,hw⟩ (.inl rfl);have h4:=a3.upd.phi hu hT.nodup a3.nodup;omega
    | some i =>
     simp only;obtain⟨b1,b2,b3,b4,b5,b6,_⟩:=zHE (gen:=gen) (lo:=e0) (hi:=none) (d:=d) a3.ctx (.inl rfl) hdn hr (.inr ⟨rfl,hk⟩) a3.nodup a3.use (λh=>absurd rfl h) a3.two;refine .inr ⟨_,_,i,d+1,i :: pgs',by rw[a2],?_,⟨.inr ⟨by omega,b2⟩,b3⟩,λk hk=>b6 k (List.mem_cons.1 hk),b5,b4,by omega⟩;have b7:=b1.iff (A':=λk=>k∈pgs') (A1':=λk=>k∈i :: pgs') (λk=>by simp) (λk=>by rw[List.mem_cons]);exact a3.upd.trans b7 hu
end
end
section
open Go.RowKit
attribute [local go_sem ↓] Go.wp_at_zero Go.wp_at_succ
def zNZ(w0 wx:World)(X:Nat)(ks:List ByteArray)(is:List Int):Prop :=
 ∃ka kc ia ic,zF w0 wx/\w0.heap.size<=X/\zH wx X #[.bool false,.slice none 0 0,.slice ka ks.length kc,.slice ia is.length ic] 174 /\ yC (λ_=>False) wx w0.heap.size 9 1 vZ (.slice ka ks.length kc) ks/\yC (λ_=>False) wx w0.heap.size 3 1 yK (.slice ia is.length ic) is
section
variable {w0 wz:World}{ks:List ByteArray}{is:List Int}{k i:Nat}{a1 a2:Option Addr}{c1 c2:Nat}
theorem zLc(hk:k=ks.length)(hi:i=is.length)(m:zF w0 wz)(h1:yC (λ_=>False) wz w0.heap.size 9 1 vZ (.slice a1 k c1) ks)(h2:yC (λ_=>False) wz w0.heap.size 3 1 yK (.slice a2 i c2) is) :
  zNZ w0 (wz.alloc (.cells #[.bool false,.slice none 0 0,.slice a1 k c1,.slice a2 i c2] 174)) wz.heap.size ks is:=by
 subst hk hi;exact⟨_,_,_,_,m.alloc _,m.size,zH.new _ _ _,h1.ext ((zA.refl _ _).alloc _),h2.ext ((zA.refl _ _).alloc _)⟩
theorem zFs{X:Nat}(hk:k=ks.length)(hi:i=is.length)(m:zF w0 wz)(hX:w0.heap.size<=X)(hx:zH wz X zP 174)(h1:yC (λ_=>False) wz w0.heap.size 9 1 vZ (.slice a1 k c1) ks)(h2:yC (λ_=>False) wz w0.heap.size 3 1 yK (.slice a2 i c2) is) :
  zNZ w0 ((((wz.setCell ⟨X,0,none⟩ (.bool false)).setCell ⟨X,1,none⟩ (.slice none 0 0)).setCell ⟨X,2,none⟩ (.slice a1 k c1)).setCell ⟨X,3,none⟩ (.slice a2 i c2)) X ks is:=by
 subst hk hi;have mX:=zA.set4 (F:=λk=>k=X) (zA.refl _ wz) (R:=X) (.inr rfl) (.bool false) (.slice none 0 0) (.slice a1 ks.length c1) (.slice a2 is.length c2);exact⟨_,_,_,_,zA.set4 m (.inl hX) _ _ _ _,hX,hx.set4 _ _ _ _,h1.mods mX (λg hg=>h1.notB hx (by decide) g hg),h2.mods mX (λg hg=>h2.notB hx (by decide) g hg)⟩
end
section
variable {F:Nat->Prop}{w w':World}
theorem zMv(n:zJ)(hlf:n.leaf=false)(ve vk vi:Value)(hvk:Sl F w 1 vZ vk n.keys)(hvi:Sl F w 1 yK vi n.kids)(a:Nat)(ha:2<=a/\a+1<n.kids.length)(hkl:n.kids.length=n.keys.length+1)(hb:n.kids.length<=100000) :
  Calls Tryz.prog 274 #[.agg #[.bool false,ve,vk,vi],.int .i64 (a:Int)] w (zGI w (zU n a)):=by
 have m0:zF w (((w.alloc (.cells #[.bool false,ve,vk,vi] 174)).alloc (.cells zP 174)).alloc (.cells zP 174)):=(((zA.refl _ w).alloc _).alloc _).alloc _;have HB0:=oh (((zH.new w #[.bool false,ve,vk,vi] 174).alloc (.cells zP 174)).alloc (.cells zP 174));have HR1:Hid (zH (((w.alloc (.cells #[.bool false,ve,vk,vi] 174)).alloc (.cells zP 174)).alloc (.cells zP 174)) (w.heap.size+1) zP 174):=oh ((show zH ((w.alloc (.cells #[.bool false,ve,vk,vi] 174)).alloc (.cells zP 174)) (w.heap.size+1) zP 174 from zR (by simp)).alloc _);have HR2:Hid (zH (((w.alloc (.cells #[.bool false,ve,vk,vi] 174)).alloc (.cells zP 174)).alloc (.cells zP 174)) (w.heap.size+1+1) zP 174):=oh (zR (by simp));have HM0:=oh m0;have HVK:=oh hvk;have HVI:=oh hvi;obtain⟨ka,kc,rfl,hk1,hk2,hk3,hkk⟩:=hvk;obtain⟨ia,ic,rfl,hi1,hi2,hi3,_⟩:=hvi;unfold maxLen at hk2 hi2;obtain⟨b,hbe⟩:∃b,b=a-1:=⟨_,rfl⟩;have hb1:b<n.keys.length:=by omega
 obtain⟨kb,koff,hka,hkb,_,hkc⟩:=Sl.at hkk (zA.refl F w) (λ_ _ h=>h) b hb1;have hkc0:=hkc 0 (.string n.keys[b]) rfl;simp only[Nat.mul_one,Nat.add_zero] at hkc0;have HKC:=oh hkc0;have HKA:=oh hka;have HAP:Hid (zU n a=(⟨false,[],n.keys.take b,n.kids.take a⟩,n.keys[b],⟨false,[],n.keys.drop a,n.kids.drop a⟩)):=oh (by
  unfold zU;rw[if_neg (by rw[hlf];simp),<- hbe];simp[List.getD,hb1])
 have u1:IntKind.i64.wrap ((a:Int)-1)=(b:Int):=by rw[IntWalk.i64_in _ (by omega)];omega
 have HF1:Hid (∀W,zF w W->Sl F W 1 vZ (.slice ka b kc) (n.keys.take b)):=oh (λW m=>(HVK.out.ext m).pre b (by omega));have HF2:Hid (∀W,zF w W->Sl F W 1 yK (.slice ia a ic) (n.kids.take a)):=oh (λW m=>(HVI.out.ext m).pre a (by omega));have hne1:¬ kc=a:=by omega
 have hne2:¬ ic=a:=by omega
 have HF3:Hid (∀W,zF w W->Sl F W 1 vZ (.slice (ka.map (·.add a)) (n.keys.length-a) (kc-a)) (n.keys.drop a)):=oh (λW m=>by
  have:=(HVK.out.ext m).tail_ a (by omega);rw[if_neg hne1] at this;simpa only[Nat.mul_one] using this)
 have HF4:Hid (∀W,zF w W->Sl F W 1 yK (.slice (ia.map (·.add a)) (n.kids.length-a) (ic-a)) (n.kids.drop a)):=oh (λW m=>by
  have:=(HVI.out.ext m).tail_ a (by omega);rw[if_neg hne2] at this;simpa only[Nat.mul_one] using this)
 have HL1:Hid (b=(n.keys.take b).length/\a=(n.kids.take a).length/\n.keys.length-a=(n.keys.drop a).length/\n.kids.length-a=(n.kids.drop a).length):=oh ⟨by rw[List.length_take];omega,by rw[List.length_take];omega,by rw[List.length_drop],by rw[List.length_drop]⟩;have ha1:(a:Int)<=(n.kids.length:Int):=by omega
 have ha2:(a:Int)<=(n.keys.length:Int):=by omega
 have hb2:(0:Int)<=(b:Int):=by omega
 have hs1:(b:Int)<=(kc:Int):=by omega
 have hs2:(a:Int)<=(ic:Int):=by omega
 have hs3:(0:Int)<=(a:Int):=by omega
 have hb3:(b:Int)<(n.keys.length:Int):=by omega
 have n2:=HB0.out.cell (o:=2) rfl;have n3:=HB0.out.cell (o:=3) rfl;obtain⟨w0,hw0⟩:∃w0,w0=((w.alloc (.cells #[.bool false,ve,.slice ka n.keys.length kc,.slice ia n.kids.length ic] 174)).alloc (.cells zP 174)).alloc (.cells zP 174):=⟨_,rfl⟩;rw[<- hw0] at HR1 HR2 HM0 n2 n3;have hw3:w.heap.size+1+1<w0.heap.size:=HR2.out.lt;have hw4:w.heap.size<w0.heap.size:=by omega
 have HF1:Hid (∀W,zF w0 W->Sl F W 1 vZ (.slice ka b kc) (n.keys.take b)):=oh (λW m=>HF1.out W (HM0.out.trans m));have HF2:Hid (∀W,zF w0 W->Sl F W 1 yK (.slice ia a ic) (n.kids.take a)):=oh (λW m=>HF2.out W (HM0.out.trans m));have HF3:Hid (∀W,zF w0 W->Sl F W 1 vZ (.slice (ka.map (·.add a)) (n.keys.length-a) (kc-a)) (n.keys.drop a)):=oh (λW m=>HF3.out W (HM0.out.trans m));have HF4:Hid (∀W,zF w0 W->Sl F W 1 yK (.slice (ia.map (·.add a)) (n.kids.length-a) (ic-a)) (n.kids.drop a)):=oh (λW m=>HF4.out W (HM0.out.trans m));have xm:=(zA.refl (λ_=>False) w0).drew;have HBE:=oh hbe;have HKL:=oh hkl;have hq1:n.keys.length<=100000:=by omega
 have HW0:=oh hw0;have HKB:=oh hkb;clear m0 hlf hkk hka hkb hkc hkc0 hbe hkl hw0
 go_enter Tryz.func274, Tryz.ntmps274
 go_wp2_with fail;rw[<- HW0.out];go_cut [9] (λv9 wx=>∃X,v9=.pointer (some ⟨X,0,none⟩)/\Hid (zNZ w0 wx X (n.keys.take b) (n.kids.take a)))
 case first =>
  have n2b:=λo=>zM (x:=o) n2
  have n3b:=λo=>zM (x:=o) n3
  go_region_law
   (first
    | (go_simp;go_at_call 148;refine (zJF _ (n.keys.take b) (HF1.out _ xm) (b) HL1.out.1 (by have:=HL1.out.1;omega)).mono ?_;rintro e wz ⟨a1,c1,rfl,hO1,hmz⟩;have n2:=zE (hmz) n2;have n3:=zE (hmz) n3;have n2b:=λo=>zM (x:=o) n2;have n3b:=λo=>zM (x:=o) n3;(first|have hO2:=hO2.ext (hmz)|skip);have hO1:=hO1.rebase (base':=w0.heap.size) xm.size;(first|(have hx0:=hx0.ext hmz;have y0:=hx0.cell (o:=0) (v:=.bool false) rfl;have y1:=hx0.cell (o:=1) (v:=.slice none 0 0) rfl;have y2:=hx0.cell (o:=2) (v:=.slice none 0 0) rfl;have y3:=hx0.cell (o:=3) (v:=.slice none 0 0) rfl;have yf:=hx0.frozen)|skip);have xm:=xm.trans hmz;have z0:=(zH.new wz zP 174).cell (o:=0) (v:=.bool false) rfl;have z1:=(zH.new wz zP 174).cell (o:=1) (v:=.slice none 0 0) rfl;have z2:=(zH.new wz zP 174).cell (o:=2) (v:=.slice none 0 0) rfl;have z3:=(zH.new wz zP 174).cell (o:=3) (v:=.slice none 0 0) rfl;have zf:=(zH.new wz zP 174).frozen)
    | (go_simp;go_at_call 148;refine (zJF _ (n.keys.take b) (HF1.out _ (xm.alloc _)) (b) HL1.out.1 (by have:=HL1.out.1;omega)).mono ?_;rintro e wz ⟨a1,c1,rfl,hO1,hmz⟩;have hX0:=xm.size;have hxn:=Nat.ne_of_lt (Nat.lt_of_lt_of_le hw4 hX0);have hxm:=Nat.ne_of_gt (Nat.lt_of_lt_of_le hw4 hX0);(first|have hx0:zH wz w0.heap.size zP 174:=(zH.new w0.drew zP 174).ext hmz|have hx0:=(zH.new _ zP 174).ext hmz);have y0:=hx0.cell (o:=0) (v:=.bool false) rfl;have y1:=hx0.cell (o:=1) (v:=.slice none 0 0) rfl;have y2:=hx0.cell (o:=2) (v:=.slice none 0 0) rfl;have y3:=hx0.cell (o:=3) (v:=.slice none 0 0) rfl;have yf:=hx0.frozen;have n2:=zE (((zA.refl _ _).alloc _).trans hmz) n2;have n3:=zE (((zA.refl _ _).alloc _).trans hmz) n3;have n2b:=λo=>zM (x:=o) n2;have n3b:=λo=>zM (x:=o) n3;(first|have hO2:=hO2.ext (((zA.refl _ _).alloc _).trans hmz)|skip);have hO1:=hO1.rebase (base':=w0.heap.size) (Nat.le_trans hX0 (by simp));have xm:=(xm.alloc _).trans hmz;have z0:=(zH.new wz zP 174).cell (o:=0) (v:=.bool false) rfl;have z1:=(zH.new wz zP 174).cell (o:=1) (v:=.slice none 0 0) rfl;have z2:=(zH.new wz zP 174).cell (o:=2) (v:=.slice none 0 0) rfl;have z3:=(zH.new wz zP 174).cell (o:=3) (v:=.slice none 0 0) rfl;have zf:=(zH.new wz zP 174).frozen)
    | (go_simp;go_at_call 147;refine (zJH _ (n.kids.take a) (HF2.out _ xm) (a) HL1.out.2.1 (by have:=HL1.out.2.1;omega)).mono ?_;rintro e wz ⟨a2,c2,rfl,hO2,hmz⟩;have n2:=zE (hmz) n2;have n3:=zE (hmz) n3;have n2b:=λo=>zM (x:=o) n2;have n3b:=λo=>zM (x:=o) n3;(first|have hO1:=hO1.ext (hmz)|skip);have hO2:=hO2.rebase (base':=w0.heap.size) xm.size;(first|(have hx0:=hx0.ext hmz;have y0:=hx0.cell (o:=0) (v:=.bool false) rfl;have y1:=hx0.cell (o:=1) (v:=.slice none 0 0) rfl;have y2:=hx0.cell (o:=2) (v:=.slice none 0 0) rfl;have y3:=hx0.cell (o:=3) (v:=.slice none 0 0) rfl;have yf:=hx0.frozen)|skip);have xm:=xm.trans hmz;have z0:=(zH.new wz zP 174).cell (o:=0) (v:=.bool false) rfl;have z1:=(zH.new wz zP 174).cell (o:=1) (v:=.slice none 0 0) rfl;have z2:=(zH.new wz zP 174).cell (o:=2) (v:=.slice none 0 0) rfl;have z3:=(zH.new wz zP 174).cell (o:=3) (v:=.slice none 0 0) rfl;have zf:=(zH.new wz zP 174).frozen)
    | (go_simp;go_at_call 147;refine (zJH _ (n.kids.take a) (HF2.out _ (xm.alloc _)) (a) HL1.out.2.1 (by have:=HL1.out.2.1;omega)).mono ?_;rintro e wz ⟨a2,c2,rfl,hO2,hmz⟩;have hX0:=xm.size;have hxn:=Nat.ne_of_lt (Nat.lt_of_lt_of_le hw4 hX0);have hxm:=Nat.ne_of_gt (Nat.lt_of_lt_of_le hw4 hX0);(first|have hx0:zH wz w0.heap.size zP 174:=(zH.new w0.drew zP 174).ext hmz|have hx0:=(zH.new _ zP 174).ext hmz);have y0:=hx0.cell (o:=0) (v:=.bool false) rfl;have y1:=hx0.cell (o:=1) (v:=.slice none 0 0) rfl;have y2:=hx0.cell (o:=2) (v:=.slice none 0 0) rfl;have y3:=hx0.cell (o:=3) (v:=.slice none 0 0) rfl;have yf:=hx0.frozen;have n2:=zE (((zA.refl _ _).alloc _).trans hmz) n2;have n3:=zE (((zA.refl _ _).alloc _).trans hmz) n3;have n2b:=λo=>zM (x:=o) n2;have n3b:=λo=>zM (x:=o) n3;(first|have hO1:=hO1.ext (((zA.refl _ _).alloc _).trans hmz)|skip);have hO2:=hO2.rebase (base':=w0.heap.size) (Nat.le_trans hX0 (by simp));have xm:=(xm.alloc _).trans hmz;have z0:=(zH.new wz zP 174).cell (o:=0) (v:=.bool false) rfl;have z1:=(zH.new wz zP 174).cell (o:=1) (v:=.slice none 0 0) rfl;have z2:=(zH.new wz zP 174).cell (o:=2) (v:=.slice none 0 0) rfl;have z3:=(zH.new wz zP 174).cell (o:=3) (v:=.slice none 0 0) rfl;have zf:=(zH.new wz zP 174).frozen)
    | fail)
  all_goals
   go_wp2_with fail;go_meet;refine⟨_,rfl,oh ?_⟩;first
    | (with_reducible exact zLc HL1.out.1 HL1.out.2.1 xm hO1 hO2)
    | (with_reducible exact zFs HL1.out.1 HL1.out.2.1 xm hX0 hx0 hO1 hO2)
    | (with_reducible exact zFs HL1.out.1 HL1.out.2.1 xm (Nat.le_refl _) hx0 hO1 hO2)
 obtain⟨X,rfl,HH1⟩:=hcut;obtain⟨k1,kc1,i1,ic1,hm1,hX1,hB1,hP1,hQ1⟩:=HH1.out;have n2:=zE hm1 n2;have n3:=zE hm1 n3;have HF3:Hid (∀W,zF wc W->Sl F W 1 vZ (.slice (ka.map (·.add a)) (n.keys.length-a) (kc-a)) (n.keys.drop a)):=oh (λW m=>HF3.out W (hm1.trans m));have HF4:Hid (∀W,zF wc W->Sl F W 1 yK (.slice (ia.map (·.add a)) (n.kids.length-a) (ic-a)) (n.kids.drop a)):=oh (λW m=>HF4.out W (hm1.trans m));have hw5:=hm1.size;have HMA:=oh (HM0.out.trans hm1);have HR1:=oh (HR1.out.ext hm1);have HR2:=oh (HR2.out.ext hm1);have HKC:=oh (zE (HM0.out.trans hm1) HKC.out);have HBX:=oh hB1;have HP1:=oh hP1;have HQ1:=oh hQ1;have HLX:Hid (X<wc.heap.size):=oh hB1.lt;have xm:=(zA.refl (λ_=>False) wc).drew;have hX2:X<wc.heap.size:=hB1.lt;obtain⟨z0,hz0⟩:∃z0,z0=w0.heap.size:=⟨_,rfl⟩;rw[<- hz0] at hw3 hw4 hX1 hw5;have HP1:Hid (yC (λ_=>False) wc z0 9 1 vZ (.slice k1 (n.keys.take b).length kc1) (n.keys.take b)):=oh (by rw[hz0];exact HP1.out);have HQ1:Hid (yC (λ_=>False) wc z0 3 1 yK (.slice i1 (n.kids.take a).length ic1) (n.kids.take a)):=oh (by rw[hz0];exact HQ1.out);have hw4:w.heap.size<wc.heap.size:=by omega
 clear hm1 hB1 hP1 hQ1 HF1 HF2 HM0 HB0 HW0 hz0 HH1;obtain⟨w0,rfl⟩:∃x,x=wc:=⟨_,rfl⟩;go_wp2_with fail;go_cut [10] (λv9 wx=>∃X,v9=.pointer (some ⟨X,0,none⟩)/\Hid (zNZ w0 wx X (n.keys.drop a) (n.kids.drop a)))
 case first =>
  have n2b:=λo=>zM (x:=o) n2
  have n3b:=λo=>zM (x:=o) n3
  go_region_law
   (first
    | (go_simp;go_at_call 148;refine (zJG _ (n.keys.drop a) (HF3.out _ xm) (n.keys.length-a) HL1.out.2.2.1 (by have:=HL1.out.2.2.1;omega)).mono ?_;rintro e wz ⟨a1,c1,rfl,hO1,hmz⟩;have n2:=zE (hmz) n2;have n3:=zE (hmz) n3;have n2b:=λo=>zM (x:=o) n2;have n3b:=λo=>zM (x:=o) n3;(first|have hO2:=hO2.ext (hmz)|skip);have hO1:=hO1.rebase (base':=w0.heap.size) xm.size;(first|(have hx0:=hx0.ext hmz;have y0:=hx0.cell (o:=0) (v:=.bool false) rfl;have y1:=hx0.cell (o:=1) (v:=.slice none 0 0) rfl;have y2:=hx0.cell (o:=2) (v:=.slice none 0 0) rfl;have y3:=hx0.cell (o:=3) (v:=.slice none 0 0) rfl;have yf:=hx0.frozen)|skip);have xm:=xm.trans hmz;have z0:=(zH.new wz zP 174).cell (o:=0) (v:=.bool false) rfl;have z1:=(zH.new wz zP 174).cell (o:=1) (v:=.slice none 0 0) rfl;have z2:=(zH.new wz zP 174).cell (o:=2) (v:=.slice none 0 0) rfl;have z3:=(zH.new wz zP 174).cell (o:=3) (v:=.slice none 0 0) rfl;have zf:=(zH.new wz zP 174).frozen)
    | (go_simp;go_at_call 148;refine (zJG _ (n.keys.drop a) (HF3.out _ (xm.alloc _)) (n.keys.length-a) HL1.out.2.2.1 (by have:=HL1.out.2.2.1;omega)).mono ?_;rintro e wz ⟨a1,c1,rfl,hO1,hmz⟩;have hX0:=xm.size;have hxn:=Nat.ne_of_lt (Nat.lt_of_lt_of_le hw4 hX0);have hxm:=Nat.ne_of_gt (Nat.lt_of_lt_of_le hw4 hX0);(first|have hx0:zH wz w0.heap.size zP 174:=(zH.new w0.drew zP 174).ext hmz|have hx0:=(zH.new _ zP 174).ext hmz);have y0:=hx0.cell (o:=0) (v:=.bool false) rfl;have y1:=hx0.cell (o:=1) (v:=.slice none 0 0) rfl;have y2:=hx0.cell (o:=2) (v:=.slice none 0 0) rfl;have y3:=hx0.cell (o:=3) (v:=.slice none 0 0) rfl;have yf:=hx0.frozen;have n2:=zE (((zA.refl _ _).alloc _).trans hmz) n2;have n3:=zE (((zA.refl _ _).alloc _).trans hmz) n3;have n2b:=λo=>zM (x:=o) n2;have n3b:=λo=>zM (x:=o) n3;(first|have hO2:=hO2.ext (((zA.refl _ _).alloc _).trans hmz)|skip);have hO1:=hO1.rebase (base':=w0.heap.size) (Nat.le_trans hX0 (by simp));have xm:=(xm.alloc _).trans hmz;have z0:=(zH.new wz zP 174).cell (o:=0) (v:=.bool false) rfl;have z1:=(zH.new wz zP 174).cell (o:=1) (v:=.slice none 0 0) rfl;have z2:=(zH.new wz zP 174).cell (o:=2) (v:=.slice none 0 0) rfl;have z3:=(zH.new wz zP 174).cell (o:=3) (v:=.slice none 0 0) rfl;have zf:=(zH.new wz zP 174).frozen)
    | (go_simp;go_at_call 147;refine (zJI _ (n.kids.drop a) (HF4.out _ xm) (n.kids.length-a) HL1.out.2.2.2 (by have:=HL1.out.2.2.2;omega)).mono ?_;rintro e wz ⟨a2,c2,rfl,hO2,hmz⟩;have n2:=zE (hmz) n2;have n3:=zE (hmz) n3;have n2b:=λo=>zM (x:=o) n2;have n3b:=λo=>zM (x:=o) n3;(first|have hO1:=hO1.ext (hmz)|skip);have hO2:=hO2.rebase (base':=w0.heap.size) xm.size;(first|(have hx0:=hx0.ext hmz;have y0:=hx0.cell (o:=0) (v:=.bool false) rfl;have y1:=hx0.cell (o:=1) (v:=.slice none 0 0) rfl;have y2:=hx0.cell (o:=2) (v:=.slice none 0 0) rfl;have y3:=hx0.cell (o:=3) (v:=.slice none 0 0) rfl;have yf:=hx0.frozen)|skip);have xm:=xm.trans hmz;have z0:=(zH.new wz zP 174).cell (o:=0) (v:=.bool false) rfl;have z1:=(zH.new wz zP 174).cell (o:=1) (v:=.slice none 0 0) rfl;have z2:=(zH.new wz zP 174).cell (o:=2) (v:=.slice none 0 0) rfl;have z3:=(zH.new wz zP 174).cell (o:=3) (v:=.slice none 0 0) rfl;have zf:=(zH.new wz zP 174).frozen)
    | (go_simp;go_at_call 147;refine (zJI _ (n.kids.drop a) (HF4.out _ (xm.alloc _)) (n.kids.length-a) HL1.out.2.2.2 (by have:=HL1.out.2.2.2;omega)).mono ?_;rintro e wz ⟨a2,c2,rfl,hO2,hmz⟩;have hX0:=xm.size;have hxn:=Nat.ne_of_lt (Nat.lt_of_lt_of_le hw4 hX0);have hxm:=Nat.ne_of_gt (Nat.lt_of_lt_of_le hw4 hX0);(first|have hx0:zH wz w0.heap.size zP 174:=(zH.new w0.drew zP 174).ext hmz|have hx0:=(zH.new _ zP 174).ext hmz);have y0:=hx0.cell (o:=0) (v:=.bool false) rfl;have y1:=hx0.cell (o:=1) (v:=.slice none 0 0) rfl;have y2:=hx0.cell (o:=2) (v:=.slice none 0 0) rfl;have y3:=hx0.cell (o:=3) (v:=.slice none 0 0) rfl;have yf:=hx0.frozen;have n2:=zE (((zA.refl _ _).alloc _).trans hmz) n2;have n3:=zE (((zA.refl _ _).alloc _).trans hmz) n3;have n2b:=λo=>zM (x:=o) n2;have n3b:=λo=>zM (x:=o) n3;(first|have hO1:=hO1.ext (((zA.refl _ _).alloc _).trans hmz)|skip);have hO2:=hO2.rebase (base':=w0.heap.size) (Nat.le_trans hX0 (by simp));have xm:=(xm.alloc _).trans hmz;have z0:=(zH.new wz zP 174).cell (o:=0) (v:=.bool false) rfl;have z1:=(zH.new wz zP 174).cell (o:=1) (v:=.slice none 0 0) rfl;have z2:=(zH.new wz zP 174).cell (o:=2) (v:=.slice none 0 0) rfl;have z3:=(zH.new wz zP 174).cell (o:=3) (v:=.slice none 0 0) rfl;have zf:=(zH.new wz zP 174).frozen)
    | fail)
  all_goals
   go_wp2_with fail;go_meet;refine⟨_,rfl,oh ?_⟩;first
    | (with_reducible exact zLc HL1.out.2.2.1 HL1.out.2.2.2 xm hO1 hO2)
    | (with_reducible exact zFs HL1.out.2.2.1 HL1.out.2.2.2 xm hX0 hx0 hO1 hO2)
    | (with_reducible exact zFs HL1.out.2.2.1 HL1.out.2.2.2 xm (Nat.le_refl _) hx0 hO1 hO2)
 obtain⟨Y,rfl,HH2⟩:=hcut;obtain⟨k2,kc2,i2,ic2,hm2,hY1,hB2,hP2,hQ2⟩:=HH2.out;have n2:=zE hm2 n2;have HBX:=HBX.out.ext hm2;have hka:=HKA.out;have hkc0:=zE hm2 HKC.out;have hR1:=HR1.out.ext hm2;have hR2:=HR2.out.ext hm2;have hkb:=HKB.out;subst hka;have p0:=HBX.cell (o:=0) rfl;have p1:=HBX.cell (o:=1) rfl;have p2:=HBX.cell (o:=2) rfl;have p3:=HBX.cell (o:=3) rfl;have q0:=hB2.cell (o:=0) rfl;have q1:=hB2.cell (o:=1) rfl;have q2:=hB2.cell (o:=2) rfl;have q3:=hB2.cell (o:=3) rfl;have r0:=hR1.cell (o:=0) rfl;have r1:=hR1.cell (o:=1) rfl;have r2:=hR1.cell (o:=2) rfl;have r3:=hR1.cell (o:=3) rfl;have rf:=hR1.frozen;have s0:=hR2.cell (o:=0) rfl;have s1:=hR2.cell (o:=1) rfl;have s2:=hR2.cell (o:=2) rfl;have s3:=hR2.cell (o:=3) rfl;have sf:=hR2.frozen;have hg1:X≠w.heap.size+1:=by omega
 have hg2:X≠w.heap.size+1+1:=by omega
 have hg3:Y≠w.heap.size+1:=by omega
 have hg4:Y≠w.heap.size+1+1:=by omega
 have hg5:kb≠w.heap.size+1:=by omega
 have hg6:kb≠w.heap.size+1+1:=by omega
 have HP1:=oh (HP1.out.ext hm2);have HQ1:=oh (HQ1.out.ext hm2);have HP2:=oh hP2;have HQ2:=oh hQ2;have HMM:=oh (HMA.out.trans hm2);have HRA:=oh hR1;have HRB:=oh hR2;obtain⟨kp,hkp⟩:∃kp,kp=(n.keys.take b).length:=⟨_,rfl⟩;obtain⟨ip,hip⟩:∃ip,ip=(n.kids.take a).length:=⟨_,rfl⟩;obtain⟨kq,hkq⟩:∃kq,kq=(n.keys.drop a).length:=⟨_,rfl⟩;obtain⟨iq,hiq⟩:∃iq,iq=(n.kids.drop a).length:=⟨_,rfl⟩;rw[<- hkp] at p2 HP1;rw[<- hip] at p3 HQ1;rw[<- hkq] at q2 HP2;rw[<- hiq] at q3 HQ2;have HWS:Hid (w.heap.size+1+1<z0/\z0<=w0.heap.size):=oh ⟨hw3,hw5⟩;clear hm2 hB2 hP2 hQ2 HBX hR1 hR2 HH2 hkp hip hkq hiq xm hw5;go_wp2_with fail;go_region
 go_wp2_with fail;have mA:=zA.set4 (F:=λk=>k=w.heap.size+1) (zA.refl _ wc) (R:=w.heap.size+1) (.inr rfl) (.bool false) (.slice none 0 0) (.slice k1 kp kc1) (.slice i1 ip ic1);have hA:=HRA.out.set4 (.bool false) (.slice none 0 0) (.slice k1 kp kc1) (.slice i1 ip ic1);have hB0:=HRB.out.mods mA (by omega);have hB:=hB0.set4 (.bool false) (.slice none 0 0) (.slice k2 kq kc2) (.slice i2 iq ic2);have mB:=zA.set4 (F:=λk=>k=w.heap.size+1+1) (zA.refl _ ((((wc.setCell ⟨w.heap.size+1,0,none⟩ (.bool false)).setCell ⟨w.heap.size+1,1,none⟩ (.slice none 0 0)).setCell ⟨w.heap.size+1,2,none⟩ (.slice k1 kp kc1)).setCell ⟨w.heap.size+1,3,none⟩ (.slice i1 ip ic1))) (R:=w.heap.size+1+1) (.inr rfl) (.bool false) (.slice none 0 0) (.slice k2 kq kc2) (.slice i2 iq ic2);have hA2:=hA.mods mB (by omega);have hx:=(zA.set4 (zA.set4 HMM.out (R:=w.heap.size+1) (.inl (by omega)) (.bool false) (.slice none 0 0) (.slice k1 kp kc1) (.slice i1 ip ic1)) (R:=w.heap.size+1+1) (.inl (by omega)) (.bool false) (.slice none 0 0) (.slice k2 kq kc2) (.slice i2 iq ic2)).drew;have hws:=HWS.out;have e1:∀g,(Value.slice k1 kp kc1).ownBlock=some g->w.heap.size+1+1<g:=λg hg=>by have:=(HP1.out.lt g hg).1;omega
 have e2:∀g,(Value.slice i1 ip ic1).ownBlock=some g->w.heap.size+1+1<g:=λg hg=>by have:=(HQ1.out.lt g hg).1;omega
 have e3:∀g,(Value.slice k2 kq kc2).ownBlock=some g->w.heap.size+1+1<g:=λg hg=>by have:=(HP2.out.lt g hg).1;omega
 have e4:∀g,(Value.slice i2 iq ic2).ownBlock=some g->w.heap.size+1+1<g:=λg hg=>by have:=(HQ2.out.lt g hg).1;omega
 have o1:=((HP1.out.mods mA (λg hg=>by have:=e1 g hg;omega)).mods mB (λg hg=>by have:=e1 g hg;omega)).rebase (base':=w.heap.size) (by omega);have o2:=((HQ1.out.mods mA (λg hg=>by have:=e2 g hg;omega)).mods mB (λg hg=>by have:=e2 g hg;omega)).rebase (base':=w.heap.size) (by omega);have o3:=((HP2.out.mods mA (λg hg=>by have:=e3 g hg;omega)).mods mB (λg hg=>by have:=e3 g hg;omega)).rebase (base':=w.heap.size) (by omega);have o4:=((HQ2.out.mods mA (λg hg=>by have:=e4 g hg;omega)).mods mB (λg hg=>by have:=e4 g hg;omega)).rebase (base':=w.heap.size) (by omega);refine bodyPost_ret (zCi rfl _ _ (w.heap.size+1) (w.heap.size+1+1) 174 174 _ _ _ rfl hA2.drew rfl hB.drew rfl Tryz.underlying174 rfl Tryz.nodeSz rfl) rfl ?_;unfold zGI;rw[HAP.out];exact⟨_,_,rfl,⟨_,_,_,rfl,yC.nil _ _ _ _ _ _,o1.ext (zA.refl _ _).drew,o2.ext (zA.refl _ _).drew⟩,⟨_,_,_,rfl,yC.nil _ _ _ _ _ _,o3.ext (zA.refl _ _).drew,o4.ext (zA.refl _ _).drew⟩,hx⟩
end
def zSN(w:World)(n:zJ)(e:Ending)(w':World):Prop :=
 zF w w'/\((∃x va vb,zEI n=some x/\e=.returned (.tuple #[va,.string x.2.1,vb,.bool true])/\zLP w' w.heap.size va x.1/\zLP w' w.heap.size vb x.2.2) \/
  (zEI n=none/\e=.returned (.tuple #[.agg zP,.string ⟨#[]⟩,.agg zP,.bool false])))
section
variable {F:Nat->Prop}{ad:Nat->Addr}{w w':World}
theorem zOo(n:zJ)(hf:zAt n)(ve vk vi:Value)(hve:Sl F w 4 zAO ve n.entries)(hvk:Sl F w 1 vZ vk n.keys)(hvi:Sl F w 1 yK vi n.kids)(a:Nat)(hp:zBG n a)(hb1:n.entries.length<=100000)(hb2:n.kids.length<=100000)(b:Bool)(hb:n.leaf=b) :
  Calls Tryz.prog 274 #[.agg #[.bool b,ve,vk,vi],.int .i64 (a:Int)] w (zGI w (zU n a)):=by
 subst hb;cases hl:n.leaf with
 | true=>exact zMn n hl ve vk vi hve a (hp.leaf hl) hb1
 | false =>
  have:n.kids.length=n.keys.length+1:=by unfold zAt at hf;rw[if_neg (by rw[hl];simp)] at hf;exact hf.2
  exact zMv n hl ve vk vi hvk hvi a (hp.inner hl) this hb2
theorem zNa(n:zJ){base:Nat}{v:Value}(h:zLP w base v n)(h1:n.entries.length<=100000)(h2:n.keys.length<=100000)(hb:zG n<=100000)(W:World)(m:zF w W) :
  Calls Tryz.prog 219 #[v] W λe w'=>e=.returned (.int .i64 (zG n))/\zF W w':=by
 obtain⟨ve,vk,vi,rfl,o1,o2,o3⟩:=h;exact zHT (F:=λ_=>False) (vi:=vi) n ve vk W ((o1.ext m).sl zBV.len (by omega)) ((o2.ext m).sl zBl.len (by omega)) (by omega)
end
theorem zOp{n:zJ}(hr:zO n=true)(hm:0<jL n):zEI n=some (zU n (qX (zAj n) (qZ n) (qZ n) (jL n))):=by
 unfold zEI;rw[if_pos ⟨hr,hm⟩]
theorem zOq{n:zJ}(h:¬ (zO n=true/\0<jL n)):zEI n=none:=by
 unfold zEI;rw[if_neg h]
theorem zMw(n:zJ)(a:Nat):(zU n a).1.entries.length<=n.entries.length/\(zU n a).1.keys.length<=n.keys.length/\(zU n a).2.2.entries.length<=n.entries.length/\(zU n a).2.2.keys.length<=n.keys.length:=by
 unfold zU;split <;> simp only[List.length_take,List.length_drop,List.length_nil] <;> omega
section
variable {F:Nat->Prop}{ad:Nat->Addr}{w w':World}
theorem zQ1(hL:yG F ad w)(n:zJ)(ve vk vi:Value)(hve:Sl F w 4 zAO ve n.entries)(hvk:Sl F w 1 vZ vk n.keys)(hvi:Sl F w 1 yK vi n.kids)(hlen:zO n=true->(yE n).length<=100000)(hb1:n.entries.length<=100000)(hb2:n.kids.length<=100000)(hb5:n.keys.length<=100000) :
  Calls Tryz.prog 213 #[.agg #[.bool n.leaf,ve,vk,vi]] w (zSN w n):=by
 have HCK:=oh (λW (m:zF w W)=>zE3 (hL.mods m.ext) n ve vk vi (hve.ext m) (hvk.ext m) (hvi.ext m));have HVE:=oh hve;have HVK:=oh hvk;have HVI:=oh hvi;obtain⟨ea,ec,rfl,he1,he2,he3,_⟩:=hve;obtain⟨ka,kc,rfl,_,_,_,_⟩:=hvk;obtain⟨ia,ic,rfl,hi1,hi2,hi3,_⟩:=hvi;unfold maxLen at he2 hi2;obtain⟨fr,hfr⟩:∃fr,fr=qZ n:=⟨_,rfl⟩;obtain⟨M,hM⟩:∃M,M=jL n:=⟨_,rfl⟩;have HFR:=oh hfr;have HM:=oh hM;have HLEN:=oh hlen;obtain⟨lf,hlf⟩:∃lf,n.leaf=lf:=⟨_,rfl⟩;rw[hlf] at HCK ⊢;have HLF:=oh hlf;obtain⟨w0,hw0⟩:∃w0,w0=((w.alloc (.cells #[.bool lf,.slice ea n.entries.length ec,.slice ka n.keys.length kc,.slice ia n.kids.length ic] 174)).alloc (.cells zP 174)).alloc (.cells zP 174):=⟨_,rfl⟩;have HM0:Hid (zF w w0):=oh (by rw[hw0];exact (((zA.refl _ w).alloc _).alloc _).alloc _);have HB0:Hid (zH w0 w.heap.size #[.bool lf,.slice ea n.entries.length ec,.slice ka n.keys.length kc,.slice ia n.kids.length ic] 174):=oh (by rw[hw0];exact ((zH.new w _ _).alloc _).alloc _);have HR1:Hid (zH w0 (w.heap.size+1) zP 174):=oh (by rw[hw0];exact (show zH ((w.alloc _).alloc (.cells zP 174)) (w.heap.size+1) zP 174 from zR (by simp)).alloc _);have HR2:Hid (zH w0 (w.heap.size+1+1) zP 174):=oh (by rw[hw0];exact zR (by simp));have HFM:Hid ((lf=true->fr=1/\M=n.entries.length-1)/\(lf=false->fr=2/\M=n.kids.length-3)):=oh (by
  rw[hfr,hM];unfold qZ jL;rw[hlf];exact⟨λh=>by rw[h];exact⟨rfl,rfl⟩,λh=>by rw[h];exact⟨rfl,rfl⟩⟩)
 have b0:=HB0.out.cell (o:=0) rfl;have b1:=HB0.out.cell (o:=1) rfl;have b2:=HB0.out.cell (o:=2) rfl;have b3:=HB0.out.cell (o:=3) rfl;have u1:IntKind.i64.wrap ((n.entries.length:Int)-1)=(n.entries.length:Int)-1:=by rw[IntWalk.i64_in _ (by omega)]
 have u2:IntKind.i64.wrap ((n.kids.length:Int)-2)=(n.kids.length:Int)-2:=by rw[IntWalk.i64_in _ (by omega)]
 have HW0:=oh hw0;clear hfr hM hlen hL hlf hw0;obtain⟨T,hT⟩:∃T:Int,(M=0->T<(fr:Int))/\(0<M->T=(fr:Int)+(M:Int)-1)/\T=(if lf=true then (n.entries.length:Int)-1 else (n.kids.length:Int)-2):=⟨_,by
  have:=HFM.out;cases lf
  .obtain⟨h1,h2⟩:=this.2 rfl;simp only[Bool.false_eq_true,if_false];omega
  .obtain⟨h1,h2⟩:=this.1 rfl;simp only[if_true];omega,by
  have:=HFM.out;cases lf
  .obtain⟨h1,h2⟩:=this.2 rfl;simp only[Bool.false_eq_true,if_false];omega
  .obtain⟨h1,h2⟩:=this.1 rfl;simp only[if_true];omega,rfl⟩
 have HT:=oh hT;clear hT
 go_enter Tryz.func213, Tryz.ntmps213
 go_wp2_with fail;rw[<- HW0.out];go_quiet (fail)
 go_upto_if 24 with fail
 go_cut [6,7] (λv6 v7 wx=>v6=.int .i64 (fr:Int)/\v7=.int .i64 T/\Hid (zF w0 wx))
 case first =>
  cases lf
  .have HTT:=HT.out.2.2;have HF:=HFM.out.2 rfl;simp only[Bool.false_eq_true,if_false] at HTT;go_wp2_with fail;go_quiet (fail)
   go_wp2_with fail;go_meet;exact⟨by rw[HF.1];rfl,by rw[HTT],oh (((zA.refl _ _).drewN _).drewN _)⟩
  .have HTT:=HT.out.2.2;have HF:=HFM.out.1 rfl;simp only[if_true] at HTT;go_wp2_with fail;go_meet;exact⟨by rw[HF.1];rfl,by rw[HTT],oh ((zA.refl _ _).drewN _)⟩
 obtain⟨rfl,rfl,HX⟩:=hcut;have b0:=(HB0.out.ext HX.out).cell (o:=0) rfl;have b1:=(HB0.out.ext HX.out).cell (o:=1) rfl;have b2:=(HB0.out.ext HX.out).cell (o:=2) rfl;have b3:=(HB0.out.ext HX.out).cell (o:=3) rfl;go_wp2_with fail;refine (HCK.out _ (HM0.out.trans HX.out)).mono ?_;rintro e w1 ⟨ev,rfl,hE,hm1⟩;have HX1:=oh (HX.out.trans hm1);have hR1:=HR1.out.ext HX1.out;have hR2:=HR2.out.ext HX1.out;clear hm1 b0 b1 b2 b3;by_cases hcut:zO n=true/\0<M
 .obtain⟨hr,hMp⟩:=hcut;have hev:ev=.nilIface:=by
   have:zCB n=none:=by unfold zCB;rw[if_pos hr]
   rw[this] at hE;exact hE
  subst hev;have HR:=oh hr;have hform:=qU hr;have HFO:=oh hform;have HWN:Hid (zG n<=100000):=oh (by rw[zAm hform];have:=HLEN.out hr;omega);have hT:=HT.out.2.1 hMp;have hfr2:fr<=2:=by
   have:=HFM.out;cases lf
   .have:=(this.2 rfl).1;omega
   .have:=(this.1 rfl).1;omega
  have hM2:M<=100000:=by
   have:=HFM.out;cases lf
   .have:=(this.2 rfl).2;omega
   .have:=(this.1 rfl).2;omega
  have hgo:(fr:Int)<=T:=by omega
  have HPL:Hid (∀p,fr<=p->p<fr+M->zBG n p):=oh (λp h1 h2=>zLM (by rw[<- HFR.out];exact h1) (by rw[<- HFR.out,<- HM.out];exact h2));have HUB:Hid (∀p,zBG n p->zG (zU n p).1<=100000/\zG (zU n p).2.2<=100000/\2<=zG (zU n p).1/\2<=zG (zU n p).2.2):=oh (λp _=>by
   have:=zJ9 (n:=n) (a:=p);have:=HWN.out;have:=zHz (zU n p).1;have:=zHz (zU n p).2.2;omega)
  have HAP:Hid (∀W,zF w0 W->∀p,zBG n p -> Calls Tryz.prog 274 #[.agg #[.bool lf,.slice ea n.entries.length ec,.slice ka n.keys.length kc,.slice ia n.kids.length ic],.int .i64 (p:Int)] W (zGI W (zU n p))):=oh (λW m p hp =>
   zOo n HFO.out _ _ _ (HVE.out.ext (HM0.out.trans m)) (HVK.out.ext (HM0.out.trans m)) (HVI.out.ext (HM0.out.trans m)) p hp hb1 hb2 lf HLF.out)
  clear hE hr hform hR1 hR2;go_wp2_with fail;go_loopg [8,9,10] M (λm v8 v9 v10 wr=>∃(j b:Nat) (z:Int),j+m=M/\v10=.int .i64 (((fr+j:Nat):Int))/\v8=.int .i64 (b:Int)/\v9=.int .i64 z/\fr<=b/\b<fr+M/\z<=100000/\Hid ((j=0->z = -1/\b=fr)/\(0<j->z=(zAj n b:Int))/\qX (zAj n) b (fr+j) m=qX (zAj n) fr fr M)/\Hid (zF w0 wr))
  case atStart=>exact⟨0,fr, -1,by omega,rfl,rfl,rfl,by omega,by omega,by omega,oh ⟨λ_=>⟨rfl,rfl⟩,λh=>by omega,rfl⟩,HX1⟩
  case round =>
   obtain⟨j,b,z,hjm,rfl,rfl,rfl,hb3,hb4,hz,HQ,HXR⟩:=hrel;have b0:=(HB0.out.ext HXR.out).cell (o:=0) rfl;have b1:=(HB0.out.ext HXR.out).cell (o:=1) rfl;have b2:=(HB0.out.ext HXR.out).cell (o:=2) rfl;have b3:=(HB0.out.ext HXR.out).cell (o:=3) rfl;by_cases hlt:j<M
   .have hp:=HPL.out (fr+j) (by omega) (by omega);have hle:((fr+j:Nat):Int)<=T:=by omega
    go_wp2_with fail;refine (HAP.out _ HXR.out (fr+j) hp).mono ?_;have HUQ:=HUB.out _ hp;have HUE:=zDe HFO.out hp;have HLE:=zMw n (fr+j);generalize zU n (fr+j)=x at HUQ HUE HLE
    obtain⟨A,kx,B⟩:=x;rintro e w2 ⟨va,vb,rfl,hA,hB,hm2⟩;simp only at hA hB HUQ HUE HLE;have HWA0:=λW (m:zF w2 W)=>zNa A hA (by omega) (by omega) HUQ.1 W m
    have HWB0:=λW (m:zF w2 W)=>zNa B hB (by omega) (by omega) HUQ.2.1 W m
    obtain⟨e1,k1,i1,rfl,oe1,ok1,oi1⟩:=hA;obtain⟨e2,k2,i2,rfl,oe2,ok2,oi2⟩:=hB;obtain⟨ea1,ec1,rfl,_,_⟩:=oe1.form;obtain⟨ka1,kc1,rfl,_,_⟩:=ok1.form;obtain⟨ia1,ic1,rfl,_,_⟩:=oi1.form;obtain⟨ea2,ec2,rfl,_,_⟩:=oe2.form;obtain⟨ka2,kc2,rfl,_,_⟩:=ok2.form;obtain⟨ia2,ic2,rfl,_,_⟩:=oi2.form;obtain⟨wa,hwa⟩:∃wa,wa=zG A:=⟨_,rfl⟩;obtain⟨wb,hwb⟩:∃wb,wb=zG B:=⟨_,rfl⟩;rw[<- hwa] at HWA0 HUQ HUE;rw[<- hwb] at HWB0 HUQ HUE;have HWA:=oh HWA0;have HWB:=oh HWB0;obtain⟨D,hD⟩:∃D:Int,D=(zAj n (fr+j):Int):=⟨_,rfl⟩;rw[<- hD] at HUE;have HD:=oh hD;have hq1:=HUQ.1;have hq2:=HUQ.2.1;have hq3:=HUQ.2.2.1;have hq4:=HUQ.2.2.2;have HUE2:=oh HUE;obtain⟨w3,hw3⟩:∃w3,w3=(w2.alloc (.cells #[.bool A.leaf,.slice ea1 A.entries.length ec1,.slice ka1 A.keys.length kc1,.slice ia1 A.kids.length ic1] 174)).alloc (.cells #[.bool B.leaf,.slice ea2 B.entries.length ec2,.slice ka2 B.keys.length kc2,.slice ia2 B.kids.length ic2] 174):=⟨_,rfl⟩;have HM3:Hid (zF w2 w3):=oh (by rw[hw3];exact ((zA.refl _ _).alloc _).alloc _);have hxa:zH w3 w2.heap.size #[.bool A.leaf,.slice ea1 A.entries.length ec1,.slice ka1 A.keys.length kc1,.slice ia1 A.kids.length ic1] 174:=by rw[hw3];exact (zH.new w2 _ _).alloc _
    have hxb:zH w3 (w2.heap.size+1) #[.bool B.leaf,.slice ea2 B.entries.length ec2,.slice ka2 B.keys.length kc2,.slice ia2 B.kids.length ic2] 174:=by rw[hw3];exact zR (by simp)
    have p0:=hxa.cell (o:=0) rfl;have p1:=hxa.cell (o:=1) rfl;have p2:=hxa.cell (o:=2) rfl;have p3:=hxa.cell (o:=3) rfl;have q0:=hxb.cell (o:=0) rfl;have q1:=hxb.cell (o:=1) rfl;have q2:=hxb.cell (o:=2) rfl;have q3:=hxb.cell (o:=3) rfl;have HXR3:=oh (HXR.out.trans (hm2.trans HM3.out));have HW3:=oh hw3;have xm:=(zA.refl (λ_=>False) w3).drew;have u3:IntKind.i64.wrap (wa-wb)=wa-wb:=by rw[IntWalk.i64_in _ (by omega)]
    clear HWA0 HWB0 hwa hwb HUQ HUE HLE hw3 hxa hxb hm2 oe1 ok1 oi1 oe2 ok2 oi2 hD;go_wp2_with fail;rw[<- HW3.out];go_cut [14] (λv14 wx=>v14=.int .i64 (wa-wb)/\Hid (zF w3 wx))
    case first =>
     go_region_held3 (λw'=>w'.cell? ⟨w2.heap.size,0,none⟩=some (.bool A.leaf)/\w'.cell? ⟨w2.heap.size,1,none⟩=some (.slice ea1 A.entries.length ec1)/\w'.cell? ⟨w2.heap.size,2,none⟩=some (.slice ka1 A.keys.length kc1)/\w'.cell? ⟨w2.heap.size,3,none⟩=some (.slice ia1 A.kids.length ic1) /\
       w'.cell? ⟨w2.heap.size+1,0,none⟩=some (.bool B.leaf)/\w'.cell? ⟨w2.heap.size+1,1,none⟩=some (.slice ea2 B.entries.length ec2)/\w'.cell? ⟨w2.heap.size+1,2,none⟩=some (.slice ka2 B.keys.length kc2)/\w'.cell? ⟨w2.heap.size+1,3,none⟩=some (.slice ia2 B.kids.length ic2))
      (first|(with_reducible exact⟨p0,p1,p2,p3,q0,q1,q2,q3⟩)|go_keep)
      (first
       | (go_at_call 219;(with_reducible refine (HWA.out _ (HM3.out.trans xm)).mono ?_);rintro e wz ⟨rfl,hmz⟩;have p0:=zE hmz p0;have p1:=zE hmz p1;have p2:=zE hmz p2;have p3:=zE hmz p3;have q0:=zE hmz q0;have q1:=zE hmz q1;have q2:=zE hmz q2;have q3:=zE hmz q3;have xm:=xm.trans hmz)
       | (go_at_call 219;(with_reducible refine (HWB.out _ (HM3.out.trans xm)).mono ?_);rintro e wz ⟨rfl,hmz⟩;have p0:=zE hmz p0;have p1:=zE hmz p1;have p2:=zE hmz p2;have p3:=zE hmz p3;have q0:=zE hmz q0;have q1:=zE hmz q1;have q2:=zE hmz q2;have q3:=zE hmz q3;have xm:=xm.trans hmz)
       | fail)
     all_goals
      go_wp2_with fail;go_meet;exact⟨rfl,oh xm⟩
    obtain⟨rfl,HXC⟩:=hcut;have HXC:=oh (HXR3.out.trans HXC.out);clear xm p0 p1 p2 p3 q0 q1 q2 q3;go_upto_if 59 with fail
    go_cut [14] (λv14 wx=>v14=.int .i64 D/\Hid (wx=wc))
    case first =>
     by_cases hd:wa-wb<0
     .go_wp2_with fail;go_meet;exact⟨by have:=HUE2.out;rw[if_pos hd] at this;rw[this],oh rfl⟩
     .go_wp2_with fail;go_meet;exact⟨by have:=HUE2.out;rw[if_neg (by omega)] at this;rw[this],oh rfl⟩
    obtain⟨rfl,HE⟩:=hcut;obtain rfl:=HE.out;have hDn:0<=D/\D<=100000:=by have:=HUE2.out;split at this <;> omega
    obtain⟨hDn1,hDn2⟩:=hDn;obtain⟨m,rfl⟩:∃m,gk=m+1:=⟨gk-1,by omega⟩;by_cases hz0:z<0
    .have HJ:Hid (j=0/\b=fr):=oh (by
      obtain⟨h1,h2,_⟩:=HQ.out;rcases Nat.eq_zero_or_pos j with h|h
      .exact⟨h,(h1 h).2⟩
      .have:=h2 h;omega)
     go_wp2_with fail;go_roundg m
     case measure=>omega
     case rel=>exact⟨j+1,fr+j,D,by omega,by go_num,by go_num,rfl,by omega,by omega,by omega,oh ⟨λh=>by omega,λ_=>HD.out,by
      have:=HQ.out.2.2;rw[HJ.out.2,HJ.out.1,Nat.add_zero,zIa] at this;rw[HJ.out.1,Nat.add_zero,Nat.zero_add];exact this⟩,HXC⟩
    .have hj0:0<j:=by
      rcases Nat.eq_zero_or_pos j with h|h
      .have:=(HQ.out.1 h).1;omega
      .exact h
     have HZ:Hid (z=(zAj n b:Int)):=oh (HQ.out.2.1 hj0);by_cases hdz:D<z
     .go_wp2_with fail;go_roundg m
      case measure=>omega
      case rel=>exact⟨j+1,fr+j,D,by omega,by go_num,by go_num,rfl,by omega,by omega,by omega,oh ⟨λh=>by omega,λ_=>HD.out,by
       have:=HQ.out.2.2;rw[qX,if_pos (by have:=HD.out;have:=HZ.out;omega)] at this;exact this⟩,HXC⟩
     .go_wp2_with fail;go_roundg m
      case measure=>omega
      case rel=>exact⟨j+1,b,z,by omega,by go_num,rfl,rfl,by omega,by omega,by omega,oh ⟨λh=>by omega,λ_=>HZ.out,by
       have:=HQ.out.2.2;rw[qX,if_neg (by have:=HD.out;have:=HZ.out;omega)] at this;exact this⟩,HXC⟩
   .have hle:¬ ((fr+j:Nat):Int)<=T:=by omega
    have hp:=HPL.out b hb3 hb4;go_wp2_with fail;refine (HAP.out _ HXR.out b hp).mono ?_;have HBB:Hid (zEI n=some (zU n b)):=oh (by
     rw[zOp HR.out (by rw[<- HM.out];exact hMp),<- HFR.out,<- HM.out,<- HQ.out.2.2,show gk=0 by omega,qX])
    generalize zU n b=x at HBB
    obtain⟨A,kx,B⟩:=x;rintro e w2 ⟨va,vb,rfl,hA,hB,hm2⟩;simp only at hA hB;obtain⟨e1,k1,i1,rfl,oe1,ok1,oi1⟩:=hA;obtain⟨e2,k2,i2,rfl,oe2,ok2,oi2⟩:=hB;obtain⟨ea1,ec1,rfl,_,_⟩:=oe1.form;obtain⟨ka1,kc1,rfl,_,_⟩:=ok1.form;obtain⟨ia1,ic1,rfl,_,_⟩:=oi1.form;obtain⟨ea2,ec2,rfl,_,_⟩:=oe2.form;obtain⟨ka2,kc2,rfl,_,_⟩:=ok2.form;obtain⟨ia2,ic2,rfl,_,_⟩:=oi2.form;obtain⟨w3,hw3⟩:∃w3,w3=(w2.alloc (.cells #[.bool A.leaf,.slice ea1 A.entries.length ec1,.slice ka1 A.keys.length kc1,.slice ia1 A.kids.length ic1] 174)).alloc (.cells #[.bool B.leaf,.slice ea2 B.entries.length ec2,.slice ka2 B.keys.length kc2,.slice ia2 B.kids.length ic2] 174):=⟨_,rfl⟩;have hm3:zF w2 w3:=by rw[hw3];exact ((zA.refl _ _).alloc _).alloc _
    have hxa:zH w3 w2.heap.size #[.bool A.leaf,.slice ea1 A.entries.length ec1,.slice ka1 A.keys.length kc1,.slice ia1 A.kids.length ic1] 174:=by rw[hw3];exact (zH.new w2 _ _).alloc _
    have hxb:zH w3 (w2.heap.size+1) #[.bool B.leaf,.slice ea2 B.entries.length ec2,.slice ka2 B.keys.length kc2,.slice ia2 B.kids.length ic2] 174:=by rw[hw3];exact zR (by simp)
    have HXW:=HXR.out.trans (hm2.trans hm3);have HMM:=oh (HM0.out.trans HXW);have hR1:=HR1.out.ext HXW;have hR2:=HR2.out.ext HXW;have o1:=oe1.ext hm3;have o2:=ok1.ext hm3;have o3:=oi1.ext hm3;have o4:=oe2.ext hm3;have o5:=ok2.ext hm3;have o6:=oi2.ext hm3;have p0:=hxa.cell (o:=0) rfl;have p1:=hxa.cell (o:=1) rfl;have p2:=hxa.cell (o:=2) rfl;have p3:=hxa.cell (o:=3) rfl;have q0:=hxb.cell (o:=0) rfl;have q1:=hxb.cell (o:=1) rfl;have q2:=hxb.cell (o:=2) rfl;have q3:=hxb.cell (o:=3) rfl;have r0:=hR1.cell (o:=0) rfl;have r1:=hR1.cell (o:=1) rfl;have r2:=hR1.cell (o:=2) rfl;have r3:=hR1.cell (o:=3) rfl;have rf:=hR1.frozen;have s0:=hR2.cell (o:=0) rfl;have s1:=hR2.cell (o:=1) rfl;have s2:=hR2.cell (o:=2) rfl;have s3:=hR2.cell (o:=3) rfl;have sf:=hR2.frozen;have hz0:w.heap.size+1+1<w0.heap.size:=HR2.out.lt;have hz1:w.heap.size+1+1<wr.heap.size:=Nat.lt_of_lt_of_le hz0 HXR.out.size;have hz2:wr.heap.size<=w2.heap.size:=hm2.size;have hz3:w2.heap.size≠w.heap.size+1:=by omega
    have hz4:w2.heap.size≠w.heap.size+1+1:=by omega
    have hz5:w2.heap.size+1≠w.heap.size+1:=by omega
    have hz6:w2.heap.size+1≠w.heap.size+1+1:=by omega
    have HRA:=oh hR1;have HRB:=oh hR2;have HO:=oh (And.intro o1 (And.intro o2 (And.intro o3 (And.intro o4 (And.intro o5 o6)))));have HW3:=oh hw3;clear hR1 hR2 hxa hxb hm2 hm3 HXW o1 o2 o3 o4 o5 o6 oe1 ok1 oi1 oe2 ok2 oi2 hw3;go_wp2_with fail;rw[<- HW3.out];go_region
    go_wp2_with fail;have mA:=zA.set4 (F:=λk=>k=w.heap.size+1) (zA.refl _ w3) (R:=w.heap.size+1) (.inr rfl) (.bool A.leaf) (.slice ea1 A.entries.length ec1) (.slice ka1 A.keys.length kc1) (.slice ia1 A.kids.length ic1);have hA:=HRA.out.set4 (.bool A.leaf) (.slice ea1 A.entries.length ec1) (.slice ka1 A.keys.length kc1) (.slice ia1 A.kids.length ic1);have hB0:=HRB.out.mods mA (by omega);have hB:=hB0.set4 (.bool B.leaf) (.slice ea2 B.entries.length ec2) (.slice ka2 B.keys.length kc2) (.slice ia2 B.kids.length ic2);have mB:=zA.set4 (F:=λk=>k=w.heap.size+1+1) (zA.refl _ ((((w3.setCell ⟨w.heap.size+1,0,none⟩ (.bool A.leaf)).setCell ⟨w.heap.size+1,1,none⟩ (.slice ea1 A.entries.length ec1)).setCell ⟨w.heap.size+1,2,none⟩ (.slice ka1 A.keys.length kc1)).setCell ⟨w.heap.size+1,3,none⟩ (.slice ia1 A.kids.length ic1))) (R:=w.heap.size+1+1) (.inr rfl) (.bool B.leaf) (.slice ea2 B.entries.length ec2) (.slice ka2 B.keys.length kc2) (.slice ia2 B.kids.length ic2);have hA2:=hA.mods mB (by omega);have hx:=(zA.set4 (zA.set4 HMM.out (R:=w.heap.size+1) (.inl (by omega)) (.bool A.leaf) (.slice ea1 A.entries.length ec1) (.slice ka1 A.keys.length kc1) (.slice ia1 A.kids.length ic1)) (R:=w.heap.size+1+1) (.inl (by omega)) (.bool B.leaf) (.slice ea2 B.entries.length ec2) (.slice ka2 B.keys.length kc2) (.slice ia2 B.kids.length ic2)).drew;obtain⟨o1,o2,o3,o4,o5,o6⟩:=HO.out;have f1:=λg hg=>(o1.lt g hg).1
    have f2:=λg hg=>(o2.lt g hg).1
    have f3:=λg hg=>(o3.lt g hg).1
    have f4:=λg hg=>(o4.lt g hg).1
    have f5:=λg hg=>(o5.lt g hg).1
    have f6:=λg hg=>(o6.lt g hg).1
    have o1:=(((o1.mods mA (λg hg=>by have:=f1 g hg;omega)).mods mB (λg hg=>by have:=f1 g hg;omega)).rebase (base':=w.heap.size) (by omega)).ext (zA.refl _ _).drew;have o2:=(((o2.mods mA (λg hg=>by have:=f2 g hg;omega)).mods mB (λg hg=>by have:=f2 g hg;omega)).rebase (base':=w.heap.size) (by omega)).ext (zA.refl _ _).drew;have o3:=(((o3.mods mA (λg hg=>by have:=f3 g hg;omega)).mods mB (λg hg=>by have:=f3 g hg;omega)).rebase (base':=w.heap.size) (by omega)).ext (zA.refl _ _).drew;have o4:=(((o4.mods mA (λg hg=>by have:=f4 g hg;omega)).mods mB (λg hg=>by have:=f4 g hg;omega)).rebase (base':=w.heap.size) (by omega)).ext (zA.refl _ _).drew;have o5:=(((o5.mods mA (λg hg=>by have:=f5 g hg;omega)).mods mB (λg hg=>by have:=f5 g hg;omega)).rebase (base':=w.heap.size) (by omega)).ext (zA.refl _ _).drew;have o6:=(((o6.mods mA (λg hg=>by have:=f6 g hg;omega)).mods mB (λg hg=>by have:=f6 g hg;omega)).rebase (base':=w.heap.size) (by omega)).ext (zA.refl _ _).drew;refine bodyPost_ret (zAb rfl _ _ (w.heap.size+1) (w.heap.size+1+1) 174 174 _ _ _ rfl hA2.drew rfl hB.drew rfl Tryz.underlying174 rfl Tryz.nodeSz rfl) rfl ?_;exact⟨hx,.inl ⟨_,_,_,HBB.out,rfl,⟨_,_,_,rfl,o1,o2,o3⟩,⟨_,_,_,rfl,o4,o5,o6⟩⟩⟩
 .have HN:Hid (zEI n=none):=oh (zOq (by rw[<- HM.out];exact hcut));have r0:=hR1.cell (o:=0) rfl;have r1:=hR1.cell (o:=1) rfl;have r2:=hR1.cell (o:=2) rfl;have r3:=hR1.cell (o:=3) rfl;have rf:=hR1.frozen;have s0:=hR2.cell (o:=0) rfl;have s1:=hR2.cell (o:=1) rfl;have s2:=hR2.cell (o:=2) rfl;have s3:=hR2.cell (o:=3) rfl;have sf:=hR2.frozen;have hA:=hR1.set4 (.bool false) (.slice none 0 0) (.slice none 0 0) (.slice none 0 0);have mA:=zA.set4 (F:=λk=>k=w.heap.size+1) (zA.refl _ w1) (R:=w.heap.size+1) (.inr rfl) (.bool false) (.slice none 0 0) (.slice none 0 0) (.slice none 0 0);have hB:=(hR2.mods mA (by omega)).set4 (.bool false) (.slice none 0 0) (.slice none 0 0) (.slice none 0 0);have mB:=zA.set4 (F:=λk=>k=w.heap.size+1+1) (zA.refl _ ((((w1.setCell ⟨w.heap.size+1,0,none⟩ (.bool false)).setCell ⟨w.heap.size+1,1,none⟩ (.slice none 0 0)).setCell ⟨w.heap.size+1,2,none⟩ (.slice none 0 0)).setCell ⟨w.heap.size+1,3,none⟩ (.slice none 0 0))) (R:=w.heap.size+1+1) (.inr rfl) (.bool false) (.slice none 0 0) (.slice none 0 0) (.slice none 0 0);have HA2:=oh (hA.mods mB (by omega));have HB2:=oh hB;have HX2:=oh (zA.set4 (zA.set4 (HM0.out.trans HX1.out) (R:=w.heap.size+1) (.inl (by omega)) (.bool false) (.slice none 0 0) (.slice none 0 0) (.slice none 0 0)) (R:=w.heap.size+1+1) (.inl (by omega)) (.bool false) (.slice none 0 0) (.slice none 0 0) (.slice none 0 0));clear hR1 hR2 hA mA hB mB;by_cases hr:zO n=true
  .have hev:ev=.nilIface:=by
    have:zCB n=none:=by unfold zCB;rw[if_pos hr]
    rw[this] at hE;exact hE
   subst hev;have hM0:M=0:=by
    rcases Nat.eq_zero_or_pos M with h|h
    .exact h
    .exact absurd ⟨hr,h⟩ hcut
   have hgo:=HT.out.1 hM0;clear hE hcut hr;go_wp2_with fail;refine bodyPost_ret (zAb rfl _ _ (w.heap.size+1) (w.heap.size+1+1) 174 174 _ _ _ rfl HA2.out rfl HB2.out rfl Tryz.underlying174 rfl Tryz.nodeSz rfl) rfl ?_;exact⟨HX2.out,.inr ⟨HN.out,rfl⟩⟩
  .have hev:zCB n=some ([-1],1):=by unfold zCB;rw[if_neg hr]
   rw[hev] at hE;obtain⟨fb,rfl,_⟩:=hE;clear hcut hr hev;go_wp2_with fail;refine bodyPost_ret (zAb rfl _ _ (w.heap.size+1) (w.heap.size+1+1) 174 174 _ _ _ rfl HA2.out rfl HB2.out rfl Tryz.underlying174 rfl Tryz.nodeSz rfl) rfl ?_;exact⟨HX2.out,.inr ⟨HN.out,rfl⟩⟩
end
end
end Go.Proofs.YteabpacpngaoaaaGreatDoor
