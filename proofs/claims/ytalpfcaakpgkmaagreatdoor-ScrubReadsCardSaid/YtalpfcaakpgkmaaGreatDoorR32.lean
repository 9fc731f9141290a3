import Derived.Test.YtalpfcaakpgkmaaGreatDoorR31
import Derived.Maps.OwnOps
import Derived.Maps.Views
import Derived.IntWalk
namespace Go.Proofs.YtalpfcaakpgkmaaGreatDoor
open Lib renaming hid->oh
section
open Go.RowKit
attribute [local go_sem ↓] Go.wp_at_zero Go.wp_at_succ
def zJt(x:Int × Nat):List Value:=[.int .i64 x.1,.int .i64 (x.2:Int)]
theorem zIV:zCx zJt 2:=⟨λ_=>rfl,by intro x u hu;simp[zJt] at hu;rcases hu with rfl|rfl <;> rfl⟩
theorem Tryz.mkSt:(Tryz.prog.info? 289).map (λi=>(i.zero,i.size,i.bytes))=some (some (.agg #[.int .i64 0,.int .i64 0]),2,16):=by kernel_rfl
theorem Tryz.elSt:ElT Tryz.prog 197 289 (.agg #[.int .i64 0,.int .i64 0]) 2 16:=⟨Tryz.underlying197,Tryz.mkSt,rfl,by decide,by decide⟩
theorem zQj{F2:NP}{w2 w4:World}{b off:Nat}{l:List Int}(h:l=[]\/∃b' off',some (⟨b,off,none⟩:Addr)=some ⟨b',off',none⟩/\b'<w2.heap.size/\¬ F2 b'/\∀i x,l[i]? = some x->∀j u,(yI x)[j]? = some u->w2.cell? ⟨b',off'+i * 1+j,none⟩=some u)(m:zA F2 w2 w4){k:Nat}(hk:k<l.length){z:Int}(hz:z=l[k]) :
  w4.cell? ⟨b,off+k,none⟩=some (.int .i64 z):=by
 obtain⟨b',off',At,_,_,hc⟩:=Sl.at h m (λ_ _ h=>h) k hk;injection At with At;injection At with h1 h2;subst h1 h2;have:=hc 0 (.int .i64 l[k]) rfl;rw[hz];simpa using this
def zRj(F:NP)(ad:Nat->Addr)(w':World)(r:(List (Int × Nat) × zI) ⊕ Err)(e:Ending):Prop :=
 match r with
 | .inl (st,n)=>∃sv ve vk vi,e=.returned (.tuple #[sv,.agg #[.bool n.leaf,ve,vk,vi],.nilIface])/\Sl F w' 2 zJt sv st/\Sl F w' 4 zAQ ve n.entries/\Sl F w' 1 vW vk n.keys/\Sl F w' 1 yI vi n.kids
 | .inr (l,k)=>∃f,e=.returned (.tuple #[.slice none 0 0,zSD,zP f])/\vN F ad w' (zP f) l k
theorem zQk{n:zI}(hr:zO n=true)(hl:n.leaf=false)(key:ByteArray):(zAN n key).1<n.kids.length:=by
 rw[zEu hl];have:=(zB2 hr hl).2.1;have h2:vZ key n.keys<=n.keys.length:=List.findIdx_le_length;simp only;omega
theorem zBf{P:Program}{fn:Func}{p u q:Tmp}{ty:TypeId}(h:fn.results=#[.tmp q,.cell p ty,.tmp u])(tmps:Array Value)(w:World)(g:Nat)(t:TypeId)(cs:Array Value)(d:TypeDesc)
  (hp:tmps.getD p undef=.pointer (some ⟨g,0,none⟩)) (hg:zG w g cs t)
  (hu:P.underlying ty=some d) (hd:(match d with | .struct _ | .array _ _=>true|_=>false)=true) (hi:(P.info? ty).map (·.size)=some cs.size) :
  (results fn tmps).run P w=.ok (.tuple #[tmps.getD q undef,.agg cs,tmps.getD u undef]) w:=by
 have hg':w.heap[g]? = some (.cells cs t (0,0)):=hg;have e:(results fn tmps).run P w=((asAddr (tmps.getD p undef)).run P w).andThen λa w₁=>((loadVar ty a).run P w₁).andThen λv w₂=>.ok (.tuple #[tmps.getD q undef,v,tmps.getD u undef]) w₂:=by
  simp only[results,h];simp[Sem.run_bind,Result.andThen]
 rw[e,hp];simp[asAddr,run_loadVar_row w g t ty cs (0,0) d hg' hu hd hi]
section
variable {P P' P1 P2 F F' F1 F2 Q:NP}{ad:Nat->Addr}{w w' wr w2:World}{c s:Nat}{G:GA}{l:List Nat}{v v':Value}{st st':List (Int × Nat)}{gen:Nat}
theorem jK.anti[zQ](h:jK F w P c s G l)(hQ:∀k,Q k->F k):jK Q w P c s G l :=
 h.plus (Q:=λ_=>False) (zss w) (λ_ _ f=>f) (λ_ f=>f.elim) (λk _ hn hq=>hn (hQ k hq))
theorem zX.least(n:zX P P' F F' ad w w'):zX P P' F (λk=>F k\/P' k) ad w w' :=
 ⟨n.stp,λ_ h=>.inr h,λ_ h=>.inl h,λk hk h=>h.elim id (λh=>n.oldF k hk (n.sub k h)),n.env.anti (λk h=>h.elim (n.grow k) (n.sub k))⟩
structure FiS[zQ](F P:NP)(ad:Nat->Addr)(w:World)(c s gen:Nat)(G:GA)(l:List Nat)(F1 P1:NP)(wr:World)(v:Value)(st:List (Int × Nat)):Prop where
 pg:jK F1 wr P1 c s G l
 nx:zX P P1 F F1 ad w wr
 row:zDp w F1 P1 wr 289 2 zJt v st
 box:zG wr w.heap.size (gP c s gen) 117
 boxP:¬ P1 w.heap.size
 res:zG wr (w.heap.size+1) gB 200
 resP:¬ P1 (w.heap.size+1)
 resF:F1 (w.heap.size+1)
theorem FiS.nxt[zQ](h:FiS F P ad w c s gen G l F1 P1 wr v st)(n:zX P1 P2 F1 F2 ad wr w2)(g:jK F2 w2 P2 c s G l):FiS F P ad w c s gen G l F2 P2 w2 v st :=
 ⟨g,h.nx.trans n,h.row.nxt n,n.blk h.box h.boxP,n.not h.box.lt h.boxP,n.blk h.res h.resP,n.not h.res.lt h.resP,n.grow _ h.resF⟩
theorem FiS.ext[zQ](h:FiS F P ad w c s gen G l F1 P1 wr v st)(m:zF wr w2):FiS F P ad w c s gen G l F1 P1 w2 v st :=
 h.nxt (zX.ext h.nx.env h.nx.sub m) (h.pg.at m)
theorem FiS.app[zQ](h:FiS F P ad w c s gen G l F1 P1 wr v st)(ho:yC (λ_=>False) w2 w.heap.size 289 2 zJt v' st')(m:zA (λk=>v.ownBlock=some k) wr w2)(Be:v'.ownBlock=v.ownBlock\/v'.ownBlock=some wr.heap.size) :
  FiS F P ad w c s gen G l (zG6 F1 v') P1 w2 v' st':=by
 obtain⟨n,r⟩:=zDp.app h.nx h.row ho m Be (uD _);exact⟨h.pg.app h.row m Be (uD _),n,r,h.box.mods m (λe=>yC.notB h.row.1 h.box (by decide) _ e rfl),h.boxP,h.res.mods m (λe=>yC.notB h.row.1 h.res (by decide) _ e rfl),h.resP,.inl h.resF⟩
end
end
section
open Go.RowKit Go.Maps
attribute [local go_sem ↓] Go.wp_at_zero Go.wp_at_succ
def zGF(i:Int):Prop:=(Lit.int .i64 i).wf=true
def zCg(w:World)(mb:Nat)(ps:List Int):Prop :=
 ∃D:DataW Unit,w.ownsMap Tryz.prog 3 (plainElem Tryz.prog 3) mb ps.length D/\IsMap D/\∀i,D.atKey (.int .i64 i) (.lit (.int .i64 0))=.lit (.int .i64 (if i∈ps then 1 else 0))
section
variable {F P P' F' P1 F1:NP}{ad:Nat->Addr}{w w' w0:World}{c s gen kb mb:Nat}{G:GA}{l:List Nat}{pv kv pv' kv':Value}{st st':WkS}{ps:List Int}
theorem zCg.made(w:World):zCg (w.alloc (.map #[] 0)) w.heap.size [] :=
 ⟨.map [],World.ownsMap_made w _ _ _,isMap_empty,λ_=>rfl⟩
theorem zCg.lt(h:zCg w mb ps):mb<w.heap.size:=by obtain⟨D,h,_⟩:=h;exact h.lt
theorem zCg.mods{Q:NP}(h:zCg w mb ps)(m:zA Q w w')(hq:¬ Q mb):zCg w' mb ps:=by
 obtain⟨D,⟨es,clock,h1,h2⟩,h3⟩:=h;exact⟨D,⟨es,clock,(m.block mb (tC.1 h1).1 hq).trans h1,h2⟩,h3⟩
theorem zCg.put{D:DataW Unit}{i:Int}(h:∀j,D.atKey (.int .i64 j) (.lit (.int .i64 0))=.lit (.int .i64 (if j∈ps then 1 else 0)))(hD:IsMap D) :
  ∀j,(D.put (.int .i64 i) (.lit (.int .i64 1))).atKey (.int .i64 j) (.lit (.int .i64 0))=.lit (.int .i64 (if j∈ps++[i] then 1 else 0)):=by
 intro j;by_cases hj:j=i
 .subst hj;rw[atKey_put_same hD (by trivial),if_pos (by simp)]
 .rw[atKey_put_other (by intro e;injection e with _ e;exact hj e),h j];by_cases hm:j∈ps
  .rw[if_pos hm,if_pos (by simp[hm])]
  .rw[if_neg hm,if_neg (by simp[hm,hj])]
theorem Tryz.seenU:Tryz.prog.underlying 99 = some (.map 3 3):=by kernel_rfl
theorem Tryz.intKeyed:Keyed Tryz.prog 3:=int_keyed Tryz.underlying3
theorem Tryz.intZero(w:World):(zeroValue 3).run Tryz.prog w=.ok (.int .i64 0) w:=by kernel_rfl
theorem zG.notM{cs:Array Value}{t:TypeId}{b:Nat}(h:zG w b cs t)(hs:zCg w mb ps):b≠mb:=by
 obtain⟨D,⟨es,clock,h1,_⟩,_⟩:=hs;rintro rfl;have h2:w.heap[b]? = some (.cells cs t (0,0)):=h;rw[h1] at h2;cases h2
theorem yC.notM{α:Type}{Q:NP}{base sz:Nat}{e:TypeId}{enc:α->List Value}{v:Value}{x:List α}(h:yC Q w base e sz enc v x)(hs:zCg w mb ps):∀g,v.ownBlock=Option.some g->g≠mb:=by
 obtain⟨D,⟨es,clock,h1,_⟩,_⟩:=hs;rintro g hg rfl;rcases h.1.2 with ⟨rfl,_⟩|⟨g',cap,cur,rfl,_,hg',_⟩
 .simp[Value.ownBlock] at hg
 .simp[Value.ownBlock] at hg;subst hg;rw[h1] at hg';cases hg'
theorem yC.notO{α β:Type}{Q Q':NP}{base base' sz sz':Nat}{e e':TypeId}{enc:α->List Value}{enc':β->List Value}{v v':Value}{x:List α}{x':List β}(h:yC Q w base e sz enc v x)(h':yC Q' w base' e' sz' enc' v' x')(A0:e≠e'):∀g,v.ownBlock=Option.some g->v'.ownBlock≠Option.some g:=by
 intro g hg Au;rcases h.1.2 with ⟨rfl,_⟩|⟨g1,cap,cur,rfl,_,k1,_⟩
 .simp[Value.ownBlock] at hg
 .rcases h'.1.2 with ⟨rfl,_⟩|⟨g2,cap2,cur2,rfl,_,k2,_⟩
  .simp[Value.ownBlock] at Au
  .simp[Value.ownBlock] at hg Au;subst hg Au;rw[k1] at k2;injection k2 with k2;injection k2 with _ k2;exact A0 k2
end
end
section
open Go.RowKit
theorem zPK(e:zM):((zAc e).length:Int)=zAB e:=by
 unfold zAc zAB;by_cases h:e.chain=0
 .rw[if_pos h,if_pos h];simp only[uC,zD,zCL];omega
 .rw[if_neg h,if_neg h];simp only[uC,zD,zCL];omega
theorem zJu:∀l:List zM,((l.flatMap zAc).length:Int)=yM l
 | []=>rfl
 | e :: l=>by
  rw[wQ,uC,yM,<- zJu l,<- zPK e];omega
theorem zJv:∀(l:List ByteArray) (k:List Int),l.length<=k.length->(((l.zip k).flatMap zAz).length:Int)=yW l
 | [],_,_=>rfl
 | s :: l,[],h=>by simp at h
 | s :: l,c :: k,h=>by
  rw[List.zip_cons_cons,wQ,uC,yW,<- zJv l k (by simpa using h)];unfold zAz;rw[uC,zCL,zD];simp only;omega
def zBB(n:zI):Prop:=if n.leaf=true then n.keys=[]/\n.kids=[] else n.entries=[]/\n.kids.length=n.keys.length+1
theorem zA3{n:zI}(h:zBB n):zH n=((yE n).length:Int):=by
 unfold zBB at h;unfold zH yE;cases hl:n.leaf with
 | true =>
  rw[if_pos hl] at h;simp only[tU];rw[h.1,uC,zD];have:=zJu n.entries;simp only[yW];omega
 | false =>
  rw[if_neg (by rw[hl];simp)] at h;simp only[wI,tX];rw[h.1,uC,uC,zD,zD];have:=zJv n.keys n.kids.tail (by rw[List.length_tail];omega);simp only[yM];omega
theorem vB{n:zI}(h:zO n=true):zBB n:=by
 unfold zBB;unfold zO at h;cases hl:n.leaf with
 | true =>
  rw[if_pos hl] at h;simp only[uI,wR] at h;rw[if_pos rfl];exact⟨h.1.1.1.2,h.1.1.2⟩
 | false =>
  rw[if_neg (by rw[hl];simp)] at h;simp only[uI,wR,uO] at h;rw[if_neg (by simp)];exact⟨h.1.1.1.1.1.1.1,h.1.1.1.1.1.2⟩
theorem zKl(l:List zM)(k:Nat):yM (l.drop k)<=yM l:=by
 have:=zAK (l.take k) (l.drop k);rw[uZ] at this;have:=zAe (l.take k);omega
theorem zKm(l:List ByteArray)(k:Nat):yW (l.drop k)<=yW l:=by
 have:=jP (l.take k) (l.drop k);rw[uZ] at this;have:=zAt (l.take k);omega
structure zBV(n:zI)(a:Nat):Prop where
 leaf:n.leaf=true->1<=a/\a<n.entries.length
 inner:n.leaf=false->2<=a/\a+1<n.kids.length
theorem zLz{n:zI}{a:Nat}(h1:vJ n<=a)(h2:a<vJ n+jT n):zBV n a:=by
 unfold vJ at h1 h2;unfold jT at h2;constructor
 .intro hl;simp only[hl,tU] at h1 h2;omega
 .intro hl;simp only[hl,wI,tX] at h1 h2;omega
section
variable {n:zI}{a:Nat}
theorem zCh(hl:n.leaf=true):(zW n a).1=⟨true,n.entries.take a,[],[]⟩:=by unfold zW;rw[if_pos hl]
theorem zCi(hl:n.leaf=true):(zW n a).2.2=⟨true,n.entries.drop a,[],[]⟩:=by unfold zW;rw[if_pos hl]
theorem zC5(hl:n.leaf=false):(zW n a).1=⟨false,[],n.keys.take (a-1),n.kids.take a⟩:=by unfold zW;rw[if_neg (by rw[hl];simp)]
theorem zC6(hl:n.leaf=false):(zW n a).2.2=⟨false,[],n.keys.drop a,n.kids.drop a⟩:=by unfold zW;rw[if_neg (by rw[hl];simp)]
theorem zL0:(zW n a).1.leaf=n.leaf:=by
 cases hl:n.leaf
 .rw[zC5 hl]
 .rw[zCh hl]
theorem zL1:(zW n a).2.2.leaf=n.leaf:=by
 cases hl:n.leaf
 .rw[zC6 hl]
 .rw[zCi hl]
theorem zIW(h:zBB n)(hp:zBV n a):zBB (zW n a).1/\zBB (zW n a).2.2:=by
 unfold zBB at h;cases hl:n.leaf with
 | true =>
  rw[zCh hl,zCi hl];exact⟨⟨rfl,rfl⟩,⟨rfl,rfl⟩⟩
 | false =>
  rw[if_neg (by rw[hl];simp)] at h;have:=hp.inner hl;rw[zC5 hl,zC6 hl];unfold zBB;simp only[wI,tX,wB,wN,true_and];omega
theorem zKn:zH (zW n a).1<=zH n/\zH (zW n a).2.2<=zH n:=by
 have e1:=zAe n.entries;have e2:=zBv n.entries a;have e3:=zKl n.entries a;have e4:=zAt n.keys;have e5:=zC2 n.keys (a-1);have e6:=zKm n.keys a;cases hl:n.leaf with
 | true =>
  rw[zCh hl,zCi hl];unfold zH;simp only[hl,tU,yW];omega
 | false =>
  rw[zC5 hl,zC6 hl];unfold zH;simp only[hl,wI,tX,yM];omega
theorem zIX(n:zI):2<=zH n:=by
 have e1:=zAe n.entries;have e4:=zAt n.keys;unfold zH;split <;> omega
theorem zRk(h:zBB n)(hp:zBV n a):(zHd (zW n a).1:Int)=zH (zW n a).1:=(zA3 (zIW h hp).1).symm
theorem zRl(h:zBB n)(hp:zBV n a):(zHd (zW n a).2.2:Int)=zH (zW n a).2.2:=(zA3 (zIW h hp).2).symm
theorem zDu(h:zBB n)(hp:zBV n a):(zA0 n a:Int)=if zH (zW n a).1-zH (zW n a).2.2<0 then -(zH (zW n a).1-zH (zW n a).2.2) else zH (zW n a).1-zH (zW n a).2.2:=by
 unfold zA0;rw[zRk h hp,zRl h hp];split <;> omega
end
end
section
open Go.RowKit
attribute [local go_sem ↓] Go.wp_at_zero Go.wp_at_succ
def zBW(n:zI):Int:=if n.leaf=true then 3 else 2
def zCt(n:zI)(size:Nat):Prop:=zO n=true/\zH n<=(size:Int)-24
instance (n:zI) (size:Nat):Decidable (zCt n size):=by unfold zCt;exact inferInstance
def qU(G:GA)(l:List Nat)(old:Nat)(n:zI):Option Nat:=if zCt n G.size then jD l old else none
def yQ(G:GA)(l:List Nat)(gen old:Nat)(n:zI):GA:=match qU G l old n with
 | none=>G
 | some i=>(qT G l old).put ⟨zBW n,(i:Int),gen,yE n⟩
def yY(G:GA)(l:List Nat)(old:Nat)(n:zI):List Nat:=if zCt n G.size then jC l old else l
def zBX(G:GA)(n:zI):Nat:=if zCt n G.size then 3 else 1
def zQm(ad:Nat->Addr)(o:Option Nat)(k:Nat)(F':NP)(w':World)(e:Ending):Prop :=
 (∃i,o=some i/\e=.returned (.tuple #[.int .i64 (i:Int),.nilIface]))\/(o=none/\∃f el,e=.returned (.tuple #[.int .i64 0,zP f])/\vN F' ad w' (zP f) el k)
theorem zQm.form{ad:Nat->Addr}{o:Option Nat}{k:Nat}{F':NP}{w':World}{e:Ending}(h:zQm ad o k F' w' e):∃iv ev,e=.returned (.tuple #[iv,ev]):=by
 rcases h with ⟨i,_,h⟩|⟨_,f,_,h,_⟩
 .exact⟨_,_,h⟩
 .exact⟨_,_,h⟩
theorem zJw{l:List Nat}{old i:Nat}(h:jD l old=some i):i<l.length:=by
 unfold jD at h;split at h
 .rename_i h1;injection h with h;subst h;have:=h1.2;unfold vS at this;simp only[uI,uO,uH] at this;exact (uA.1 this.2).1
 .exact (zAP h).2
theorem zPL{l:List Nat}{old i:Nat}(ho:zHg l old)(h:jD l old=some i):(jC l old)[i]? = some 2:=by
 unfold jD at h;unfold jC;split at h
 .rename_i h1;injection h with h;subst h;rw[if_neg h1.1,if_pos h1.2];have:=h1.2;unfold vS at this;simp only[uI,uO,uH] at this;exact this.2
 .rename_i h1;obtain⟨h0,hi⟩:=zAP h;by_cases e:old=0
  .rw[if_pos e];unfold zA1;rw[h];exact wH hi
  .have hf:vS l old≠true:=λhf=>h1 ⟨e,hf⟩
   rw[if_neg e,if_neg hf,h];simp only;have A0:old≠i:=λe2=>by
    rcases ho with ho|ho|ho
    .exact e ho
    .rw[e2,h0] at ho;simp at ho
    .rw[e2,h0] at ho;simp at ho
   have hs:(l.set i 2)[i]? = some 2:=wH hi;unfold yT;split
   .exact hs
   .split
    .simp only[uH];rw[uS A0];exact hs
    .split
     .simp only[uH];rw[uS A0];exact hs
     .exact hs
theorem zL2{G:GA}{l:List Nat}{old:Nat}(h:jD l old=none):qT G l old=G:=by
 unfold jD at h;unfold qT;split at h
 .cases h
 .rw[if_pos h];split <;> rfl
theorem zEJ(G:GA)(l:List Nat)(old:Nat):(qT G l old).size=G.size/\(qT G l old).blocks=G.blocks/\(qT G l old).cost=G.cost:=by
 unfold qT;split
 .exact⟨rfl,rfl,rfl⟩
 .split <;> exact⟨rfl,rfl,rfl⟩
section
variable {P P' F F':NP}{ad:Nat->Addr}{w w':World}{c s:Nat}{G:GA}{l:List Nat}
set_option maxRecDepth 100000 in
set_option maxHeartbeats 1000000 in
theorem zGG[zQ](hL:yH F ad w)(hP:∀k,P k->F k)(h:jK F w P c s G l)(gen old:Nat)(Av:gen<18446744073709551616)(n:zI)(ve vk vi:Value)(Aw:Sl F w 4 zAQ ve n.entries)(Ax:Sl F w 1 vW vk n.keys)(Bf:Sl F w 1 yI vi n.kids)
  (A7:zO n=true->(yE n).length<=100000) (Bg:zHg l old) (Ao:old=0\/2<=old) (Bz:old<256) (Cr:l.length<=G.blocks) (C0:G.cost<1000000) :
  Calls Tryz.prog 147 #[pgV c s gen,.int .i64 (old:Int),.agg #[.bool n.leaf,ve,vk,vi]] w (zCH F P ad w c s (yQ G l gen old n) (yY G l old n) (zQm ad (qU G l old n) (zBX G n))):=by
 have m0:zF w ((w.alloc (gP c s gen)).alloc (.cells #[.bool n.leaf,ve,vk,vi] 200)):=((zss w).alloc _).alloc _;have C1:=oh ((zG.new w (gP c s gen) 117).alloc (.cells #[.bool n.leaf,ve,vk,vi] 200));have C2:Hid (zG ((w.alloc (gP c s gen)).alloc (.cells #[.bool n.leaf,ve,vk,vi] 200)) (w.heap.size+1) #[.bool n.leaf,ve,vk,vi] 200):=oh (zS (by simp));have hx:=hL.mods m0.ext;have Ay:=oh (zEx hx n ve vk vi (Aw.ext m0) (Ax.ext m0) (Bf.ext m0) A7);have C3:=oh m0;have HP:=oh hP;have HG:=oh (h.at m0);have HL:=oh hx;have C4:=oh hL;have Bh:Hid (zX P P F F ad w _):=oh (zX.ext hL hP m0);have C5:Hid (¬ P w.heap.size/\¬ P (w.heap.size+1)):=oh ⟨λhp=>by have:=h.bd _ hp;omega,λhp=>by have:=h.bd _ hp;omega⟩;have Bi:=oh Bg;have Ae:=oh h.lim;have Az:=oh A7;have C6:Hid (zO n=true->∀W,zF w W -> Calls Tryz.prog 232 #[.agg #[.bool n.leaf,ve,vk,vi],.int .i64 (G.size:Int)] W λe w'=>e=.returned (.bool (decide (zH n<=(G.size:Int)-24)))/\zF W w'):=oh (λhr W m=>zEz n ve vk vi W (Aw.ext m) (Ax.ext m) (by
  rw[zA3 (vB hr)];have:=A7 hr;omega) _ (by omega) (by have:=h.lim;omega))
 have Bj:=oh (λW (m:zF w W)=>zEE (h.at m) gen);obtain⟨ea,ec,rfl,_,_,_,_⟩:=Aw;obtain⟨ka,kc,rfl,_,_,_,_⟩:=Ax;obtain⟨ia,ic,rfl,_,_,_,_⟩:=Bf;clear hL hP h m0 Bg A7 hx;unfold pgV at Bj ⊢
 go_enter Tryz.func147, Tryz.ntmps147
 go_wp2_with fail;refine Ay.out.mono ?_;rintro e w1 ⟨A8,⟨hr,a,cc,rfl,hO⟩|⟨hr,f,rfl,hE⟩⟩
 .have Bk:=oh (C3.out.trans A8);have HR:=oh hr;have HO:=oh hO;have Ap:=oh (C1.out.ext A8);have Af:=oh (C2.out.ext A8);have Ac:=oh (Bh.out.trans (zX.ext HL.out HP.out A8));have B0:=oh (HG.out.at A8);have b0:=Ap.out.k 0 rfl;have b1:=Ap.out.k 1 rfl;have b2:=Ap.out.k 2 rfl;have n0:=Af.out.k 0 rfl;have n1:=Af.out.k 1 rfl;have n2:=Af.out.k 2 rfl;have n3:=Af.out.k 3 rfl;clear A8 hr hO;go_wp2_with fail;go_region_held3 (λw'=>w'.cell? ⟨w.heap.size+1,0,none⟩=some (.bool n.leaf)/\w'.cell? ⟨w.heap.size+1,1,none⟩=some (.slice ea n.entries.length ec)/\w'.cell? ⟨w.heap.size+1,2,none⟩=some (.slice ka n.keys.length kc)/\w'.cell? ⟨w.heap.size+1,3,none⟩=some (.slice ia n.kids.length ic) /\
    w'.cell? ⟨w.heap.size,0,none⟩=some (.pointer (some ⟨c,0,none⟩))/\w'.cell? ⟨w.heap.size,1,none⟩=some (.pointer (some ⟨s,0,none⟩))/\w'.cell? ⟨w.heap.size,2,none⟩=some (.int .u64 (gen:Int)))
   (first|(with_reducible exact⟨n0,n1,n2,n3,b0,b1,b2⟩)|(with_reducible exact⟨y0,y1,y2,y3,d0,d1,d2⟩)|(with_reducible exact⟨z0,z1,z2,z3,f0,f1,f2⟩)|go_keep)
   (first
    | (go_at_call 233;(with_reducible refine (Bj.out _ Bk.out.drew).mono ?_);rintro e w2 ⟨rfl,A9⟩;have y0:=zE A9 n0;have y1:=zE A9 n1;have y2:=zE A9 n2;have y3:=zE A9 n3;have d0:=zE A9 b0;have d1:=zE A9 b1;have d2:=zE A9 b2)
    | (go_at_call 232;refine (C6.out HR.out _ (Bk.out.drew.trans A9)).mono ?_;rintro e w3 ⟨rfl,A4⟩;have z0:=zE A4 y0;have z1:=zE A4 y1;have z2:=zE A4 y2;have z3:=zE A4 y3;have f0:=zE A4 d0;have f1:=zE A4 d1;have f2:=zE A4 d2)
    | fail)
  have Ag:Hid (zF w1 w2):=oh ((zss w1).drew.trans A9);have C7:=oh (Ag.out.trans A4);have Aq:=oh (Ap.out.ext (Ag.out.trans A4));have C8:=oh (Af.out.ext (Ag.out.trans A4));have Aa:=oh (Ac.out.trans (zX.ext Ac.out.env Ac.out.sub (Ag.out.trans A4)));have Bl:=oh (B0.out.at (Ag.out.trans A4));have b0:=Aq.out.k 0 rfl;have b1:=Aq.out.k 1 rfl;have b2:=Aq.out.k 2 rfl;have g1:=Aa.out.env.c1;clear A4;cases A5:decide (zH n<=(G.size:Int)-24) with
  | false =>
   have HD:Hid (¬ zCt n G.size):=oh (λhd=>by rw[wL hd.2] at A5;cases A5);clear A5;go_wp2_with fail;refine (zAF Aa.out.env _ (old:Int) _ [] 1 (.sent 1 (by decide) (by decide))).mono ?_;rintro e w4 ⟨f,rfl,hE,Bm⟩;have HE:=oh hE;have Bn:=oh Bm;clear hE Bm;go_wp2_with fail;go_ret2
   refine⟨P,F,?_,Aa.out.trans (zX.ext Aa.out.env Aa.out.sub Bn.out),?_⟩
   .have e1:yQ G l gen old n=G:=by unfold yQ qU;rw[if_neg HD.out]
    have e2:yY G l old n=l:=by unfold yY;rw[if_neg HD.out]
    rw[e1,e2];exact Bl.out.at Bn.out
   .have e1:qU G l old n=none:=by unfold qU;rw[if_neg HD.out]
    have e2:zBX G n=1:=by unfold zBX;rw[if_neg HD.out]
    rw[e1,e2];exact .inr ⟨rfl,f,_,rfl,HE.out⟩
  | true =>
   have HD:Hid (zCt n G.size):=oh ⟨HR.out,rR A5⟩;have B1:=zPE Aa.out.env Aa.out.sub Bl.out gen old Bi.out Ao Bz;unfold pgV at B1;have B2:=oh B1;clear A5 B1;go_wp2_with fail;refine B2.out.mono ?_;rintro e w4 ⟨P4,F4,Bo,Ah,C9⟩;have B3:=oh Bo;have Ab:=oh (Aa.out.trans Ah);have B4:¬ P w.heap.size/\¬ P (w.heap.size+1):=C5.out;have Bp:=oh (Ah.blk Aq.out B4.1);have Ca:=oh (Ah.blk C8.out B4.2);have Cb:Hid (Sl F4 w4 1 zZ (.slice a (yE n).length cc) (yE n)):=oh (Ah.sl Aa.out.sub (((HO.out.blocks (G:=F) (λg hg=>by
    have:=(HO.out.lt g hg).1;have A3:=C4.out.lt g;intro hf;have:=A3 hf;simp at *;omega)).sl jN.len (by have:=Az.out HR.out;omega)).ext C7.out))
   clear Bo Ah B4;rcases C9 with ⟨i,hi,rfl⟩|⟨hi,f,rfl,hE⟩
   .have Cc:=zJw hi;have HI:=oh hi;have Bq:Hid (i<G.blocks/\i<256):=oh (by have:=Ae.out;omega);have b0:=Bp.out.k 0 rfl;have b2:=Bp.out.k 2 rfl;have n0:=Ca.out.d 0 (.bool n.leaf) rfl;have Ai:Hid (qU G l old n=some i):=oh (by unfold qU;rw[if_pos HD.out,HI.out]);have B5:Hid (yQ G l gen old n=(qT G l old).put ⟨zBW n,(i:Int),gen,yE n⟩):=oh (by unfold yQ;rw[Ai.out]);have B6:Hid (yY G l old n=jC l old):=oh (by unfold yY;rw[if_pos HD.out]);have Cd:((yE n).length:Int)+24<=(G.size:Int):=by
     have:=HD.out.2;rw[zA3 (vB HR.out)] at this;omega
    have B2:Hid (qE ⟨zBW n,(i:Int),gen,yE n⟩ ((qT G l old).size:Int)=none):=oh (by
     rw[(zEJ G l old).1];unfold qE;have:=Ae.out;rw[if_neg (by unfold zAn;simp;omega),if_neg];have hk:zDD (zBW n)=true:=by unfold zBW;split <;> rfl
     have:=Bq.out;simp only[hk];simp;omega)
    clear hi Cc Cd;cases B7:n.leaf
    all_goals
     rw[B7] at n0;have HK:Hid (zBW n=_):=oh (by unfold zBW;rw[B7]);simp only[wI,tX,tU] at HK;have B8:=oh (λW (m:zF w4 W)=>zSB (Ab.out.env.mods m.ext) Ab.out.sub (B3.out.at m) ⟨zBW n,(i:Int),gen,yE n⟩ _ (Cb.out.ext m) Av ⟨by simp,by rw[(zEJ G l old).2.1];have:=Bq.out;simp;omega⟩ (by simpa using B3.out.fresh (.inr (zPL Bi.out HI.out))) B2.out (by rw[(zEJ G l old).2.2];exact C0));unfold qC at B8;simp only[HK.out] at B8;clear B7;go_wp2_with fail;refine (B8.out _ ?_).mono ?_
     .first|exact zA.refl _ _|exact zr.alloc _
     rintro e w5 ⟨P5,F5,Br,Bs,rfl⟩;have Ce:=oh Br;have Cf:=oh ((Ab.out.trans (zX.ext Ab.out.env Ab.out.sub (by first|exact zA.refl _ _|exact zr.alloc _))).trans Bs);clear Br Bs;go_wp2_with fail;go_ret2
     refine⟨P5,F5,?_,Cf.out,?_⟩
     .rw[B5.out,B6.out,HK.out];exact Ce.out
     .rw[Ai.out];exact .inl ⟨i,rfl,rfl⟩
   .have Ai:Hid (qU G l old n=none):=oh (by unfold qU;rw[if_pos HD.out,hi]);have B5:Hid (yQ G l gen old n=qT G l old):=oh (by unfold yQ;rw[Ai.out,zL2 hi]);have B6:Hid (yY G l old n=jC l old):=oh (by unfold yY;rw[if_pos HD.out]);have Cg:Hid (zBX G n=3):=oh (by unfold zBX;rw[if_pos HD.out]);have HE:=oh hE;clear hi hE;go_wp2_with fail;refine (wrap_any Ab.out.env _ _ _ _ HE.out).mono ?_;rintro e w5 ⟨f5,rfl,Aj,Ak⟩;have B9:=oh Aj;have Al:=oh Ak;clear Aj Ak;go_wp2_with fail;go_ret2
    refine⟨P4,F4,?_,Ab.out.trans (zX.ext Ab.out.env Ab.out.sub Al.out),?_⟩
    .rw[B5.out,B6.out];exact B3.out.at Al.out
    .rw[Ai.out,Cg.out];exact .inr ⟨rfl,f5,_,rfl,B9.out⟩
 .have HD:Hid (¬ zCt n G.size):=oh (λhd=>by rw[hd.1] at hr;cases hr);have HE:=oh hE;have Ac:=oh (Bh.out.trans (zX.ext HL.out HP.out A8));have B0:=oh (HG.out.at A8);clear hE A8 hr;go_wp2_with fail;refine (wrap_any Ac.out.env _ _ _ _ HE.out).mono ?_;rintro e w5 ⟨f5,rfl,Aj,Ak⟩;have B9:=oh Aj;have Al:=oh Ak;clear Aj Ak;go_wp2_with fail;go_ret2
  refine⟨P,F,?_,Ac.out.trans (zX.ext Ac.out.env Ac.out.sub Al.out),?_⟩
  .have e1:yQ G l gen old n=G:=by unfold yQ qU;rw[if_neg HD.out]
   have e2:yY G l old n=l:=by unfold yY;rw[if_neg HD.out]
   rw[e1,e2];exact B0.out.at Al.out
  .have e1:qU G l old n=none:=by unfold qU;rw[if_neg HD.out]
   have e2:zBX G n=1:=by unfold zBX;rw[if_neg HD.out]
   rw[e1,e2];exact .inr ⟨rfl,f5,_,rfl,B9.out⟩
end
end
section
open Go.RowKit
structure Upd(G:GA)(l:List Nat)(A:NP)(G':GA)(l':List Nat)(A':NP):Prop where
 sz:G'.size=G.size
 bl:G'.blocks=G.blocks
 len:l'.length=l.length
 inn:∀i,A' i->(A i/\l'[i]? = l[i]?)\/(l[i]? = some 0/\l'[i]? = some 2)
 gone:∀i,A i->¬ A' i->(l[i]? = some 2/\l'[i]? = some 0)\/(l[i]? = some 1/\l'[i]? = some 3)
 rest:∀i,¬ A i->¬ A' i->l'[i]? = l[i]? /\ (l[i]? ≠ some 0->G'.view i=G.view i)
 keep:∀i,l[i]? = some 1\/l[i]? = some 3->G'.look i=G.look i/\(G'.view i=G.view i\/G'.view i=zHt (G.look i) i)
def zAk(l:List Nat)(A:NP):Prop:=∀i,A i->l[i]? = some 1\/l[i]? = some 2
section
variable {G G1 G2:GA}{l l1 l2:List Nat}{A A1 A2 B:NP}
theorem Upd.refl(G:GA)(l:List Nat)(A:NP):Upd G l A G l A :=
 ⟨rfl,rfl,rfl,λ_ h=>.inl ⟨h,rfl⟩,λ_ h n=>absurd h n,λ_ _ _=>⟨rfl,λ_=>rfl⟩,λ_ _=>⟨rfl,.inl rfl⟩⟩
theorem Upd.iff{A' A1':NP}(h:Upd G l A G1 l1 A1)(h1:∀i,A' i ↔ A i)(h2:∀i,A1' i ↔ A1 i):Upd G l A' G1 l1 A1' :=
 ⟨h.sz,h.bl,h.len,λi hi=>(h.inn i ((h2 i).1 hi)).imp (λx=>⟨(h1 i).2 x.1,x.2⟩) id,λi hi hn=>h.gone i ((h1 i).1 hi) (λx=>hn ((h2 i).2 x)),λi hi hn=>h.rest i (λx=>hi ((h1 i).2 x)) (λx=>hn ((h2 i).2 x)),h.keep⟩
theorem Upd.use(h:Upd G l A G1 l1 A1)(hu:zAk l A):zAk l1 A1:=λi hi=>by
 rcases h.inn i hi with ⟨h1,h2⟩|⟨_,h2⟩
 .rw[h2];exact hu i h1
 .exact .inr h2
theorem Upd.trans(h:Upd G l A G1 l1 A1)(k:Upd G1 l1 A1 G2 l2 A2)(hu:zAk l A):Upd G l A G2 l2 A2:=by
 have Ch:∀i,A1 i->l1[i]? ≠ some 0:=λi hi e=>by
  rcases h.use hu i hi with h1|h1 <;> rw[e] at h1 <;> simp at h1
 have Ci:∀i,A i->l[i]? ≠ some 0:=λi hi e=>by
  rcases hu i hi with h1|h1 <;> rw[e] at h1 <;> simp at h1
 refine⟨k.sz.trans h.sz,k.bl.trans h.bl,k.len.trans h.len,λi hi=>?_,λi hi hn=>?_,λi hi hn=>?_,λi hi=>?_⟩
 .rcases k.inn i hi with ⟨k1,k2⟩|⟨k1,k2⟩
  .rcases h.inn i k1 with ⟨h1,h2⟩|⟨h1,h2⟩
   .exact .inl ⟨h1,k2.trans h2⟩
   .exact .inr ⟨h1,k2.trans h2⟩
  .have Bt:¬ A1 i:=λx=>Ch i x k1
   by_cases ha:A i
   .rcases h.gone i ha Bt with ⟨h1,_⟩|⟨_,h2⟩
    .exact .inl ⟨ha,by rw[k2,h1]⟩
    .rw[k1] at h2;simp at h2
   .have:=(h.rest i ha Bt).1;exact .inr ⟨by rw[<- this];exact k1,k2⟩
 .by_cases h1:A1 i
  .rcases h.inn i h1 with ⟨_,h2⟩|⟨h2,_⟩
   .rw[<- h2];exact k.gone i h1 hn
   .exact absurd h2 (Ci i hi)
  .have k1:=(k.rest i h1 hn).1;rw[k1];exact h.gone i hi h1
 .by_cases h1:A1 i
  .rcases h.inn i h1 with ⟨h2,_⟩|⟨h2,h3⟩
   .exact absurd h2 hi
   .rcases k.gone i h1 hn with ⟨_,k2⟩|⟨k2,_⟩
    .exact⟨by rw[k2,h2],λe=>absurd h2 e⟩
    .rw[h3] at k2;simp at k2
  .obtain⟨k1,k2⟩:=k.rest i h1 hn;obtain⟨h2,h3⟩:=h.rest i hi h1;exact⟨k1.trans h2,λe=>(k2 (by rw[h2];exact e)).trans (h3 e)⟩
 .have Cj:l1[i]? = some 1\/l1[i]? = some 3:=by
   by_cases h1:A1 i
   .rcases h.inn i h1 with ⟨_,h2⟩|⟨h2,_⟩
    .rw[h2];exact hi
    .rcases hi with e|e <;> rw[h2] at e <;> simp at e
   .by_cases ha:A i
    .rcases h.gone i ha h1 with ⟨h2,_⟩|⟨_,h2⟩
     .rcases hi with e|e <;> rw[h2] at e <;> simp at e
     .exact .inr h2
    .rw[(h.rest i ha h1).1];exact hi
  obtain⟨h1,h2⟩:=h.keep i hi;obtain⟨k1,k2⟩:=k.keep i Cj;refine⟨k1.trans h1,?_⟩;rcases k2 with k2|k2
  .rw[k2];exact h2
  .rw[k2,h1];exact .inr rfl
theorem Upd.frame(h:Upd G l A G1 l1 A1)(hB:∀i,B i->¬ A i/\l[i]? ≠ some 0):Upd G l (λi=>A i\/B i) G1 l1 (λi=>A1 i\/B i):=by
 have Ck:∀i,B i->¬ A1 i:=λi hi h1=>by
  rcases h.inn i h1 with ⟨h2,_⟩|⟨h2,_⟩
  .exact (hB i hi).1 h2
  .exact (hB i hi).2 h2
 refine⟨h.sz,h.bl,h.len,λi hi=>?_,λi hi hn=>?_,λi hi hn=>?_,h.keep⟩
 .rcases hi with hi|hi
  .exact (h.inn i hi).imp (λx=>⟨.inl x.1,x.2⟩) id
  .exact .inl ⟨.inr hi,(h.rest i (hB i hi).1 (Ck i hi)).1⟩
 .rcases hi with hi|hi
  .exact h.gone i hi (λx=>hn (.inl x))
  .exact absurd (.inr hi) hn
 .exact h.rest i (λx=>hi (.inl x)) (λx=>hn (.inl x))
theorem Upd.view(h:Upd G l A G1 l1 A1){i:Nat}(h1:¬ A i)(h2:l[i]? ≠ some 0):G1.view i=G.view i/\l1[i]? = l[i]? /\ ¬ A1 i:=by
 have h3:¬ A1 i:=λh3=>by
  rcases h.inn i h3 with ⟨h4,_⟩|⟨h4,_⟩
  .exact h1 h4
  .exact h2 h4
 obtain⟨h4,h5⟩:=h.rest i h1 h3;exact⟨h5 h2,h4,h3⟩
end
def zA4(l:List Nat):Int:=(l.countP (· == 0):Int)-(l.countP (· == 1):Int)
theorem zEL{l:List Nat}{i x y:Nat}(h:l[i]? = some x):zA4 (l.set i y)=zA4 l+((if y=0 then 1 else 0)-(if y=1 then 1 else 0))-((if x=0 then 1 else 0)-(if x=1 then 1 else 0)):=by
 unfold zA4;have h0:=zAv (· == 0) l i y x h;have h1:=zAv (· == 1) l i y x h;simp only[rE] at h0 h1;have e:∀(p:Prop) [Decidable p],(if p then (1:Int) else 0)=((if p then (1:Nat) else 0:Nat):Int):=λp _=>by split <;> rfl
 simp only[e];omega
theorem zJx{l:List Nat}(h:0<zHc l):∃i,vP l=some i:=by
 unfold vP;cases hf:l.findIdx? (· == 0) with
 | some i=>exact⟨i,rfl⟩
 | none =>
  rw[List.findIdx?_eq_none_iff] at hf;unfold zHc at h;rw[List.countP_pos_iff] at h;obtain⟨x,hx,Bu⟩:=h;rw[hf x hx] at Bu;cases Bu
theorem zL3{l:List Nat}(h:1<=zA4 l):∃i,vP l=some i:=zJx (by unfold zA4 zHc at *;omega)
theorem zQn{l:List Nat}{i:Nat}(h:0<=zA4 l)(hi:l[i]? = some 1):∃i,vP l=some i:=by
 have:0<l.countP (· == 1):=List.countP_pos_iff.2 ⟨1,uU hi,rfl⟩;exact zJx (by unfold zA4 zHc at *;omega)
section
variable {G:GA}{l:List Nat}
theorem zBC(G:GA)(p:zY)(i:Nat):(G.put p).view i=if i=p.id.toNat then some (.inl p) else G.view i:=by
 show upd G.view p.id.toNat (some (.inl p)) i=_;unfold upd;rfl
theorem zGH(G:GA)(p:zY){i:Nat}(h:i≠p.id.toNat):(G.put p).look i=G.look i:=zDk _ _ h
theorem zCP(G:GA)(k i:Nat):(G.drop k).view i=if i=k then zHt (G.look k) k else G.view i:=by
 show upd G.view k (zHt (G.look k) k) i=_;unfold upd;rfl
theorem zQo{i:Nat}(hi:vP l=some i)(p:zY)(hp:p.id=(i:Int)):Upd G l (λ_=>False) (G.put p) (l.set i 2) (λk=>k=i):=by
 have h0:=zAP hi;have A6:p.id.toNat=i:=by omega
 refine⟨rfl,rfl,by simp,λk hk=>?_,λ_ f=>f.elim,λk _ hk=>?_,λk hk=>?_⟩
 .subst hk;exact .inr ⟨h0.1,wH h0.2⟩
 .exact⟨uS (λe=>hk e.symm),λ_=>by rw[zBC,A6,if_neg hk]⟩
 .have A0:k≠i:=λe=>by rw[e,h0.1] at hk;simp at hk
  exact⟨zGH G p (by rw[A6];exact A0),.inl (by rw[zBC,A6,if_neg A0])⟩
theorem zPM{i:Nat}(hi:l[i]? = some 2)(p:zY)(hp:p.id=(i:Int)):Upd G l (λk=>k=i) (G.put p) l (λk=>k=i):=by
 have A6:p.id.toNat=i:=by omega
 refine⟨rfl,rfl,rfl,λk hk=>.inl ⟨hk,rfl⟩,λk hk hn=>absurd hk hn,λk hk _=>⟨rfl,λ_=>by rw[zBC,A6,if_neg hk]⟩,λk hk=>?_⟩;have A0:k≠i:=λe=>by rw[e,hi] at hk;simp at hk
 exact⟨zGH G p (by rw[A6];exact A0),.inl (by rw[zBC,A6,if_neg A0])⟩
theorem zJy{l:List Nat}{i:Nat}(h2:2<=i)(hi:l[i]? = some 1):yT l (i:Int)=(l.set i 3,none):=by
 have A3:=(uA.1 hi).1;unfold yT qF;rw[if_neg (by omega)];simp only[uH,hi];simp
theorem zNK{l:List Nat}{i:Nat}(h2:2<=i)(hi:l[i]? = some 2):yT l (i:Int)=(l.set i 0,none):=by
 have A3:=(uA.1 hi).1;unfold yT qF;rw[if_neg (by omega)];simp only[uH,hi];simp
theorem zQp{i:Nat}(h2:2<=i)(hi:l[i]? = some 1\/l[i]? = some 2):Upd G l (λk=>k=i) (G.drop i) (yT l (i:Int)).1 (λ_=>False)/\(yT l (i:Int)).2=none/\zA4 l+1<=zA4 (yT l (i:Int)).1:=by
 have hv:∀k,k≠i->(G.drop i).view k=G.view k:=λk hk=>by rw[zCP,if_neg hk]
 rcases hi with hi|hi
 .have A3:=(uA.1 hi).1;rw[zJy h2 hi];refine⟨⟨rfl,rfl,by simp,λ_ f=>f.elim,λk hk _=>?_,λk hk _=>⟨uS (λe=>hk e.symm),λ_=>hv k hk⟩,λk _=>⟨rfl,?_⟩⟩,rfl,?_⟩
  .subst hk;exact .inr ⟨hi,wH A3⟩
  .by_cases e:k=i
   .subst e;exact .inr (by rw[zCP,if_pos rfl])
   .exact .inl (hv k e)
  .rw[zEL hi];simp
 .have A3:=(uA.1 hi).1;rw[zNK h2 hi];refine⟨⟨rfl,rfl,by simp,λ_ f=>f.elim,λk hk _=>?_,λk hk _=>⟨uS (λe=>hk e.symm),λ_=>hv k hk⟩,λk hk=>⟨rfl,?_⟩⟩,rfl,?_⟩
  .subst hk;exact .inl ⟨hi,wH A3⟩
  .by_cases e:k=i
   .subst e;rw[hi] at hk;simp at hk
   .exact .inl (hv k e)
  .rw[zEL hi];simp
theorem zPN{old i:Nat}(ho:old=0\/(2<=old/\(l[old]? = some 1\/l[old]? = some 2)))(hi:jD l old=some i)(p:zY)(hp:p.id=(i:Int))(h0:l[0]? ≠ some 0) :
  Upd G l (λk=>k=old/\old≠0) ((qT G l old).put p) (jC l old) (λk=>k=i)/\zA4 l-(if old=0 then 1 else 0)<=zA4 (jC l old)/\1<=i:=by
 rcases ho with rfl|⟨h2,ho⟩
 .have e1:qT G l 0=G:=by unfold qT;rw[if_pos (.inl rfl)]
  have hf:vP l=some i:=by unfold jD at hi;rw[if_neg (by simp)] at hi;exact hi
  have e2:jC l 0=l.set i 2:=by unfold jC zA1;rw[if_pos rfl,hf]
  rw[e1,e2];refine⟨(zQo hf p hp).iff (λk=>by simp) (λk=>rQ),?_,?_⟩
  .rw[zEL (zAP hf).1];simp
  .rcases tV i with e|e
   .rw[e] at hf;exact absurd (zAP hf).1 h0
   .exact e
 .have hz:old≠0:=by omega
  rcases ho with ho|ho
  .have Ad:vS l (old:Int)=false:=by unfold vS;rw[uH,ho];simp
   have hf:vP l=some i:=by unfold jD at hi;rw[if_neg (by rw[Ad];simp)] at hi;exact hi
   have A0:i≠old:=λe=>by have:=(zAP hf).1;rw[e,ho] at this;simp at this
   have e1:qT G l old=G.drop old:=by unfold qT;rw[if_neg (by rw[Ad];simp[hz]),if_neg (by rw[hf];simp)]
   have Ao:(l.set i 2)[old]? = some 1:=by rw[uS A0];exact ho
   have e2:jC l old=(l.set i 2).set old 3:=by
    unfold jC;rw[if_neg hz,if_neg (by rw[Ad];simp),hf];simp only;rw[zJy h2 Ao]
   have Ar:=zAP hf;have Cl:=(uA.1 ho).1;have A6:p.id.toNat=i:=by omega
   rw[e1,e2];refine⟨⟨rfl,rfl,by simp,λk hk=>?_,λk hk _=>?_,λk hk hn=>?_,λk hk=>?_⟩,?_,?_⟩
   .subst hk;exact .inr ⟨Ar.1,by rw[uS A0.symm];exact wH Ar.2⟩
   .obtain⟨rfl,_⟩:=hk;exact .inr ⟨ho,wH (by simpa using Cl)⟩
   .have Bv:k≠old:=λe=>hk ⟨e,hz⟩
    refine⟨by rw[uS Bv.symm,uS (λe=>hn e.symm)],λ_=>?_⟩;rw[zBC,A6,if_neg hn,zCP,if_neg Bv]
   .have Bw:k≠i:=λe=>by rw[e,Ar.1] at hk;simp at hk
    refine⟨zGH (G.drop old) p (by rw[A6];exact Bw),?_⟩;rw[zBC,A6,if_neg Bw,zCP];by_cases e:k=old
    .subst e;rw[if_pos rfl];exact .inr rfl
    .rw[if_neg e];exact .inl rfl
   .rw[zEL Ao,zEL Ar.1];simp[hz]
   .rcases tV i with e|e
    .rw[e] at hf;exact absurd (zAP hf).1 h0
    .exact e
  .have Ad:vS l (old:Int)=true:=by unfold vS;rw[uH,ho];simp
   have Cm:old=i:=by unfold jD at hi;rw[if_pos ⟨hz,Ad⟩] at hi;exact Option.some.inj hi
   subst Cm;have e1:qT G l old=G:=by unfold qT;rw[if_pos (.inr Ad)]
   have e2:jC l old=l:=by unfold jC;rw[if_neg hz,if_pos Ad]
   rw[e1,e2];exact⟨(zPM ho p hp).iff (λk=>by simp[hz]) (λk=>rQ),by simp[hz],by omega⟩
end
def ndS(sz n:Nat):Nat:=(n-1) / (sz-28)+1
theorem zIY(sz n:Nat)(h:1<=n)(h1:256<=sz)(h2:sz<=1024):zDG (n:Int) (sz:Int)=(ndS sz n:Int):=by
 unfold zDG ndS;rw[if_neg (by omega)];have e1:((n:Int)-1)=((n-1:Nat):Int):=by omega
 have e2:((sz:Int)-28)=((sz-28:Nat):Int):=by omega
 rw[e1,e2];simp
theorem zHj(sz n:Nat)(h:1<=n)(h1:256<=sz):Fit n (sz-28) (ndS sz n):=by
 obtain⟨d,hd⟩:∃d,d=sz-28:=⟨_,rfl⟩;unfold ndS;rw[<- hd];have h3:=Nat.div_add_mod (n-1) d;have h4:=pE (n-1) (show 0<d by omega);have h5:(n-1) / d * d=d * ((n-1) / d):=nK _ _;generalize (n-1) / d=k at *
 refine⟨by omega,by omega,?_,?_⟩
 .rw[rK,h5];omega
 .rw[wY,h5];omega
theorem zQq(sz n:Nat)(h:n<=4096)(h1:256<=sz):ndS sz n<=18:=by
 unfold ndS;have:=Nat.div_le_div_left (show 228<=sz-28 by omega) (show 0<228 by omega) (a:=n-1);omega
structure ChG(G:GA)(gen:Nat)(c s:Int)(v:ByteArray)(ids:List Nat):Prop where
 size:s=(v.size:Int)
 lo:25<=v.size
 hi:v.size<=4096
 len:ids.length=ndS G.size v.size
 first:c=((ids.getD 0 0:Nat):Int)
 lt:∀i∈ids,2<=i/\i<G.blocks
 page:∃g,g<=gen/\∀i,i<ids.length->G.view (ids.getD i 0)=some (.inl (zAU g v.data.toList (G.size-28) ids i))
theorem zAm{ids:List Nat}{i:Nat}(h:i<ids.length):ids.getD i 0∈ids:=by
 have:ids.getD i 0=ids[i]:=by simp[List.getD,h]
 rw[this];exact tB h
theorem zE3{ids:List Nat}{i:Nat}(h:ids.length<=i):ids.getD i 0=0:=by simp[List.getD,wT h]
section
variable {G G':GA}{gen:Nat}{c s:Int}{v:ByteArray}{ids:List Nat}
theorem ChG.mono(h:ChG G gen c s v ids){gen':Nat}(hg:gen<=gen')(hb:G'.blocks=G.blocks)(hs:G'.size=G.size)(hv:∀i∈ids,G'.view i=G.view i):ChG G' gen' c s v ids :=
 ⟨h.size,h.lo,h.hi,by rw[hs];exact h.len,h.first,λi hi=>by rw[hb];exact h.lt i hi,by
  obtain⟨g,h1,h2⟩:=h.page;exact⟨g,uP h1 hg,λi hi=>by rw[hs];exact (hv _ (zAm hi)).trans (h2 i hi)⟩⟩
theorem zKo{v:List UInt8}{m nn blocks:Nat}{ids:List Nat}(hm:ids.length=m)(hf:Fit v.length nn m){size:Nat}(hs:size=nn+28)(A3:∀i∈ids,2<=i/\i<blocks)(Ba:blocks<=256){i:Nat}(hi:i<m)(g:Nat) :
  yS size (zAU g v nn ids i) ((v.length-i * nn:Nat):Int)=false:=by
 unfold yS zAU;simp only;have As:(i+1<m->2<=ids.getD (i+1) 0/\ids.getD (i+1) 0<blocks)/\(¬ i+1<m->ids.getD (i+1) 0=0) :=
  ⟨λh=>A3 _ (zAm (by omega)),λh=>zE3 (by omega)⟩
 generalize ids.getD (i+1) 0=nx at *
 have hn:nx<4294967296:=by
  by_cases h:i+1<m
  .have:=As.1 h;omega
  .have:=As.2 h;omega
 rw[zDO _ _ hn];have hl:=hf.left hi;have Cn:=zO0 v nn i;have Bb:min ((v.length-i * nn:Nat):Int) ((size:Int)-28)=((min nn (v.length-i * nn):Nat):Int):=by omega
 rw[Bb];have e1:((yD 4 nx++zCI v nn i).length:Int)=4+((min nn (v.length-i * nn):Nat):Int):=by
  rw[uC,zD,Cn];omega
 rw[e1];by_cases h1:i+1<m
 .have:=hf.more h1;have h3:=As.1 h1;simp;omega
 .have:=hf.last (show i+1=m by omega);have h3:=As.2 h1;rw[h3];simp;omega
theorem zL4{v:List UInt8}{m nn g:Nat}(hm:ids.length=m)(hf:Fit v.length nn m)(hs:G.size=nn+28)(A3:∀i∈ids,2<=i/\i<G.blocks)(Ba:G.blocks<=256)
  (h:∀i,i<m->G.view (ids.getD i 0)=some (.inl (zAU g v nn ids i))) :
  ∀(k i f:Nat),i+k=m->v.length-i * nn<=f ->
   qN G f ((ids.getD i 0:Nat):Int) ((v.length-i * nn:Nat):Int)=((List.range' i k).map (λj=>(((ids.getD j 0:Nat):Int),zCI v nn j)),none) /\
   zAi G f ((ids.getD i 0:Nat):Int) ((v.length-i * nn:Nat):Int)
 | 0,i,f,hc,Co=>by
  have:v.length-i * nn=0:=by have:=hf.hi;rw[<- hc,uT] at this;omega
  rw[this];exact⟨zMz _ _ _ _ (by omega),zLc _ _ _ _ (by omega)⟩
 | k+1,i,f,hc,Co=>by
  have hi:i<m:=by omega
  have hl:=hf.left hi;obtain⟨f,rfl⟩:∃f',f=f'+1:=⟨f-1,by omega⟩;have Cs:=hf.n228;obtain⟨h1,h2⟩:=zL4 hm hf hs A3 Ba h k (i+1) f (by omega) (by rw[wY];omega);have hid:=A3 _ (zAm (show i<ids.length by omega));have hg:G.get ((ids.getD i 0:Nat):Int)=.inl (zAU g v nn ids i):=zEs hid.2 (h i hi);have Bc:=zKo (size:=G.size) hm hf hs A3 Ba hi g;have hn:ids.getD (i+1) 0<4294967296:=by
   rcases tK (i+1) ids.length with h|h
   .have:=A3 _ (zAm h);omega
   .rw[zE3 h];omega
  have ht:vC (zAU g v nn ids i).body 0 4=(ids.getD (i+1) 0,none):=zDO _ _ hn;have hd:(zAU g v nn ids i).body.drop 4=zCI v nn i:=zOz _ _;have Am:((v.length-i * nn:Nat):Int)-min ((v.length-i * nn:Nat):Int) ((G.size:Int)-28)=((v.length-(i+1) * nn:Nat):Int):=by
   rw[wY];omega
  constructor
  .rw[qN,if_neg (by omega),hg];simp only[Bc,ht,hd,Am];rw[h1,List.range'_succ];rfl
  .rw[zAi];intro _;refine⟨λ_=>⟨_,by rw[uH];exact h i hi⟩,λx hx _=>?_⟩;rw[hg] at hx;injection hx with hx;subst hx;rw[ht,Am];exact h2
theorem ChG.walk(h:ChG G gen c s v ids)(hs:256<=G.size)(hb:G.blocks<=256) :
  zAZ G c s=none/\zAi G s.toNat c s/\(qN G s.toNat c s).1.map (·.1)=ids.map (λk:Nat=>(k:Int))/\G.R c s=some v:=by
 obtain⟨g,_,hp⟩:=h.page;have hl:v.data.toList.length=v.size:=jB v;have Ct:=h.lo;have Cu:=h.hi;have hf:Fit v.data.toList.length (G.size-28) (ndS G.size v.size):=by rw[hl];exact zHj _ _ (by omega) hs
 obtain⟨w1,w2⟩:=zL4 (G:=G) (g:=g) h.len hf (by omega) h.lt hb (λi hi=>hp i (by rw[h.len];exact hi)) (ndS G.size v.size) 0 v.size (by omega) (by rw[hl];omega);rw[hl] at w1 w2;simp only[pU,nO] at w1 w2;rw[h.size,h.first,uH];have hz:zAZ G ((ids.getD 0 0:Nat):Int) (v.size:Int)=none:=by
  unfold zAZ zAl;rw[if_neg (by omega),uH,w1];rfl
 refine⟨hz,w2,?_,?_⟩
 .rw[w1];refine List.ext_getElem (by simp[h.len]) (λi h1 h2=>?_);simp only[wS] at h2;simp[List.getD,h2]
 .unfold GA.R;rw[hz,uH,w1];simp only[Option.some.injEq,List.flatMap_map];apply pN
  exact congrArg List.toArray (zMy v.data.toList (G.size-28) (ndS G.size v.size) hf.hi)
theorem zIZ:∀(m:Nat) (l:List Nat),(m:Int)<=zA4 l->∃ids l1,zA7 m l=some (ids,l1)
 | 0,l,_=>⟨[],l,rfl⟩
 | m+1,l,h=>by
  obtain⟨i,hi⟩:=zL3 (l:=l) (by omega);obtain⟨ids,l1,h1⟩:=zIZ m (l.set i 2) (by rw[zEL (zAP hi).1];simp;omega);exact⟨i :: ids,l1,by rw[zA7,hi];simp only[h1]⟩
structure zSX(m:Nat)(l ids l1:List Nat):Prop where
 len:ids.length=m
 lenL:l1.length=l.length
 nodup:ids.Nodup
 at_:∀i∈ids,l[i]? = some 0/\l1[i]? = some 2
 far:∀i,i ∉ ids->l1[i]? = l[i]?
 phi:zA4 l1=zA4 l-m
theorem zBY:∀(m:Nat) (l ids l1:List Nat),zA7 m l=some (ids,l1)->zSX m l ids l1
 | 0,l,ids,l1,h=>by
  rw[zA7] at h;injection h with h;injection h with h1 h2;subst h1 h2;exact⟨rfl,rfl,rM,λi hi=>by simp at hi,λ_ _=>rfl,by simp⟩
 | m+1,l,ids,l1,h=>by
  rw[zA7] at h;cases hf:vP l with
  | none=>rw[hf] at h;cases h
  | some i =>
   rw[hf] at h;simp only at h;cases ht:zA7 m (l.set i 2) with
   | none=>rw[ht] at h;cases h
   | some x =>
    obtain⟨r,l2⟩:=x;rw[ht] at h;simp only[Option.some.injEq,Prod.mk.injEq] at h;obtain⟨rfl,rfl⟩:=h;obtain⟨k1,k2,k3,k4,k5,k6⟩:=zBY m _ _ _ ht;have h0:=zAP hf;have Bd:i ∉ r:=λhm=>by
     have:=(k4 i hm).1;rw[wH h0.2] at this;simp at this
    refine⟨by simp[k1],by rw[k2];simp,uV.2 ⟨Bd,k3⟩,λj hj=>?_,λj hj=>?_,?_⟩
    .rcases uQ.1 hj with rfl|hj
     .exact⟨h0.1,by rw[k5 _ Bd,wH h0.2]⟩
     .have A0:i≠j:=λe=>Bd (e ▸ hj)
      have:=k4 j hj;rw[uS A0] at this;exact this
    .rw[uQ,not_or] at hj;rw[k5 j hj.2,uS (λe=>hj.1 e.symm)]
    .rw[k6,zEL h0.1];simp;omega
theorem zFq(g:Nat)(v:List UInt8)(nn:Nat)(ids:List Nat)(hn:ids.Nodup):∀(k:Nat) (G:GA),k<=ids.length ->
  (∀j,j<k->(zAH g v nn ids k G).view (ids.getD j 0)=some (.inl (zAU g v nn ids j)))/\(∀i,i ∉ ids->(zAH g v nn ids k G).view i=G.view i/\(zAH g v nn ids k G).look i=G.look i)
 | 0,G,_=>⟨λj hj=>by omega,λi _=>⟨rfl,rfl⟩⟩
 | k+1,G,hk=>by
  obtain⟨h1,h2⟩:=zFq g v nn ids hn k G (by omega);have e:(zAU g v nn ids k).id.toNat=ids.getD k 0:=by
   show ((ids.getD k 0:Nat):Int).toNat=_;rw[uH]
  refine⟨λj hj=>?_,λi hi=>?_⟩
  .rw[zAH,zBC,e];by_cases Bx:j=k
   .subst Bx;rw[if_pos rfl]
   .have A0:ids.getD j 0≠ids.getD k 0:=by
     simp only[List.getD,uB (show j<ids.length by omega),uB (show k<ids.length by omega),rJ];intro he;exact Bx ((List.getElem_inj hn).1 he)
    rw[if_neg A0];exact h1 j (by omega)
  .have A0:i≠ids.getD k 0:=λhe=>hi (he ▸ zAm (by omega))
   rw[zAH,zBC,e,if_neg A0,zGH _ _ (by rw[e];exact A0)];exact h2 i hi
theorem zPO{l l1:List Nat}{m:Nat}(h:zA7 m l=some (ids,l1))(g:Nat)(v:List UInt8)(nn:Nat):Upd G l (λ_=>False) (zAH g v nn ids m G) l1 (λi=>i∈ids):=by
 obtain⟨k1,k2,k3,k4,k5,k6⟩:=zBY _ _ _ _ h;obtain⟨s1,s2,s3⟩:=vG g v nn ids m G;obtain⟨_,p2⟩:=zFq g v nn ids k3 m G (by omega);exact⟨s2,s1,k2,λi hi=>.inr (k4 i hi),λ_ f=>f.elim,λi _ hi=>⟨k5 i hi,λ_=>(p2 i hi).1⟩,λi hi=>by
  have By:i ∉ ids:=λhm=>by rw[(k4 i hm).1] at hi;simp at hi
  exact⟨(p2 i By).2,.inl (p2 i By).1⟩⟩
theorem zFE:∀(ids l:List Nat) (G:GA),ids.Nodup->(∀i∈ids,2<=i)->zAk l (λi=>i∈ids) ->
  Upd G l (λi=>i∈ids) (jY G ids) (jU l ids) (λ_=>False)/\zCr l ids/\zA4 l+ids.length<=zA4 (jU l ids)
 | [],l,G,_,_,_=>⟨(Upd.refl G l (λ_=>False)).iff (λi=>by simp) (λ_=>rQ),trivial,by simp[jU]⟩
 | i :: r,l,G,hn,h2,hu=>by
  rw[uV] at hn;obtain⟨u1,u2,u3⟩:=zQp (G:=G) (h2 i uK) (hu i uK);have hr:∀j∈r,j≠i:=λj hj e=>hn.1 (e ▸ hj)
  have Cp:zAk (yT l (i:Int)).1 (λj=>j∈r):=λj hj=>by
   rw[zIE (hr j hj)];exact hu j (uJ _ hj)
  obtain⟨k1,k2,k3⟩:=zFE r (yT l (i:Int)).1 (G.drop i) hn.2 (λj hj=>h2 j (uJ _ hj)) Cp;refine⟨?_,⟨u2,k2⟩,?_⟩
  .have f:=u1.frame (B:=λj=>j∈r) (λj hj=>⟨hr j hj,λe=>by
    rcases hu j (uJ _ hj) with h|h <;> rw[e] at h <;> simp at h⟩)
   have f2:=f.iff (A':=λj=>j∈i :: r) (A1':=λj=>j∈r) (λj=>by rw[uQ]) (λj=>by simp);exact f2.trans k1 hu
  .rw[jU,uG];omega
theorem zRm{l l1:List Nat}{v:ByteArray}{m:Nat}(h:zA7 m l=some (ids,l1))(hm:m=ndS G.size v.size)(Cq:25<=v.size)(An:v.size<=4096)(h0:l[0]? ≠ some 0)(h1:l[1]? ≠ some 0)(Cv:l.length<=G.blocks)(g:Nat) :
  ChG (zAH g v.data.toList (G.size-28) ids m G) g ((ids.getD 0 0:Nat):Int) (v.size:Int) v ids:=by
 obtain⟨k1,k2,k3,k4,k5,k6⟩:=zBY _ _ _ _ h;obtain⟨s1,s2,s3⟩:=vG g v.data.toList (G.size-28) ids m G;obtain⟨p1,_⟩:=zFq g v.data.toList (G.size-28) ids k3 m G (by omega);refine⟨rfl,Cq,An,by rw[s2,k1,hm],rfl,λi hi=>?_,g,uD _,λi hi=>by rw[s2];exact p1 i (by omega)⟩;have hz:=(k4 i hi).1;have A3:=(uA.1 hz).1;rw[s1];refine⟨?_,by omega⟩;rcases tK i 2 with h|h
 .obtain rfl|rfl:i=0\/i=1:=by omega
  .exact absurd hz h0
  .exact absurd hz h1
 .exact h
end
end
end Go.Proofs.YtalpfcaakpgkmaaGreatDoor
