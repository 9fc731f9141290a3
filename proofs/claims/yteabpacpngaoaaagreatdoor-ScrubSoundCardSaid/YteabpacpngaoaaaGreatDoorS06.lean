import Derived.Test.YteabpacpngaoaaaGreatDoorS05
namespace Go.Proofs.YteabpacpngaoaaaGreatDoor
open Lib renaming hid->oh
set_option maxHeartbeats 4000000
set_option maxRecDepth 100000
section
open Go.RowKit
section
variable {n:Nat}{G:GA}{l:List Nat}{root d:Nat}{ps:List PairS}{pgs:List Nat}
theorem zAx{G':GA}{l':List Nat}{r:Nat × Bool}{gen:Nat}{key v:ByteArray}(hc:CtxG G l)(hT:TD G gen root d ps pgs)(hu:UseL l (λk=>k∈pgs))(A5:keyB key=true)(hv:v.size<=4096)(h:putR G l gen root key v=.inl (G',l',r)):G'.cost<=G.cost+61:=by
 rw[zAk A5 hv] at h;cases hs:qZ G l gen root key v with
 | inr k=>rw[hs] at h;cases h
 | inl x =>
  obtain⟨G1,l1,o⟩:=x;obtain⟨_,_,h3,_⟩:=zAD hc hT hu A5 hv hs;rw[hs] at h;simp only at h;split at h
  .injection h with h;injection h with h _;subst h;omega
  .split at h
   .cases h
   .injection h with h;injection h with h _;subst h;have:=(downG_lim G1 l1 gen 0 (rootA o)).2.2;omega
theorem zAl(v:ByteArray)(h:v.size<=400):ndV 256 v<=2:=by
 unfold ndV;split
 .omega
 .unfold ndS;omega
theorem jP:∀(ps:List PairS),(∀x∈ps,x.2.size<=400)->chS 256 ps<=2 * ps.length
 | [],_=>by simp[chS]
 | x :: ps,h=>by
  have h1:=jP ps (λy hy=>h y (uF _ hy));have h2:=zAl x.2 (h x uI);rw[chS_cons,uB];omega
end
theorem vF{f g:Nat->Int}:∀n,(∀i,i<n->f i=g i)->sumR f n=sumR g n
 | 0,_=>rfl
 | n+1,h=>by rw[sumR,sumR,vF n (λi hi=>h i (by omega)),h n (by omega)]
theorem jE:∀n,sumR (λ_=>1) n=n
 | 0=>rfl
 | n+1=>by rw[sumR,jE n];omega
def vX(pgs pgs0:List Nat)(i:Nat):Nat:=if i<6 then 1 else if i∈pgs then (if i∈pgs0 then 1 else 2) else if i∈pgs0 then 3 else 0
structure zR(z n g:Nat)(G:GA)(l:List Nat)(root d:Nat)(ps:List PairS)(pgs pgs0:List Nat):Prop where
 ctx:CtxG G l
 td:TD G g root d ps pgs
 blk:G.blocks=n
 size:G.size=z
 len:l.length=n
 n16:16<=n
 lay:∀i,i<n->l[i]? = some (vX pgs pgs0 i)
 hi:∀i∈pgs,6<=i
 hi0:∀i∈pgs0,6<=i/\i<n
 nd0:pgs0.Nodup
 val:∀x∈ps,x.2.size<=400
section
variable {z n g:Nat}{G:GA}{l:List Nat}{root d:Nat}{ps:List PairS}{pgs pgs0:List Nat}
theorem zR.low(h:zR z n g G l root d ps pgs pgs0):∀i,i<6->l[i]? = some 1:=λi hi=>by
 rw[h.lay i (by have:=h.n16;omega)];unfold vX;rw[if_pos hi]
theorem zR.use(h:zR z n g G l root d ps pgs pgs0):UseL l (λk=>k∈pgs):=λi hi=>by
 have hb:=h.td.lt i hi;have h6:=h.hi i hi;have:=h.lay i (by have:=h.blk;omega);unfold vX at this;rw[if_neg (by omega),if_pos hi] at this;by_cases h0:i∈pgs0
 .rw[if_pos h0] at this;exact .inl this
 .rw[if_neg h0] at this;exact .inr this
theorem zR.phi(h:zR z n g G l root d ps pgs pgs0):phiL l+(pgs.length:Int)+(pgs0.length:Int)+12=(n:Int):=by
 have e:=phi_sum l l.length (uA _);rw[List.take_length,h.len] at e;have hp:∀i∈pgs,i<n:=λi hi=>by have:=h.td.lt i hi;rw[h.blk] at this;exact this.2
 have h6:sumR (λi=>if i∈List.range 6 then 1 else 0) n=((List.range 6).length:Nat):=sumR_in _ n List.nodup_range (λi hi=>by have:=List.mem_range.1 hi;have:=h.n16;omega);have e1:=sumR_in pgs n h.td.nodup hp;have e2:=sumR_in pgs0 n h.nd0 (λi hi=>(h.hi0 i hi).2);have hs:sumR (λi=>wtL l[i]? + (if i∈pgs then 1 else 0)+(if i∈pgs0 then 1 else 0)+((if i∈List.range 6 then 1 else 0)+(if i∈List.range 6 then 1 else 0))) n=sumR (λ_=>1) n:=vF n (λi hi=>by
  rw[h.lay i hi];unfold wtL vX;by_cases i6:i<6
  .have a1:i ∉ pgs:=λhm=>by have:=h.hi i hm;omega
   have a2:i ∉ pgs0:=λhm=>by have:=(h.hi0 i hm).1;omega
   simp[i6,a1,a2]
  .by_cases a1:i∈pgs
   .by_cases a2:i∈pgs0 <;> simp[i6,a1,a2]
   .by_cases a2:i∈pgs0 <;> simp[i6,a1,a2])
 rw[sumR_add,sumR_add,sumR_add,sumR_add,jE,<- e,e1,e2,h6,List.length_range] at hs;omega
theorem zR.put(h:zR z n g G l root d ps pgs pgs0){key v:ByteArray}(A5:keyB key=true)(hv:v.size<=400) :
  (putR G l g root key v=.inr 3/\phiL l<=(ndV G.size v:Nat)+d+1) \/
  ∃G' l' root' d' pgs',putR G l g root key v=.inl (G',l',(root',(findP key ps).isNone))/\zR z n g G' l' root' d' (withP key v true ps) pgs' pgs0/\G'.cost<=G.cost+61/\2<=root' /\
   ((2<=ps.length->∀i∈pgs,zZ (G.view i))->2<=(withP key v true ps).length->∀i∈pgs',zZ (G'.view i))/\Upd G l (λk=>k∈pgs) G' l' (λk=>k∈pgs'):=by
 rcases putR_tr h.ctx h.td h.use A5 (show v.size<=4096 by omega) with a|⟨G',l',root',d',pgs',a1,a2,a3,a4,a5,a6,a7⟩
 .exact .inl a
 .have Ae:∀i∈pgs',i<n:=λi hi=>by have:=(a3.lt i hi).2;rw[a2.bl,h.blk] at this;exact this
  have A7:∀i,i<n->l[i]? = some 0->6<=i/\i ∉ pgs/\i ∉ pgs0:=λi hi h0=>by
   have hl:=h.lay i hi;rw[h0] at hl;unfold vX at hl;by_cases h6:i<6
   .rw[if_pos h6] at hl;simp at hl
   .rw[if_neg h6] at hl;by_cases h1:i∈pgs
    .rw[if_pos h1] at hl;split at hl <;> simp at hl
    .rw[if_neg h1] at hl;by_cases h2:i∈pgs0
     .rw[if_pos h2] at hl;simp at hl
     .exact⟨by omega,h1,h2⟩
  have h6':∀i∈pgs',6<=i:=λi hi=>by
   rcases a2.inn i hi with ⟨b1,_⟩|⟨b1,_⟩
   .exact h.hi i b1
   .exact (A7 i (Ae i hi) b1).1
  refine .inr ⟨G',l',root',d',pgs',a1,⟨a5,a3,by rw[a2.bl,h.blk],by rw[a2.sz,h.size],by rw[a2.len,h.len],h.n16,λi hi=>?_,h6',h.hi0,h.nd0,λx hx=>?_⟩,zAx h.ctx h.td h.use A5 (by omega) a1,a6,λhF h2=>?_,a2⟩
  .have hl:=h.lay i hi;unfold vX at hl ⊢;by_cases i6:i<6
   .rw[if_pos i6] at hl ⊢;rw[(a2.rest i (λhm=>by have:=h.hi i hm;omega) (λhm=>by have:=h6' i hm;omega)).1];exact hl
   .rw[if_neg i6] at hl ⊢;by_cases h2:i∈pgs'
    .rw[if_pos h2];rcases a2.inn i h2 with ⟨b1,b2⟩|⟨b1,b2⟩
     .rw[b2,hl,if_pos b1]
     .rw[if_neg (A7 i hi b1).2.2];exact b2
    .rw[if_neg h2];by_cases h1:i∈pgs
     .rw[if_pos h1] at hl;by_cases h0:i∈pgs0
      .rw[if_pos h0] at hl ⊢;rcases a2.gone i h1 h2 with ⟨b1,_⟩|⟨_,b2⟩
       .rw[hl] at b1;cases b1
       .exact b2
      .rw[if_neg h0] at hl ⊢;rcases a2.gone i h1 h2 with ⟨_,b2⟩|⟨b1,_⟩
       .exact b2
       .rw[hl] at b1;cases b1
     .rw[(a2.rest i h1 h2).1,hl,if_neg h1]
  .rcases mem_withP hx with rfl|hx
   .exact hv
   .exact h.val x hx
  .refine zBF h.ctx h.td (λi i6 hu=>?_) hF A5 (by omega) rfl a1 (λi hi=>⟨h6' i hi,a4 i hi⟩) h2;have hi:i<n:=by
    rw[<- h.len];rcases hu with e|e <;> exact (List.getElem?_eq_some_iff.1 e).1
   have hl:=h.lay i hi;unfold vX at hl;rw[if_neg (by omega)] at hl;by_cases h1:i∈pgs
   .exact h1
   .rw[if_neg h1] at hl;unfold vT at hu;rw[hl] at hu;split at hu <;> simp at hu
theorem zR.commit(h:zR z n g G l root d ps pgs pgs0):zR z n (g+1) (sealG G) (spCommit l) root d ps pgs pgs:=by
 have A9:∀i,i<n->(spCommit l)[i]? = some (vX pgs pgs i):=λi hi=>by
  unfold spCommit turnL;rw[wI,wI,h.lay i hi];simp only[Option.map_some];unfold vX;by_cases i6:i<6
  .simp[i6]
  .by_cases h1:i∈pgs
   .by_cases h0:i∈pgs0 <;> simp[i6,h1,h0]
   .by_cases h0:i∈pgs0 <;> simp[i6,h1,h0]
 have A4:(spCommit l).length=n:=by unfold spCommit turnL;simp[h.len]
 have Ac:=h.n16;have hb:=h.ctx.b256;refine⟨⟨⟨?_,?_⟩,?_,hb,h.ctx.s256,h.ctx.s1024⟩,h.td.mono (by omega) rfl rfl (λ_ _=>rfl),h.blk,h.size,A4,Ac,A9,h.hi,λi hi=>⟨h.hi i hi,by have:=(h.td.lt i hi).2;rw[h.blk] at this;exact this⟩,h.td.nodup,h.val⟩
 .rw[A9 0 (by omega)];rfl
 .rw[A9 1 (by omega)];rfl
 .rw[A4];exact h.blk.symm
end
theorem zR.new[GhoI]{z n:Nat}(Ac:16<=n)(B5:n<=256){D:DiskA}(hb:D.blocks=n)(hs:D.size=z)(hz:256<=z/\z<=1024)(g:Nat):zR z n g (lowG (mountG (formD D))) (mountL n [0,1,2,3,4,5]) 0 0 [] [] []:=by
 refine⟨⟨⟨by rw[mountL_get _ (by omega),if_pos (by simp)],by rw[mountL_get _ (by omega),if_pos (by simp)]⟩,?_,?_,?_,?_⟩,TD.none _ _,hb,hs,mountL_len _ _,Ac,λi hi=>?_,λi hi=>by simp at hi,λi hi=>by simp at hi,List.nodup_nil,λx hx=>by simp at hx⟩
 .rw[mountL_len];exact hb.symm
 .show D.blocks<=256;omega
 .show 256<=D.size;omega
 .show D.size<=1024;omega
 .rw[mountL_get _ hi];unfold vX;by_cases h6:i<6
  .rw[if_pos h6,if_pos (by simp;omega)]
  .rw[if_neg h6,if_neg (by simp;omega),if_neg (by simp),if_neg (by simp)]
structure zBu[GhoI](z n d:Nat)(s:SupA):Prop where
 disk:d=gDisk
 low:∃m,LowS s m/\mapOk m=true/\m.gen=s.gen/\m.blocks=s.blocks
 ok:supOk s=true
 blk:s.blocks=n
 siz:s.size=z
section
variable {P P' F F':Nat->Prop}{ad:Nat->Addr}{w w':World}{d S c sp n z:Nat}{s:SupA}{G:GA}{l:List Nat}{D:DiskA}
structure qB[GhoI](F:Nat->Prop)(w:World)(P:Nat->Prop)(z n S d c sp:Nat)(s:SupA)(hh:Nat)(G:GA)(l:List Nat)(root dd:Nat)(ps:List PairS)(pgs pgs0:List Nat):Prop where
 gho:zBu z n d s
 home:hh<2
 st:StR F w P S d c sp s (hh:Int) ((root:Nat):Int) ((ps.length:Nat):Int) G l
 lawn:zR z n (s.gen+1) G l root dd ps pgs pgs0
theorem zBG(d:Nat)(_:DryD D):∃i:GhoI,@gDisk i=d /\ @gLow i=6/\∀j,@gBlk i j=(formD D).look j:=⟨⟨⟨d,6,(formD D).look⟩⟩,rfl,rfl,λ_=>rfl⟩
theorem zBX(hL:Env F ad w)(hP:∀k,P k->F k)(h:DkS w P d D)(hD:DryD D)(Ac:16<=D.blocks)(hs:D.size=z)(q:Nat)(h3:3<=q)(B6:q<=64) :
  Calls Tryz.prog 10 #[.pointer (some ⟨d,0,none⟩),.int .i64 (q:Int)] w λe w'=>∃S c sp P' F',e=.returned (.tuple #[.pointer (some ⟨S,0,none⟩),.nilIface])/\(∃(_:GhoI) (G:GA) (l:List Nat),qB F' w' P' z D.blocks S d c sp (sup1A D) 0 G l 0 0 [] [] []/\G.cost=0)/\Nxt P P' F F' ad w w':=by
 obtain⟨i,i1,i2,i3⟩:=zBG d hD;obtain⟨hW,_⟩:=form_well hD;refine (format_okC i1.symm (by omega) (λj _=>(i3 j).symm) hL hP h hD q h3 B6).mono ?_;rintro e w' ⟨S,c,sp,P',F',rfl,h1,h2⟩;refine⟨S,c,sp,P',F',rfl,⟨i,_,_,⟨⟨i1.symm,⟨map1A D,⟨i2,(i3 0).trans hW.sup0,(i3 1).trans hW.sup1,(i3 _).trans hW.map0,(i3 _).trans hW.map1⟩,hW.mok,rfl,rfl⟩,hW.ok,rfl,hs⟩,by omega,h1,zR.new Ac hD.b256 rfl hs (hs ▸ ⟨hD.s256,hD.s1024⟩) _⟩,rfl⟩,h2⟩
theorem zAm[i0:GhoI]{hh root dd:Nat}{ps:List PairS}{pgs pgs0:List Nat}(hL:Env F ad w)(hP:∀k,P k->F k)(h:qB F w P z n S d c sp s hh G l root dd ps pgs pgs0)(hg:s.gen+1<1000000)(A4:ps.length<=1000000)(hc:G.cost<=800000) :
  Calls Tryz.prog 16 #[.pointer (some ⟨S,0,none⟩)] w λe w'=>e=.returned .nilIface/\∃P' F',(∃(_:GhoI),qB F' w' P' z n S d c sp (nextS s root ps.length) (1-hh) (sealG G) (spCommit l) root dd ps pgs pgs)/\Nxt (plusR P S) (plusR P' S) F F' ad w w':=by
 have hn:=h.lawn.ctx.b256;have B7:=h.lawn.blk;obtain⟨m0,Aa,Bm,Bn,Bo⟩:=h.gho.low;have h6:=Aa.low;obtain⟨C,hS,hI,hR,Bp,Bq⟩:=h.st.open h.gho.disk;have Ad:root=0\/2<=root/\root<n:=by
  rcases h.lawn.td.tree with ⟨h0,_⟩|⟨hd,hT⟩
  .exact .inl h0
  .obtain⟨r,hr⟩:=TrD.head _ _ _ _ _ _ hT;have hl:=h.lawn.td.lt root (by rw[hr];simp);exact .inr ⟨hl.1,by omega⟩
 have Ab:root=0->ps.length=0:=λe=>by
  rcases h.lawn.td.tree with ⟨_,_,h2,_⟩|⟨hd,hT⟩
  .rw[h2];rfl
  .obtain⟨r,hr⟩:=TrD.head _ _ _ _ _ _ hT;have hl:=h.lawn.td.lt root (by rw[hr];simp);omega
 have Ai:supOk (nextS s root ps.length)=true:=by
  obtain⟨a1,a2,a3,a4,a5,a6,a7⟩:=(supOk_iff s).1 h.gho.ok;exact (supOk_iff _).2 ⟨a1,a2,a3,a4,by show ps.length<=_;omega,by show root=0\/2<=root/\root<s.blocks;rw[h.gho.blk];exact Ad,Ab⟩
 have Br:C.disk.blocks=n:=hR.blocks.trans B7;have Ar:C.disk.size=z:=hR.size.trans h.lawn.size;have B8:WetD C.disk:=by
  obtain⟨sb,bvs,Pd,h1,_⟩:=hS.ca hL hP;exact⟨hI.off,hI.lit,waits h1,hI.lenL,hI.len⟩
 have hm:mapOk (mapOf (s.gen+1) s.blocks l)=true:=mapOf_ok (by have:=h.lawn.n16;rw[h.gho.blk];omega) (by rw[h.gho.blk];omega) (by rw[h.gho.blk];exact h.lawn.len) h.lawn.low;have B9:∀q,q<2->C.disk.look q=supBlk s q:=λq hq=>by
  have hk:=(hR.look q (gBlk q) (.inr ⟨by omega,rfl⟩)).1;rw[hk];rcases (show q=0\/q=1 by omega) with rfl|rfl
  .exact Aa.sup0
  .exact Aa.sup1
 have As:=h.home;refine (commitOk h6 hL hP (hh:=hh) (q:=1-hh) ⟨h.home,rfl⟩ hS hI (by have:=hR.cost;omega) B8 (mapOf (s.gen+1) s.blocks l) hm rfl (by omega) rfl (mapOf_used _ _ _) (h.gho.siz.trans Ar.symm) Ai (s1:=s) (by rw[B9 _ (by omega)];exact openS_blk h.gho.ok (by omega) (by omega))).mono ?_;rintro e w' ⟨rfl,P',F',C1,Ba,Bb,hN⟩;obtain⟨k1,k2,k3⟩:=commit_rel (nx:=nextS s root ps.length) h6 hI hR hm Ba rfl (show s.size=_ from h.gho.siz.trans Ar.symm) Ai hh h.home;have hd:=h.gho.disk;have Aj:=h.lawn.commit;have Ak:=h.gho.blk;have Al:=h.gho.siz;have Bc:=h.lawn.low;refine⟨rfl,P',F',⟨gComm (nextS s root ps.length) (mapOf (s.gen+1) s.blocks l),?_⟩,hN⟩;have Am : @LowP (gComm (nextS s root ps.length) (mapOf (s.gen+1) s.blocks l)) d (spCommit l):=⟨hd,λi hi=>by
  have hi:i < @gLow i0:=hi;left
  unfold spCommit turnL;rw[wI,wI,Bc i (by omega)];rfl⟩
 have Bd:=@StO.st P' F' w' d (gComm (nextS s root ps.length) (mapOf (s.gen+1) s.blocks l)) S c sp (nextS s root ps.length) _ _ _ _ (sealG G) (spCommit l) Bb k1 k2 (by show 0<=_;omega) Am;exact @qB.mk (gComm (nextS s root ps.length) (mapOf (s.gen+1) s.blocks l)) F' w' P' z n S d c sp (nextS s root ps.length) (1-hh) (sealG G) (spCommit l) root dd ps pgs pgs
  (@zBu.mk (gComm (nextS s root ps.length) (mapOf (s.gen+1) s.blocks l)) z n d (nextS s root ps.length) hd ⟨mapOf (s.gen+1) s.blocks l,gComm_low h6 _ _,hm,rfl,rfl⟩ Ai Ak Al) (by omega) Bd Aj
end
end
section
open Go.RowKit
attribute [local go_sem ↓] Go.wp_at_zero Go.wp_at_succ
section
variable {P P' F F':Nat->Prop}{ad:Nat->Addr}{w w':World}{S d c sp:Nat}{s:SupA}{home keys:Int}{root:Nat}{G G':GA}{l l':List Nat}
theorem StR.set1[GhoI](h:StR F w P S d c sp s home (root:Int) keys G l)(r:Int):StR F (w.setCell ⟨S,9,none⟩ (.int .i64 r)) P S d c sp s home r keys G l:=by
 obtain⟨h1,⟨a,cc,h2⟩,h3,h4⟩:=h;have m:Mods (λj=>j=S) w (w.setCell ⟨S,9,none⟩ (.int .i64 r)):=Mods.setCell (F:=λj=>j=S) (Mods.refl _ w) (p:=⟨S,9,none⟩) (.inr rfl) _;exact⟨h1.plus m (λk hk e=>by have e':k=S:=e;exact h3 (e' ▸ hk)) (λk e=>by have e':k=S:=e;rw[e'];exact h4) (λ_ _ h=>h),⟨a,cc,by simpa[stC] using h2.set 9 (.int .i64 r)⟩,h3,h4⟩
theorem zAy(r:Int):Mods (λj=>j=S) w (w.setCell ⟨S,9,none⟩ (.int .i64 r)):=Mods.setCell (F:=λj=>j=S) (Mods.refl _ w) (p:=⟨S,9,none⟩) (.inr rfl) _
def zBh[GhoI](F P:Nat->Prop)(ad:Nat->Addr)(w:World)(S d c sp:Nat)(s:SupA)(home keys:Int)(G':GA)(l':List Nat)(i:Nat)(nw:Bool)(e:Ending)(w':World):Prop :=
 ∃P' F',e=.returned (.tuple #[.bool nw,.nilIface])/\StR F' w' P' S d c sp s home (i:Int) (if nw then keys+1 else keys) G' l'/\Nxt (plusR P S) (plusR P' S) F F' ad w w'
theorem zBi[GhoI]{dd:Nat}{ps:List PairS}{pgs:List Nat}{i:Nat}{nw:Bool}(hL:Env F ad w)(hP:∀k,P k->F k)(h:StR F w P S d c sp s home (root:Int) keys G l)(hg:s.gen+1<18446744073709551616)(At:0<=keys/\keys<1000000)(key v:ByteArray)(hk:keyB key=true)(hv:v.size<=4096)(hc:CtxG G l)(hT:TD G (s.gen+1) root dd ps pgs)(hu:UseL l (λk=>k∈pgs))(Au:G.cost+300<=1000000)(hr:putR G l (s.gen+1) root key v=.inl (G',l',(i,nw))) :
  Calls Tryz.prog 15 #[.pointer (some ⟨S,0,none⟩),.string key,.string v] w (zBh F P ad w S d c sp s home keys G' l' i nw):=by
 have Be:=oh (λop=>stAlive h op);have Av:=oh (λW (m:Ext w W)=>stPager (h.at m) hg);have An:=oh (λW (m:Ext w W)=>zAE (hL.mods m.ext) hP (h.at m).1 hg hc hT hu hk hv Au);have Bs:=oh hr;have Aw:=oh h;have HN:=oh (λW (m:Ext w W)=>Nxt.ext hL hP m);have c9:Hid (∀W,Ext w W->W.cell? ⟨S,9,none⟩=some (.int .i64 (root:Int))):=oh (λW m=>by obtain⟨_,⟨a,cc,h2⟩,_,_⟩:=h.at m;exact h2.cell rfl);have Bf:=oh At;rw[hr] at An;clear hL hP h hg hk hv hc hT hu Au At hr;obtain⟨pg,Ax⟩:∃pg,pg=pgV c sp (s.gen+1):=⟨_,rfl⟩;rw[<- Ax] at Av An;clear Ax
 go_enter Tryz.func15, Tryz.ntmps15
 go_wp2_with fail;refine (Be.out _).mono ?_;rintro e w1 ⟨rfl,rfl⟩;have zd:=c9.out _ (Mods.refl _ w).drew;go_wp2_with fail;go_region_held3 (λw'=>w'.cell? ⟨S,9,none⟩=some (.int .i64 (root:Int)))
  (first|(with_reducible exact zd)|(with_reducible exact z5)|(with_reducible exact z6)|fail)
  (first
   | (go_at_call 55;(with_reducible refine (Av.out _ (Mods.refl _ w).drew).mono ?_);rintro e w5 ⟨rfl,m5⟩;have x5:=(Mods.refl _ w).drew.trans m5;have z5:=c9.out _ x5)
   | (go_at_call 54;((with_reducible refine (An.out _ x5).mono ?_);intro e w6 hq;obtain⟨P6,F6,Af,n6,rfl⟩:∃P6 F6,PgR F6 w6 P6 c sp G' l'/\Nxt P P6 F F6 ad _ w6/\e=.returned (.tuple #[.int .i64 ((i:Nat):Int),.bool nw,.nilIface]):=(by obtain⟨P6,F6,G6,l6,Af,n6,⟨i6,nw6,Ag,he⟩|⟨k6,f6,el6,Ag,_⟩⟩:=hq;(· simp only[Sum.inl.injEq,Prod.mk.injEq] at Ag;obtain⟨rfl,rfl,rfl,rfl⟩:=Ag;exact⟨P6,F6,Af,n6,he⟩);(· cases Ag));have h6:=(Aw.out.at x5).nxt n6 Af;have n06:=(HN.out _ x5).trans n6;have z6:w6.cell? ⟨S,9,none⟩=some (.int .i64 (root:Int)):=(by obtain⟨_,⟨a,cc,h2⟩,_,_⟩:=h6;exact h2.cell rfl)))
   | fail)
 obtain⟨h7,⟨a,cc,Ah⟩,Bg,Bh⟩:=_root_.id h6;have s9:=Ah.cell (o:=9) (v:=.int .i64 (root:Int)) rfl;have s10:=Ah.cell (o:=10) (v:=.int .i64 keys) rfl;have sf:=Ah.frozen;have H6:=oh h6;have N06:=oh n06;have Ay:=oh Aw.out.lt;obtain⟨k1,k2⟩:=Bf.out;clear h7 Ah Bg Bh h6 n06 n6 Af z5 z6 zd x5 m5 hq;cases nw with
 | true =>
  go_wp2_with fail;go_ret2
  exact⟨P6,F6,rfl,H6.out.set (i:Int) (keys+1),N06.out.withS Ay.out H6.out.2.2.2 (set2_mods _ _)⟩
 | false =>
  go_wp2_with fail;go_ret2
  exact⟨P6,F6,rfl,H6.out.set1 (i:Int),N06.out.withS Ay.out H6.out.2.2.2 (zAy _)⟩
end
end
section
open Go.RowKit
theorem qC{key v:ByteArray}:∀{ps:List PairS},SortedP ps->(withP key v true ps).length=if (findP key ps).isNone=true then ps.length+1 else ps.length
 | [],_=>rfl
 | x :: ps,hs=>by
  have hp:=List.pairwise_cons.1 hs;unfold withP;by_cases h1:ltS x.1 key=true
  .rw[if_pos h1];have he:findP key (x :: ps)=findP key ps:=by
    unfold findP;rw[List.find?_cons_of_neg (by simpa using ltS_ne h1)]
   rw[he,uB,qC hp.2];split <;> simp
  .rw[if_neg h1];by_cases h2:x.1=key
   .rw[if_pos h2];have he:findP key (x :: ps)=some x.2:=by
     unfold findP;rw[List.find?_cons_of_pos (by simpa using h2)];rfl
    rw[he];simp
   .rw[if_neg h2];have h3:ltS key x.1=true:=by
     rcases ltS_tri key x.1 with h|h|h
     .exact h
     .exact absurd h.symm h2
     .exact absurd h h1
    have he:findP key (x :: ps)=none:=by
     unfold findP;rw[List.find?_eq_none.2 (λy hy=>?_)]
     .rfl
     .rcases List.mem_cons.1 hy with rfl|hy
      .simpa using h2
      .have:=ltS_trans h3 (hp.1 y hy);simpa using (ltS_ne this).symm
    rw[he];simp
section
variable {P P' F F':Nat->Prop}{ad:Nat->Addr}{w w':World}{d S c sp n z:Nat}{s:SupA}{G:GA}{l:List Nat}
def zBz[GhoI](F P:Nat->Prop)(ad:Nat->Addr)(w:World)(z n S d c sp:Nat)(s:SupA)(hh:Nat)(G:GA)(key v:ByteArray)(ps:List PairS)(pgs pgs0:List Nat)(e:Ending)(w':World):Prop :=
 e=.returned (.tuple #[.bool (findP key ps).isNone,.nilIface])/\∃P' F' G' l' root' dd' pgs',qB F' w' P' z n S d c sp s hh G' l' root' dd' (withP key v true ps) pgs' pgs0/\Nxt (plusR P S) (plusR P' S) F F' ad w w'/\G'.cost<=G.cost+61 /\
  ((2<=ps.length->∀i∈pgs,zZ (G.view i))->2<=(withP key v true ps).length->∀i∈pgs',zZ (G'.view i))
theorem zB0[GhoI]{hh root dd:Nat}{ps:List PairS}{pgs pgs0:List Nat}{key v:ByteArray}(hL:Env F ad w)(hP:∀k,P k->F k)(h:qB F w P z n S d c sp s hh G l root dd ps pgs pgs0)(hg:s.gen+1<1000000)(A4:ps.length<900000)(hc:G.cost<=800000)
  (A5:keyB key=true) (hv:v.size<=400) (Az:(ndV G.size v:Nat)+(dd:Int)+1<phiL l) :
  Calls Tryz.prog 15 #[.pointer (some ⟨S,0,none⟩),.string key,.string v] w (zBz F P ad w z n S d c sp s hh G key v ps pgs pgs0):=by
 rcases h.lawn.put A5 hv with ⟨_,a⟩|⟨G',l',root',d',pgs',q1,q2,q3,q4,q5,q6⟩
 .omega
 refine (zBi hL hP h.st (by omega) (by omega) key v A5 (by omega) h.lawn.ctx h.lawn.td h.lawn.use (by omega) q1).mono ?_;rintro e w' ⟨P',F',rfl,h1,h2⟩;refine⟨rfl,P',F',G',l',root',d',pgs',⟨h.gho,h.home,?_,q2⟩,h2,q3,q5⟩;rw[qC h.lawn.td.sorted];cases hn:(findP key ps).isNone with
 | true =>
  rw[hn] at h1;simp only[if_true] at h1 ⊢;exact_mod_cast h1
 | false =>
  rw[hn] at h1;simpa using h1
end
abbrev PgE:=PageA × (Option Addr × Nat × Nat)
end
section
open Go.RowKit
attribute [local go_sem ↓] Go.wp_at_zero Go.wp_at_succ
theorem yF:EncOk encP 2:=⟨λ_=>rfl,by intro x u hu;simp[encP] at hu;rcases hu with rfl|rfl <;> rfl⟩
theorem Tryz.mkP:(Tryz.prog.info? 38).map (λi=>(i.zero,i.size,i.bytes))=some (some (.agg #[.string ⟨#[]⟩,.string ⟨#[]⟩]),2,32):=by kernel_rfl
theorem Tryz.elP:ElT Tryz.prog 22 38 (.agg #[.string ⟨#[]⟩,.string ⟨#[]⟩]) 2 32:=⟨Tryz.underlying22,Tryz.mkP,rfl,by decide,by decide⟩
section
variable {F:Nat->Prop}{w w' wr w2:World}
def zBH(w:World)(l:List PairS)(e:Ending)(w':World):Prop:=∃v,e=.returned v/\Own NoF w' w.heap.size 38 2 encP v l/\Ext w w'
theorem zBI(l:List PairS)(lv:Value)(hl:Sl F w 2 encP lv l)(A4:l.length<=1000)(key value:ByteArray)(over:Bool) :
  Calls Tryz.prog 51 #[lv,.string key,.string value,.bool over] w (zBH w (withP key value over l)):=by
 obtain⟨la,lc,rfl,h1,h2,h3,Ae⟩:=hl;unfold maxLen at h2;have Bi:=oh Ae;clear Ae
 go_enter Tryz.func51, Tryz.ntmps51
 go_wp2_with fail;have Bj:Hid (Own NoF (w.alloc (.cells #[] 38)) w.heap.size 38 2 encP (.slice (some ⟨w.heap.size,0,none⟩) 0 0) []):=oh
  (Own.made (l:=([]:List PairS)) (cur:=#[]) (cap:=0) (heap_at (by simp)) (by omega) (λf=>f) (uA _) (by simp[maxLen]) (by simp) (by simp) (λ_=>rfl))
 have Bk:Hid (Ext w (w.alloc (.cells #[] 38))):=oh ((Mods.refl _ w).alloc _);go_loopg [9,10,11] l.length (λm v9 v10 v11 wr=>∃(k:Nat) (dn:Bool) (out:List PairS),k+m=l.length/\v11=.int .i64 (k:Int)/\v10=.bool dn/\Hid (Own NoF wr w.heap.size 38 2 encP v9 out/\Ext w wr/\WthI key value over l k dn out))
 case atStart=>exact⟨0,false,[],by omega,rfl,rfl,oh ⟨Bj.out,Bk.out,WthI.start⟩⟩
 case round =>
  obtain⟨k,dn,out,Bt,rfl,rfl,HS⟩:=hrel;by_cases Ao:k<l.length
  .obtain⟨b,off,rfl,hb,hF,hc⟩:=Sl.at Bi.out HS.out.2.1 (λ_ _ f=>f.elim) k Ao;obtain⟨x,hx⟩:∃x,l[k]? = some x:=⟨_,uG Ao⟩;have hx':l[k]=x:=by rw[uG Ao] at hx;exact Option.some.inj hx
   rw[hx'] at hc;have c0:=hc 0 _ rfl;simp only[wJ] at c0;have c1:=hc 1 _ rfl;have HX:=oh hx;have A8:Hid (out.length<=k+1):=oh (by have:=HS.out.2.2.1;omega);clear hc hx hx';have i1:(0:Int)<=(k:Int):=by omega
   have i2:(k:Int)<(l.length:Int):=by omega
   have A6:Hid (w.heap.size<=wr.heap.size):=oh HS.out.2.1.size;cases dn with
   | true =>
    go_wp2_with (at_builtin;refine wpl_app2 Tryz.elP yF rfl _ _ rfl w.heap.size _ _ out [x] rfl rfl (HS.out.1.ext ((Mods.refl _ _).alloc _)) (Sl.one (F:=NoF) (heap_at (by simp)) (λf=>f)) (by have:=A8.out;simp only[uB,uD];omega) (by have:=hb;have:=A6.out;simp;omega) (λf=>f) ?_;intro a4 c4 w4 A2 A0 A1);have A3:Hid (Own NoF w4 w.heap.size 38 2 encP _ _/\Ext w w4/\WthI key value over l (k+1) true (out++[x])):=oh ⟨A2,(HS.out.2.1.alloc _).trans' A0 (λi hi e=>by have:=(HS.out.1.lt i e).1;omega),HS.out.2.2.pass HX.out⟩;clear A2 A0 A1;go_wp2_with fail;go_roundg (gk-1)
    case measure=>omega
    case rel=>exact⟨k+1,true,_,by omega,by go_num,rfl,A3⟩
   | false =>
    by_cases hl:ltS x.1 key=true
    .have e1:Op.bytesLess x.1.toList key.toList=true:=hl;have HE:=oh hl;clear hl;go_wp2_with (at_builtin;refine wpl_app2 Tryz.elP yF rfl _ _ rfl w.heap.size _ _ out [x] rfl rfl (HS.out.1.ext ((Mods.refl _ _).alloc _)) (Sl.one (F:=NoF) (heap_at (by simp)) (λf=>f)) (by have:=A8.out;simp only[uB,uD];omega) (by have:=hb;have:=A6.out;simp;omega) (λf=>f) ?_;intro a4 c4 w4 A2 A0 A1);have A3:Hid (Own NoF w4 w.heap.size 38 2 encP _ _/\Ext w w4/\WthI key value over l (k+1) false (out++[x])):=oh ⟨A2,(HS.out.2.1.alloc _).trans' A0 (λi hi e=>by have:=(HS.out.1.lt i e).1;omega),HS.out.2.2.lt HX.out HE.out⟩;clear A2 A0 A1;go_wp2_with fail;go_roundg (gk-1)
     case measure=>omega
     case rel=>exact⟨k+1,false,_,by omega,by go_num,rfl,A3⟩
    .have hl':ltS x.1 key=false:=by simpa using hl
     have e1:Op.bytesLess x.1.toList key.toList=false:=hl';have HE:=oh hl';clear hl hl';by_cases hk:x.1=key
     .obtain⟨xk,xv⟩:=x;simp only at hk;subst hk;cases over with
      | true =>
       go_wp2_with (at_builtin;refine wpl_app2 Tryz.elP yF rfl _ _ rfl w.heap.size _ _ out [(xk,value)] rfl rfl (HS.out.1.ext ((Mods.refl _ _).alloc _)) (Sl.one (F:=NoF) (heap_at (by simp)) (λf=>f)) (by have:=A8.out;simp only[uB,uD];omega) (by have:=A6.out;simp;omega) (λf=>f) ?_;intro a4 c4 w4 A2 A0 A1;have y0:=cellM A0 (cellE ((Mods.refl _ wr).alloc (.cells #[.string xk,.string value] 38)) c0) (λe=>by have:=(HS.out.1.lt _ e).1;omega);have y1:=cellM A0 (cellE ((Mods.refl _ wr).alloc (.cells #[.string xk,.string value] 38)) c1) (λe=>by have:=(HS.out.1.lt _ e).1;omega));have A3:Hid (Own NoF w4 w.heap.size 38 2 encP _ _/\Ext w w4/\WthI xk value true l (k+1) true (out++[(xk,value)])):=oh ⟨A2,(HS.out.2.1.alloc _).trans' A0 (λi hi e=>by have:=(HS.out.1.lt i e).1;omega),HS.out.2.2.eqO HX.out rfl⟩;clear A2 A0 A1;go_wp2_with fail;go_roundg (gk-1)
       case measure=>omega
       case rel=>exact⟨k+1,true,_,by omega,by go_num,rfl,A3⟩
      | false =>
       go_wp2_with (at_builtin;refine wpl_app2 Tryz.elP yF rfl _ _ rfl w.heap.size _ _ out [(xk,xv)] rfl rfl (HS.out.1.ext ((Mods.refl _ _).alloc _)) (Sl.one (F:=NoF) (heap_at (by simp)) (λf=>f)) (by have:=A8.out;simp only[uB,uD];omega) (by have:=A6.out;simp;omega) (λf=>f) ?_;intro a4 c4 w4 A2 A0 A1);have A3:Hid (Own NoF w4 w.heap.size 38 2 encP _ _/\Ext w w4/\WthI xk value false l (k+1) true (out++[(xk,xv)])):=oh ⟨A2,(HS.out.2.1.alloc _).trans' A0 (λi hi e=>by have:=(HS.out.1.lt i e).1;omega),HS.out.2.2.eqN HX.out rfl⟩;clear A2 A0 A1;go_wp2_with fail;go_roundg (gk-1)
       case measure=>omega
       case rel=>exact⟨k+1,true,_,by omega,by go_num,rfl,A3⟩
     .have B0:ltS key x.1=true:=(not_ltS HE.out).resolve_right hk;have e2:Op.bytesLess key.toList x.1.toList=true:=B0;have e3:¬ x.1.toList=key.toList:=λe=>hk (toList_inj e)
      have e4:¬ x.1=key:=hk;have HK:=oh hk;clear hk B0;go_wp2_with (first|(at_builtin;refine wpl_app2 Tryz.elP yF rfl _ _ rfl w.heap.size _ _ out [(key,value)] rfl rfl (HS.out.1.ext ((Mods.refl _ _).alloc _)) (Sl.one (F:=NoF) (heap_at (by simp)) (λf=>f)) (by have:=A8.out;simp only[uB,uD];omega) (by have:=A6.out;simp;omega) (λf=>f) ?_;intro a4 c4 w4 A2 A0 A1;have y0:=cellM A0 (cellE ((Mods.refl _ wr).alloc (.cells #[.string key,.string value] 38)) c0) (λe=>by have:=(HS.out.1.lt _ e).1;omega);have y1:=cellM A0 (cellE ((Mods.refl _ wr).alloc (.cells #[.string key,.string value] 38)) c1) (λe=>by have:=(HS.out.1.lt _ e).1;omega))|(at_builtin;refine wpl_app2 Tryz.elP yF rfl _ _ rfl w.heap.size _ _ (out++[(key,value)]) [x] rfl rfl (A2.ext ((Mods.refl _ _).alloc _)) (Sl.one (F:=NoF) (heap_at (by simp)) (λf=>f)) (by have:=A8.out;simp only[uC,uB,uD];omega) (by have:=A0.size;have:=A6.out;simp at *;omega) (λf=>f) ?_;intro a5 c5 w5 B1 B2 Ap));have B3:Hid (Own NoF w4 w.heap.size 38 2 encP _ (out++[(key,value)])/\Ext w w4):=oh ⟨A2,(HS.out.2.1.alloc _).trans' A0 (λi hi e=>by have:=(HS.out.1.lt i e).1;omega)⟩;have A3:Hid (Own NoF w5 w.heap.size 38 2 encP (.slice a5 (out.length+1+1) c5) (out++[(key,value)]++[x])/\Ext w w5/\WthI key value over l (k+1) true (out++[(key,value)]++[x])):=oh ⟨by have e:=B1;simp only[uC,uB,uD,wF] at e;exact e,(B3.out.2.alloc _).trans' B2 (λi hi e=>by have:=(B3.out.1.lt i e).1;omega),HS.out.2.2.gt HX.out HE.out HK.out⟩;clear B1 B2 Ap;go_wp2_with fail;go_roundg (gk-1)
      case measure=>omega
      case rel=>exact⟨k+1,true,_,by omega,by go_num,rfl,A3⟩
  .have B4:Hid (l.length<=k):=oh (by omega);have A6:Hid (w.heap.size<=wr.heap.size):=oh HS.out.2.1.size;have A8:Hid (out.length<=k+1):=oh (by have:=HS.out.2.2.1;omega);have hb:w.heap.size<=wr.heap.size:=A6.out;cases dn with
   | true =>
    go_wp2_with fail;go_ret;exact⟨_,rfl,by rw[<- HS.out.2.2.done B4.out];exact HS.out.1,HS.out.2.1⟩
   | false =>
    go_wp2_with (at_builtin;refine wpl_app2 Tryz.elP yF rfl _ _ rfl w.heap.size _ _ out [(key,value)] rfl rfl (HS.out.1.ext ((Mods.refl _ _).alloc _)) (Sl.one (F:=NoF) (heap_at (by simp)) (λf=>f)) (by have:=A8.out;simp only[uB,uD];omega) (by have:=A6.out;simp;omega) (λf=>f) ?_;intro a4 c4 w4 A2 A0 A1);have A3:Hid (Own NoF w4 w.heap.size 38 2 encP _ (withP key value over l)/\Ext w w4):=oh ⟨by rw[<- HS.out.2.2.last B4.out];exact A2,(HS.out.2.1.alloc _).trans' A0 (λi hi e=>by have:=(HS.out.1.lt i e).1;omega)⟩;clear A2 A0 A1;go_wp2_with fail;go_ret;exact⟨_,rfl,A3.out.1,A3.out.2⟩
end
end
section
open Go.RowKit Go.Maps
attribute [local go_sem ↓] Go.wp_at_zero Go.wp_at_succ
def qD(i:Int):Prop:=(Lit.int .i64 i).wf=true
def zV(w:World)(mb:Nat)(ps:List Int):Prop :=
 ∃D:DataW Unit,w.ownsMap Tryz.prog 3 (plainElem Tryz.prog 3) mb ps.length D/\IsMap D/\∀i,D.atKey (.int .i64 i) (.lit (.int .i64 0))=.lit (.int .i64 (if i∈ps then 1 else 0))
section
variable {F P P' F' P1 F1:Nat->Prop}{ad:Nat->Addr}{w w' w0:World}{c s gen kb mb:Nat}{G:GA}{l:List Nat}{pv kv pv' kv':Value}{st st':WkS}{ps:List Int}
theorem zV.made(w:World):zV (w.alloc (.map #[] 0)) w.heap.size [] :=
 ⟨.map [],World.ownsMap_made w _ _ _,isMap_empty,λ_=>rfl⟩
theorem zV.lt(h:zV w mb ps):mb<w.heap.size:=by obtain⟨D,h,_⟩:=h;exact h.lt
theorem zV.mods{Q:Nat->Prop}(h:zV w mb ps)(m:Mods Q w w')(hq:¬ Q mb):zV w' mb ps:=by
 obtain⟨D,⟨es,clock,h1,h2⟩,h3⟩:=h;exact⟨D,⟨es,clock,(m.block mb (Array.getElem?_eq_some_iff.1 h1).1 hq).trans h1,h2⟩,h3⟩
theorem zV.put{D:DataW Unit}{i:Int}(h:∀j,D.atKey (.int .i64 j) (.lit (.int .i64 0))=.lit (.int .i64 (if j∈ps then 1 else 0)))(hD:IsMap D) :
  ∀j,(D.put (.int .i64 i) (.lit (.int .i64 1))).atKey (.int .i64 j) (.lit (.int .i64 0))=.lit (.int .i64 (if j∈ps++[i] then 1 else 0)):=by
 intro j;by_cases hj:j=i
 .subst hj;rw[atKey_put_same hD (by trivial),if_pos (by simp)]
 .rw[atKey_put_other (by intro e;injection e with _ e;exact hj e),h j];by_cases hm:j∈ps
  .rw[if_pos hm,if_pos (by simp[hm])]
  .rw[if_neg hm,if_neg (by simp[hm,hj])]
theorem Tryz.seenU:Tryz.prog.underlying 133 = some (.map 3 3):=by kernel_rfl
theorem Tryz.intKeyed:Keyed Tryz.prog 3:=int_keyed Tryz.underlying3
theorem Tryz.intZero(w:World):(zeroValue 3).run Tryz.prog w=.ok (.int .i64 0) w:=by kernel_rfl
theorem Blk.notM{cs:Array Value}{t:TypeId}{b:Nat}(h:Blk w b cs t)(hs:zV w mb ps):b≠mb:=by
 obtain⟨D,⟨es,clock,h1,_⟩,_⟩:=hs;rintro rfl;have h2:w.heap[b]? = some (.cells cs t (0,0)):=h;rw[h1] at h2;cases h2
theorem Own.notM{α:Type}{Q:Nat->Prop}{base sz:Nat}{e:TypeId}{enc:α->List Value}{v:Value}{x:List α}(h:Own Q w base e sz enc v x)(hs:zV w mb ps):∀g,v.ownBlock=Option.some g->g≠mb:=by
 obtain⟨D,⟨es,clock,h1,_⟩,_⟩:=hs;rintro g hg rfl;rcases h.1.2 with ⟨rfl,_⟩|⟨g',cap,cur,rfl,_,hg',_⟩
 .simp[Value.ownBlock] at hg
 .simp[Value.ownBlock] at hg;subst hg;rw[h1] at hg';cases hg'
theorem Own.notO{α β:Type}{Q Q':Nat->Prop}{base base' sz sz':Nat}{e e':TypeId}{enc:α->List Value}{enc':β->List Value}{v v':Value}{x:List α}{x':List β}(h:Own Q w base e sz enc v x)(h':Own Q' w base' e' sz' enc' v' x')(Bl:e≠e'):∀g,v.ownBlock=Option.some g->v'.ownBlock≠Option.some g:=by
 intro g hg Aq;rcases h.1.2 with ⟨rfl,_⟩|⟨g1,cap,cur,rfl,_,k1,_⟩
 .simp[Value.ownBlock] at hg
 .rcases h'.1.2 with ⟨rfl,_⟩|⟨g2,cap2,cur2,rfl,_,k2,_⟩
  .simp[Value.ownBlock] at Aq
  .simp[Value.ownBlock] at hg Aq;subst hg Aq;rw[k1] at k2;injection k2 with k2;injection k2 with _ k2;exact Bl k2
end
end
section
open Go.RowKit
section
variable {G H:GA}{gen:Nat}
theorem EntC.seen{e:EntryA}{v:ByteArray}{ids:List Nat}(h:EntC G gen e v ids):∀i∈ids,∃p,G.view i=some (.inl p):=by
 intro i hi;rcases h with ⟨_,_,rfl⟩|⟨_,h⟩
 .simp at hi
 .obtain⟨g,_,hp⟩:=h.page;obtain⟨k,hk,rfl⟩:=List.getElem_of_mem hi;have:=hp k hk;rw[show ids.getD k 0=ids[k] by simp[List.getD,hk]] at this;exact⟨_,this⟩
theorem Ents.seen{es:List EntryA}{ps:List PairS}{q:List Nat}(h:Ents G gen es ps q):∀i∈q,∃p,G.view i=some (.inl p):=by
 induction h with
 | nil=>intro i hi;simp at hi
 | cons _ h2 _ ih=>intro i hi;exact (wA.1 hi).elim (h2.seen i) (ih i)
theorem Kids.seen{T:TreeT}{lo:ByteArray}{hi:Option ByteArray}{kk:List ByteArray}{cc:List Int}{ps:List PairS}{q:List Nat}(hT:∀lo hi c ps q,T lo hi c ps q->∀i∈q,∃p,G.view i=some (.inl p))(h:Kids T lo hi kk cc ps q):∀i∈q,∃p,G.view i=some (.inl p):=by
 induction h with
 | one h=>exact hT _ _ _ _ _ h
 | cons h1 _ _ ih=>intro i hi;exact (wA.1 hi).elim (hT _ _ _ _ _ h1 i) (ih i)
theorem TrD.seen:∀(d:Nat) (lo:ByteArray) (hi:Option ByteArray) (id:Nat) (ps:List PairS) (q:List Nat),TrD G gen d lo hi id ps q->∀i∈q,∃p,G.view i=some (.inl p)
 | 0,_,_,_,_,_,h=>h.elim
 | d+1,lo,hi,id,ps,pgs,h=>by
  obtain⟨n,q,h1,_,rfl,h3⟩:=h;intro i hi;rcases List.mem_cons.1 hi with rfl|hi
  .obtain⟨p,hp,_⟩:=h1.page;exact⟨_,hp⟩
  .rcases h3 with ⟨_,_,_,h4,_⟩|⟨_,h4⟩
   .exact h4.seen i hi
   .exact h4.seen (TrD.seen d) i hi
theorem TD.seen{root d:Nat}{ps:List PairS}{pgs:List Nat}(h:TD G gen root d ps pgs):∀i∈pgs,∃p,G.view i=some (.inl p):=by
 rcases h.tree with ⟨_,_,_,rfl⟩|⟨_,h⟩
 .intro i hi;simp at hi
 .exact TrD.seen _ _ _ _ _ _ h
end
end
end Go.Proofs.YteabpacpngaoaaaGreatDoor
