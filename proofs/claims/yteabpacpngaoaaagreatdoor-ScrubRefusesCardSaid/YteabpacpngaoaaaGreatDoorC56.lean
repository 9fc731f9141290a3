import Derived.Test.YteabpacpngaoaaaGreatDoorC55
namespace Go.Proofs.YteabpacpngaoaaaGreatDoor
open Lib renaming hid->oh
set_option maxHeartbeats 4000000
set_option maxRecDepth 100000
section
open Go.RowKit
section
variable {n:Nat}{G:GA}{l:List Nat}{root d:Nat}{ps:List zT}{pgs:List Nat}
theorem zOx{G':GA}{l':List Nat}{r:Nat × Bool}{gen:Nat}{key v:ByteArray}(hc:zBx G l)(hT:TD G gen root d ps pgs)(hu:zAW l (λk=>k∈pgs))(hkb:zAE key=true)(hv:v.size<=4096)(h:zG4 G l gen root key v=.inl (G',l',r)):G'.cost<=G.cost+61:=by
 rw[zNg hkb hv] at h;cases hs:zG5 G l gen root key v with
 | inr k=>rw[hs] at h;cases h
 | inl x =>
  obtain⟨G1,l1,o⟩:=x;obtain⟨_,_,h3,_⟩:=zLn hc hT hu hkb hv hs;rw[hs] at h;simp only at h;split at h
  .injection h with h;injection h with h _;subst h;omega
  .split at h
   .cases h
   .injection h with h;injection h with h _;subst h;have:=(zCv G1 l1 gen 0 (zCW o)).2.2;omega
theorem zNh(v:ByteArray)(h:v.size<=400):ndV 256 v<=2:=by
 unfold ndV;split
 .omega
 .unfold ndS;omega
theorem zKO:∀(ps:List zT),(∀x∈ps,x.2.size<=400)->chS 256 ps<=2 * ps.length
 | [],_=>by simp[chS]
 | x :: ps,h=>by
  have h1:=zKO ps (λy hy=>h y (List.mem_cons_of_mem _ hy));have h2:=zNh x.2 (h x List.mem_cons_self);rw[zLb,List.length_cons];omega
end
theorem zII{f g:Nat->Int}:∀n,(∀i,i<n->f i=g i)->zDA f n=zDA g n
 | 0,_=>rfl
 | n+1,h=>by rw[zDA,zDA,zII n (λi hi=>h i (by omega)),h n (by omega)]
theorem zJc:∀n,zDA (λ_=>1) n=n
 | 0=>rfl
 | n+1=>by rw[zDA,zJc n];omega
def zIs(pgs pgs0:List Nat)(i:Nat):Nat:=if i<6 then 1 else if i∈pgs then (if i∈pgs0 then 1 else 2) else if i∈pgs0 then 3 else 0
structure zB1(z n g:Nat)(G:GA)(l:List Nat)(root d:Nat)(ps:List zT)(pgs pgs0:List Nat):Prop where
 ctx:zBx G l
 td:TD G g root d ps pgs
 blk:G.blocks=n
 size:G.size=z
 len:l.length=n
 n16:16<=n
 lay:∀i,i<n->l[i]? = some (zIs pgs pgs0 i)
 hi:∀i∈pgs,6<=i
 hi0:∀i∈pgs0,6<=i/\i<n
 nd0:pgs0.Nodup
 val:∀x∈ps,x.2.size<=400
section
variable {z n g:Nat}{G:GA}{l:List Nat}{root d:Nat}{ps:List zT}{pgs pgs0:List Nat}
theorem zB1.low(h:zB1 z n g G l root d ps pgs pgs0):∀i,i<6->l[i]? = some 1:=λi hi=>by
 rw[h.lay i (by have:=h.n16;omega)];unfold zIs;rw[if_pos hi]
theorem zB1.use(h:zB1 z n g G l root d ps pgs pgs0):zAW l (λk=>k∈pgs):=λi hi=>by
 have hb:=h.td.lt i hi;have h6:=h.hi i hi;have:=h.lay i (by have:=h.blk;omega);unfold zIs at this;rw[if_neg (by omega),if_pos hi] at this;by_cases h0:i∈pgs0
 .rw[if_pos h0] at this;exact .inl this
 .rw[if_neg h0] at this;exact .inr this
theorem zB1.phi(h:zB1 z n g G l root d ps pgs pgs0):zAn l+(pgs.length:Int)+(pgs0.length:Int)+12=(n:Int):=by
 have e:=zHF l l.length (Nat.le_refl _);rw[List.take_length,h.len] at e;have hp:∀i∈pgs,i<n:=λi hi=>by have:=h.td.lt i hi;rw[h.blk] at this;exact this.2
 have h6:zDA (λi=>if i∈List.range 6 then 1 else 0) n=((List.range 6).length:Nat):=zEw _ n List.nodup_range (λi hi=>by have:=List.mem_range.1 hi;have:=h.n16;omega);have e1:=zEw pgs n h.td.nodup hp;have e2:=zEw pgs0 n h.nd0 (λi hi=>(h.hi0 i hi).2);have hs:zDA (λi=>wtL l[i]? + (if i∈pgs then 1 else 0)+(if i∈pgs0 then 1 else 0)+((if i∈List.range 6 then 1 else 0)+(if i∈List.range 6 then 1 else 0))) n=zDA (λ_=>1) n:=zII n (λi hi=>by
  rw[h.lay i hi];unfold wtL zIs;by_cases i6:i<6
  .have a1:i ∉ pgs:=λhm=>by have:=h.hi i hm;omega
   have a2:i ∉ pgs0:=λhm=>by have:=(h.hi0 i hm).1;omega
   simp[i6,a1,a2]
  .by_cases a1:i∈pgs
   .by_cases a2:i∈pgs0 <;> simp[i6,a1,a2]
   .by_cases a2:i∈pgs0 <;> simp[i6,a1,a2])
 rw[zCX,zCX,zCX,zCX,zJc,<- e,e1,e2,h6,List.length_range] at hs;omega
theorem zB1.put(h:zB1 z n g G l root d ps pgs pgs0){key v:ByteArray}(hkb:zAE key=true)(hv:v.size<=400) :
  (zG4 G l g root key v=.inr 3/\zAn l<=(ndV G.size v:Nat)+d+1) \/
  ∃G' l' root' d' pgs',zG4 G l g root key v=.inl (G',l',(root',(jP key ps).isNone))/\zB1 z n g G' l' root' d' (yS key v true ps) pgs' pgs0/\G'.cost<=G.cost+61/\2<=root' /\
   ((2<=ps.length->∀i∈pgs,zCf (G.view i))->2<=(yS key v true ps).length->∀i∈pgs',zCf (G'.view i))/\Upd G l (λk=>k∈pgs) G' l' (λk=>k∈pgs'):=by
 rcases zQ0 h.ctx h.td h.use hkb (show v.size<=4096 by omega) with a|⟨G',l',root',d',pgs',a1,a2,a3,a4,a5,a6,a7⟩
 .exact .inl a
 .have hll:∀i∈pgs',i<n:=λi hi=>by have:=(a3.lt i hi).2;rw[a2.bl,h.blk] at this;exact this
  have hzero:∀i,i<n->l[i]? = some 0->6<=i/\i ∉ pgs/\i ∉ pgs0:=λi hi h0=>by
   have hl:=h.lay i hi;rw[h0] at hl;unfold zIs at hl;by_cases h6:i<6
   .rw[if_pos h6] at hl;simp at hl
   .rw[if_neg h6] at hl;by_cases h1:i∈pgs
    .rw[if_pos h1] at hl;split at hl <;> simp at hl
    .rw[if_neg h1] at hl;by_cases h2:i∈pgs0
     .rw[if_pos h2] at hl;simp at hl
     .exact⟨by omega,h1,h2⟩
  have h6':∀i∈pgs',6<=i:=λi hi=>by
   rcases a2.inn i hi with ⟨b1,_⟩|⟨b1,_⟩
   .exact h.hi i b1
   .exact (hzero i (hll i hi) b1).1
  refine .inr ⟨G',l',root',d',pgs',a1,⟨a5,a3,by rw[a2.bl,h.blk],by rw[a2.sz,h.size],by rw[a2.len,h.len],h.n16,λi hi=>?_,h6',h.hi0,h.nd0,λx hx=>?_⟩,zOx h.ctx h.td h.use hkb (by omega) a1,a6,λhF h2=>?_,a2⟩
  .have hl:=h.lay i hi;unfold zIs at hl ⊢;by_cases i6:i<6
   .rw[if_pos i6] at hl ⊢;rw[(a2.rest i (λhm=>by have:=h.hi i hm;omega) (λhm=>by have:=h6' i hm;omega)).1];exact hl
   .rw[if_neg i6] at hl ⊢;by_cases h2:i∈pgs'
    .rw[if_pos h2];rcases a2.inn i h2 with ⟨b1,b2⟩|⟨b1,b2⟩
     .rw[b2,hl,if_pos b1]
     .rw[if_neg (hzero i hi b1).2.2];exact b2
    .rw[if_neg h2];by_cases h1:i∈pgs
     .rw[if_pos h1] at hl;by_cases h0:i∈pgs0
      .rw[if_pos h0] at hl ⊢;rcases a2.gone i h1 h2 with ⟨b1,_⟩|⟨_,b2⟩
       .rw[hl] at b1;cases b1
       .exact b2
      .rw[if_neg h0] at hl ⊢;rcases a2.gone i h1 h2 with ⟨_,b2⟩|⟨b1,_⟩
       .exact b2
       .rw[hl] at b1;cases b1
     .rw[(a2.rest i h1 h2).1,hl,if_neg h1]
  .rcases zF6 hx with rfl|hx
   .exact hv
   .exact h.val x hx
  .refine zQI h.ctx h.td (λi i6 hu=>?_) hF hkb (by omega) rfl a1 (λi hi=>⟨h6' i hi,a4 i hi⟩) h2;have hi:i<n:=by
    rw[<- h.len];rcases hu with e|e <;> exact (List.getElem?_eq_some_iff.1 e).1
   have hl:=h.lay i hi;unfold zIs at hl;rw[if_neg (by omega)] at hl;by_cases h1:i∈pgs
   .exact h1
   .rw[if_neg h1] at hl;unfold InU at hu;rw[hl] at hu;split at hu <;> simp at hu
theorem zB1.commit(h:zB1 z n g G l root d ps pgs pgs0):zB1 z n (g+1) (zEf G) (zAS l) root d ps pgs pgs:=by
 have hlay:∀i,i<n->(zAS l)[i]? = some (zIs pgs pgs i):=λi hi=>by
  unfold zAS zBb;rw[List.getElem?_map,List.getElem?_map,h.lay i hi];simp only[Option.map_some];unfold zIs;by_cases i6:i<6
  .simp[i6]
  .by_cases h1:i∈pgs
   .by_cases h0:i∈pgs0 <;> simp[i6,h1,h0]
   .by_cases h0:i∈pgs0 <;> simp[i6,h1,h0]
 have hlen:(zAS l).length=n:=by unfold zAS zBb;simp[h.len]
 have h16:=h.n16;have hb:=h.ctx.b256;refine⟨⟨⟨?_,?_⟩,?_,hb,h.ctx.s256,h.ctx.s1024⟩,h.td.mono (by omega) rfl rfl (λ_ _=>rfl),h.blk,h.size,hlen,h16,hlay,h.hi,λi hi=>⟨h.hi i hi,by have:=(h.td.lt i hi).2;rw[h.blk] at this;exact this⟩,h.td.nodup,h.val⟩
 .rw[hlay 0 (by omega)];rfl
 .rw[hlay 1 (by omega)];rfl
 .rw[hlen];exact h.blk.symm
end
theorem zB1.new[zW]{z n:Nat}(h16:16<=n)(h256:n<=256){D:zI}(hb:D.blocks=n)(hs:D.size=z)(hz:256<=z/\z<=1024)(g:Nat):zB1 z n g (zQk (zCc (zEZ D))) (zAz n [0,1,2,3,4,5]) 0 0 [] [] []:=by
 refine⟨⟨⟨by rw[zAl _ (by omega),if_pos (by simp)],by rw[zAl _ (by omega),if_pos (by simp)]⟩,?_,?_,?_,?_⟩,TD.none _ _,hb,hs,zBY _ _,h16,λi hi=>?_,λi hi=>by simp at hi,λi hi=>by simp at hi,List.nodup_nil,λx hx=>by simp at hx⟩
 .rw[zBY];exact hb.symm
 .show D.blocks<=256;omega
 .show 256<=D.size;omega
 .show D.size<=1024;omega
 .rw[zAl _ hi];unfold zIs;by_cases h6:i<6
  .rw[if_pos h6,if_pos (by simp;omega)]
  .rw[if_neg h6,if_neg (by simp;omega),if_neg (by simp),if_neg (by simp)]
structure zSD[zW](z n d:Nat)(s:yM):Prop where
 disk:d=zGT
 low:∃m,zRb s m/\zAa m=true/\m.gen=s.gen/\m.blocks=s.blocks
 ok:zBP s=true
 blk:s.blocks=n
 siz:s.size=z
section
variable {P P' F F':Nat->Prop}{ad:Nat->Addr}{w w':World}{d S c sp n z:Nat}{s:yM}{G:GA}{l:List Nat}{D:zI}
structure zFx[zW](F:Nat->Prop)(w:World)(P:Nat->Prop)(z n S d c sp:Nat)(s:yM)(hh:Nat)(G:GA)(l:List Nat)(root dd:Nat)(ps:List zT)(pgs pgs0:List Nat):Prop where
 gho:zSD z n d s
 home:hh<2
 st:StR F w P S d c sp s (hh:Int) ((root:Nat):Int) ((ps.length:Nat):Int) G l
 lawn:zB1 z n (s.gen+1) G l root dd ps pgs pgs0
theorem zQJ(d:Nat)(_:zC7 D):∃i:zW,@zGT i=d /\ @vQ i=6/\∀j,@zCM i j=(zEZ D).look j:=⟨⟨⟨d,6,(zEZ D).look⟩⟩,rfl,rfl,λ_=>rfl⟩
theorem zQ7(hL:yG F ad w)(hP:∀k,P k->F k)(h:jT w P d D)(hD:zC7 D)(h16:16<=D.blocks)(hs:D.size=z)(q:Nat)(h3:3<=q)(h64:q<=64) :
  Calls Tryz.prog 10 #[.pointer (some ⟨d,0,none⟩),.int .i64 (q:Int)] w λe w'=>∃S c sp P' F',e=.returned (.tuple #[.pointer (some ⟨S,0,none⟩),.nilIface])/\(∃(_:zW) (G:GA) (l:List Nat),zFx F' w' P' z D.blocks S d c sp (zAq D) 0 G l 0 0 [] [] []/\G.cost=0)/\zY P P' F F' ad w w':=by
 obtain⟨i,i1,i2,i3⟩:=zQJ d hD;obtain⟨hW,_⟩:=zCu hD;refine (zMj i1.symm (by omega) (λj _=>(i3 j).symm) hL hP h hD q h3 h64).mono ?_;rintro e w' ⟨S,c,sp,P',F',rfl,h1,h2⟩;refine⟨S,c,sp,P',F',rfl,⟨i,_,_,⟨⟨i1.symm,⟨zCR D,⟨i2,(i3 0).trans hW.sup0,(i3 1).trans hW.sup1,(i3 _).trans hW.map0,(i3 _).trans hW.map1⟩,hW.mok,rfl,rfl⟩,hW.ok,rfl,hs⟩,by omega,h1,zB1.new h16 hD.b256 rfl hs (hs ▸ ⟨hD.s256,hD.s1024⟩) _⟩,rfl⟩,h2⟩
theorem zNi[i0:zW]{hh root dd:Nat}{ps:List zT}{pgs pgs0:List Nat}(hL:yG F ad w)(hP:∀k,P k->F k)(h:zFx F w P z n S d c sp s hh G l root dd ps pgs pgs0)(hg:s.gen+1<1000000)(hlen:ps.length<=1000000)(hc:G.cost<=800000) :
  Calls Tryz.prog 16 #[.pointer (some ⟨S,0,none⟩)] w λe w'=>e=.returned .nilIface/\∃P' F',(∃(_:zW),zFx F' w' P' z n S d c sp (jG s root ps.length) (1-hh) (zEf G) (zAS l) root dd ps pgs pgs)/\zY (qE P S) (qE P' S) F F' ad w w':=by
 have hn:=h.lawn.ctx.b256;have hnb:=h.lawn.blk;obtain⟨m0,hlow,hm0,hm1,hm2⟩:=h.gho.low;have h6:=hlow.low;obtain⟨C,hS,hI,hR,hcc,hLP⟩:=h.st.open h.gho.disk;have hroot:root=0\/2<=root/\root<n:=by
  rcases h.lawn.td.tree with ⟨h0,_⟩|⟨hd,hT⟩
  .exact .inl h0
  .obtain⟨r,hr⟩:=TrD.head _ _ _ _ _ _ hT;have hl:=h.lawn.td.lt root (by rw[hr];simp);exact .inr ⟨hl.1,by omega⟩
 have hroot0:root=0->ps.length=0:=λe=>by
  rcases h.lawn.td.tree with ⟨_,_,h2,_⟩|⟨hd,hT⟩
  .rw[h2];rfl
  .obtain⟨r,hr⟩:=TrD.head _ _ _ _ _ _ hT;have hl:=h.lawn.td.lt root (by rw[hr];simp);omega
 have hok:zBP (jG s root ps.length)=true:=by
  obtain⟨a1,a2,a3,a4,a5,a6,a7⟩:=(zAZ s).1 h.gho.ok;exact (zAZ _).2 ⟨a1,a2,a3,a4,by show ps.length<=_;omega,by show root=0\/2<=root/\root<s.blocks;rw[h.gho.blk];exact hroot,hroot0⟩
 have hCb:C.disk.blocks=n:=hR.blocks.trans hnb;have hCs:C.disk.size=z:=hR.size.trans h.lawn.size;have hwt:zCb C.disk:=by
  obtain⟨sb,bvs,Pd,h1,_⟩:=hS.ca hL hP;exact⟨hI.off,hI.lit,zRI h1,hI.lenL,hI.len⟩
 have hm:zAa (zE8 (s.gen+1) s.blocks l)=true:=zPu (by have:=h.lawn.n16;rw[h.gho.blk];omega) (by rw[h.gho.blk];omega) (by rw[h.gho.blk];exact h.lawn.len) h.lawn.low;have hlk:∀q,q<2->C.disk.look q=yJ s q:=λq hq=>by
  have hk:=(hR.look q (zCM q) (.inr ⟨by omega,rfl⟩)).1;rw[hk];rcases (show q=0\/q=1 by omega) with rfl|rfl
  .exact hlow.sup0
  .exact hlow.sup1
 have hhome:=h.home;refine (zP8 h6 hL hP (hh:=hh) (q:=1-hh) ⟨h.home,rfl⟩ hS hI (by have:=hR.cost;omega) hwt (zE8 (s.gen+1) s.blocks l) hm rfl (by omega) rfl (zMk _ _ _) (h.gho.siz.trans hCs.symm) hok (s1:=s) (by rw[hlk _ (by omega)];exact zEl h.gho.ok (by omega) (by omega))).mono ?_;rintro e w' ⟨rfl,P',F',C1,hLa,hS2,hN⟩;obtain⟨k1,k2,k3⟩:=zMl (nx:=jG s root ps.length) h6 hI hR hm hLa rfl (show s.size=_ from h.gho.siz.trans hCs.symm) hok hh h.home;have hd:=h.gho.disk;have hlaw:=h.lawn.commit;have hblk:=h.gho.blk;have hsiz:=h.gho.siz;have hl1:=h.lawn.low;refine⟨rfl,P',F',⟨zC8 (jG s root ps.length) (zE8 (s.gen+1) s.blocks l),?_⟩,hN⟩;have hLP2 : @zGB (zC8 (jG s root ps.length) (zE8 (s.gen+1) s.blocks l)) d (zAS l):=⟨hd,λi hi=>by
  have hi:i < @vQ i0:=hi;left
  unfold zAS zBb;rw[List.getElem?_map,List.getElem?_map,hl1 i (by omega)];rfl⟩
 have hst:=@StO.st P' F' w' d (zC8 (jG s root ps.length) (zE8 (s.gen+1) s.blocks l)) S c sp (jG s root ps.length) _ _ _ _ (zEf G) (zAS l) hS2 k1 k2 (by show 0<=_;omega) hLP2;exact @zFx.mk (zC8 (jG s root ps.length) (zE8 (s.gen+1) s.blocks l)) F' w' P' z n S d c sp (jG s root ps.length) (1-hh) (zEf G) (zAS l) root dd ps pgs pgs
  (@zSD.mk (zC8 (jG s root ps.length) (zE8 (s.gen+1) s.blocks l)) z n d (jG s root ps.length) hd ⟨zE8 (s.gen+1) s.blocks l,zOd h6 _ _,hm,rfl,rfl⟩ hok hblk hsiz) (by omega) hst hlaw
end
end
section
open Go.RowKit
attribute [local go_sem ↓] Go.wp_at_zero Go.wp_at_succ
section
variable {P P' F F':Nat->Prop}{ad:Nat->Addr}{w w':World}{S d c sp:Nat}{s:yM}{home keys:Int}{root:Nat}{G G':GA}{l l':List Nat}
theorem StR.set1[zW](h:StR F w P S d c sp s home (root:Int) keys G l)(r:Int):StR F (w.setCell ⟨S,9,none⟩ (.int .i64 r)) P S d c sp s home r keys G l:=by
 obtain⟨h1,⟨a,cc,h2⟩,h3,h4⟩:=h;have m:zA (λj=>j=S) w (w.setCell ⟨S,9,none⟩ (.int .i64 r)):=zA.setCell (F:=λj=>j=S) (zA.refl _ w) (p:=⟨S,9,none⟩) (.inr rfl) _;exact⟨h1.plus m (λk hk e=>by have e':k=S:=e;exact h3 (e' ▸ hk)) (λk e=>by have e':k=S:=e;rw[e'];exact h4) (λ_ _ h=>h),⟨a,cc,by simpa[stC] using h2.set 9 (.int .i64 r)⟩,h3,h4⟩
theorem zOy(r:Int):zA (λj=>j=S) w (w.setCell ⟨S,9,none⟩ (.int .i64 r)):=zA.setCell (F:=λj=>j=S) (zA.refl _ w) (p:=⟨S,9,none⟩) (.inr rfl) _
def zRi[zW](F P:Nat->Prop)(ad:Nat->Addr)(w:World)(S d c sp:Nat)(s:yM)(home keys:Int)(G':GA)(l':List Nat)(i:Nat)(nw:Bool)(e:Ending)(w':World):Prop :=
 ∃P' F',e=.returned (.tuple #[.bool nw,.nilIface])/\StR F' w' P' S d c sp s home (i:Int) (if nw then keys+1 else keys) G' l'/\zY (qE P S) (qE P' S) F F' ad w w'
theorem zRj[zW]{dd:Nat}{ps:List zT}{pgs:List Nat}{i:Nat}{nw:Bool}(hL:yG F ad w)(hP:∀k,P k->F k)(h:StR F w P S d c sp s home (root:Int) keys G l)(hg:s.gen+1<18446744073709551616)(hkk:0<=keys/\keys<1000000)(key v:ByteArray)(hk:zAE key=true)(hv:v.size<=4096)(hc:zBx G l)(hT:TD G (s.gen+1) root dd ps pgs)(hu:zAW l (λk=>k∈pgs))(hco:G.cost+300<=1000000)(hr:zG4 G l (s.gen+1) root key v=.inl (G',l',(i,nw))) :
  Calls Tryz.prog 15 #[.pointer (some ⟨S,0,none⟩),.string key,.string v] w (zRi F P ad w S d c sp s home keys G' l' i nw):=by
 have HAL:=oh (λop=>zQv h op);have HPG:=oh (λW (m:zF w W)=>zQw (h.at m) hg);have HPU:=oh (λW (m:zF w W)=>zLo (hL.mods m.ext) hP (h.at m).1 hg hc hT hu hk hv hco);have HRR:=oh hr;have HST:=oh h;have HN:=oh (λW (m:zF w W)=>zY.ext hL hP m);have c9:Hid (∀W,zF w W->W.cell? ⟨S,9,none⟩=some (.int .i64 (root:Int))):=oh (λW m=>by obtain⟨_,⟨a,cc,h2⟩,_,_⟩:=h.at m;exact h2.cell rfl);have HKK:=oh hkk;rw[hr] at HPU;clear hL hP h hg hk hv hc hT hu hco hkk hr;obtain⟨pg,hpg⟩:∃pg,pg=pgV c sp (s.gen+1):=⟨_,rfl⟩;rw[<- hpg] at HPG HPU;clear hpg
 go_enter Tryz.func15, Tryz.ntmps15
 go_wp2_with fail;refine (HAL.out _).mono ?_;rintro e w1 ⟨rfl,rfl⟩;have zd:=c9.out _ (zA.refl _ w).drew;go_wp2_with fail;go_region_held3 (λw'=>w'.cell? ⟨S,9,none⟩=some (.int .i64 (root:Int)))
  (first|(with_reducible exact zd)|(with_reducible exact z5)|(with_reducible exact z6)|fail)
  (first
   | (go_at_call 55;(with_reducible refine (HPG.out _ (zA.refl _ w).drew).mono ?_);rintro e w5 ⟨rfl,m5⟩;have x5:=(zA.refl _ w).drew.trans m5;have z5:=c9.out _ x5)
   | (go_at_call 54;((with_reducible refine (HPU.out _ x5).mono ?_);intro e w6 hq;obtain⟨P6,F6,hG6,n6,rfl⟩:∃P6 F6,jU F6 w6 P6 c sp G' l'/\zY P P6 F F6 ad _ w6/\e=.returned (.tuple #[.int .i64 ((i:Nat):Int),.bool nw,.nilIface]):=(by obtain⟨P6,F6,G6,l6,hG6,n6,⟨i6,nw6,hr6,he⟩|⟨k6,f6,el6,hr6,_⟩⟩:=hq;(· simp only[Sum.inl.injEq,Prod.mk.injEq] at hr6;obtain⟨rfl,rfl,rfl,rfl⟩:=hr6;exact⟨P6,F6,hG6,n6,he⟩);(· cases hr6));have h6:=(HST.out.at x5).nxt n6 hG6;have n06:=(HN.out _ x5).trans n6;have z6:w6.cell? ⟨S,9,none⟩=some (.int .i64 (root:Int)):=(by obtain⟨_,⟨a,cc,h2⟩,_,_⟩:=h6;exact h2.cell rfl)))
   | fail)
 obtain⟨h7,⟨a,cc,hB6⟩,hn6,hf6⟩:=_root_.id h6;have s9:=hB6.cell (o:=9) (v:=.int .i64 (root:Int)) rfl;have s10:=hB6.cell (o:=10) (v:=.int .i64 keys) rfl;have sf:=hB6.frozen;have H6:=oh h6;have N06:=oh n06;have HSW:=oh HST.out.lt;obtain⟨k1,k2⟩:=HKK.out;clear h7 hB6 hn6 hf6 h6 n06 n6 hG6 z5 z6 zd x5 m5 hq;cases nw with
 | true =>
  go_wp2_with fail;go_ret2
  exact⟨P6,F6,rfl,H6.out.set (i:Int) (keys+1),N06.out.withS HSW.out H6.out.2.2.2 (zOk _ _)⟩
 | false =>
  go_wp2_with fail;go_ret2
  exact⟨P6,F6,rfl,H6.out.set1 (i:Int),N06.out.withS HSW.out H6.out.2.2.2 (zOy _)⟩
end
end
section
open Go.RowKit
theorem zFy{key v:ByteArray}:∀{ps:List zT},zA5 ps->(yS key v true ps).length=if (jP key ps).isNone=true then ps.length+1 else ps.length
 | [],_=>rfl
 | x :: ps,hs=>by
  have hp:=List.pairwise_cons.1 hs;unfold yS;by_cases h1:ltS x.1 key=true
  .rw[if_pos h1];have he:jP key (x :: ps)=jP key ps:=by
    unfold jP;rw[List.find?_cons_of_neg (by simpa using zF5 h1)]
   rw[he,List.length_cons,zFy hp.2];split <;> simp
  .rw[if_neg h1];by_cases h2:x.1=key
   .rw[if_pos h2];have he:jP key (x :: ps)=some x.2:=by
     unfold jP;rw[List.find?_cons_of_pos (by simpa using h2)];rfl
    rw[he];simp
   .rw[if_neg h2];have h3:ltS key x.1=true:=by
     rcases zNJ key x.1 with h|h|h
     .exact h
     .exact absurd h.symm h2
     .exact absurd h h1
    have he:jP key (x :: ps)=none:=by
     unfold jP;rw[List.find?_eq_none.2 (λy hy=>?_)]
     .rfl
     .rcases List.mem_cons.1 hy with rfl|hy
      .simpa using h2
      .have:=zAw h3 (hp.1 y hy);simpa using (zF5 this).symm
    rw[he];simp
section
variable {P P' F F':Nat->Prop}{ad:Nat->Addr}{w w':World}{d S c sp n z:Nat}{s:yM}{G:GA}{l:List Nat}
def zSQ[zW](F P:Nat->Prop)(ad:Nat->Addr)(w:World)(z n S d c sp:Nat)(s:yM)(hh:Nat)(G:GA)(key v:ByteArray)(ps:List zT)(pgs pgs0:List Nat)(e:Ending)(w':World):Prop :=
 e=.returned (.tuple #[.bool (jP key ps).isNone,.nilIface])/\∃P' F' G' l' root' dd' pgs',zFx F' w' P' z n S d c sp s hh G' l' root' dd' (yS key v true ps) pgs' pgs0/\zY (qE P S) (qE P' S) F F' ad w w'/\G'.cost<=G.cost+61 /\
  ((2<=ps.length->∀i∈pgs,zCf (G.view i))->2<=(yS key v true ps).length->∀i∈pgs',zCf (G'.view i))
theorem zSR[zW]{hh root dd:Nat}{ps:List zT}{pgs pgs0:List Nat}{key v:ByteArray}(hL:yG F ad w)(hP:∀k,P k->F k)(h:zFx F w P z n S d c sp s hh G l root dd ps pgs pgs0)(hg:s.gen+1<1000000)(hlen:ps.length<900000)(hc:G.cost<=800000)
  (hkb:zAE key=true) (hv:v.size<=400) (hroom:(ndV G.size v:Nat)+(dd:Int)+1<zAn l) :
  Calls Tryz.prog 15 #[.pointer (some ⟨S,0,none⟩),.string key,.string v] w (zSQ F P ad w z n S d c sp s hh G key v ps pgs pgs0):=by
 rcases h.lawn.put hkb hv with ⟨_,a⟩|⟨G',l',root',d',pgs',q1,q2,q3,q4,q5,q6⟩
 .omega
 refine (zRj hL hP h.st (by omega) (by omega) key v hkb (by omega) h.lawn.ctx h.lawn.td h.lawn.use (by omega) q1).mono ?_;rintro e w' ⟨P',F',rfl,h1,h2⟩;refine⟨rfl,P',F',G',l',root',d',pgs',⟨h.gho,h.home,?_,q2⟩,h2,q3,q5⟩;rw[zFy h.lawn.td.sorted];cases hn:(jP key ps).isNone with
 | true =>
  rw[hn] at h1;simp only[if_true] at h1 ⊢;exact_mod_cast h1
 | false =>
  rw[hn] at h1;simpa using h1
end
abbrev PgE:=zX × (Option Addr × Nat × Nat)
end
section
open Go.RowKit
attribute [local go_sem ↓] Go.wp_at_zero Go.wp_at_succ
theorem zDP:zCh zCJ 2:=⟨λ_=>rfl,by intro x u hu;simp[zCJ] at hu;rcases hu with rfl|rfl <;> rfl⟩
theorem Tryz.mkP:(Tryz.prog.info? 38).map (λi=>(i.zero,i.size,i.bytes))=some (some (.agg #[.string ⟨#[]⟩,.string ⟨#[]⟩]),2,32):=by kernel_rfl
theorem Tryz.elP:ElT Tryz.prog 22 38 (.agg #[.string ⟨#[]⟩,.string ⟨#[]⟩]) 2 32:=⟨Tryz.underlying22,Tryz.mkP,rfl,by decide,by decide⟩
section
variable {F:Nat->Prop}{w w' wr w2:World}
def zQK(w:World)(l:List zT)(e:Ending)(w':World):Prop:=∃v,e=.returned v/\yC NoF w' w.heap.size 38 2 zCJ v l/\zF w w'
theorem zQL(l:List zT)(lv:Value)(hl:Sl F w 2 zCJ lv l)(hlen:l.length<=1000)(key value:ByteArray)(over:Bool) :
  Calls Tryz.prog 51 #[lv,.string key,.string value,.bool over] w (zQK w (yS key value over l)):=by
 obtain⟨la,lc,rfl,h1,h2,h3,hll⟩:=hl;unfold maxLen at h2;have HLL:=oh hll;clear hll
 go_enter Tryz.func51, Tryz.ntmps51
 go_wp2_with fail;have HO0:Hid (yC NoF (w.alloc (.cells #[] 38)) w.heap.size 38 2 zCJ (.slice (some ⟨w.heap.size,0,none⟩) 0 0) []):=oh
  (yC.made (l:=([]:List zT)) (cur:=#[]) (cap:=0) (zR (by simp)) (by omega) (λf=>f) (Nat.le_refl _) (by simp[maxLen]) (by simp) (by simp) (λ_=>rfl))
 have HM0:Hid (zF w (w.alloc (.cells #[] 38))):=oh ((zA.refl _ w).alloc _);go_loopg [9,10,11] l.length (λm v9 v10 v11 wr=>∃(k:Nat) (dn:Bool) (out:List zT),k+m=l.length/\v11=.int .i64 (k:Int)/\v10=.bool dn/\Hid (yC NoF wr w.heap.size 38 2 zCJ v9 out/\zF w wr/\zBv key value over l k dn out))
 case atStart=>exact⟨0,false,[],by omega,rfl,rfl,oh ⟨HO0.out,HM0.out,zBv.start⟩⟩
 case round =>
  obtain⟨k,dn,out,hkm,rfl,rfl,HS⟩:=hrel;by_cases hlt:k<l.length
  .obtain⟨b,off,rfl,hb,hF,hc⟩:=Sl.at HLL.out HS.out.2.1 (λ_ _ f=>f.elim) k hlt;obtain⟨x,hx⟩:∃x,l[k]? = some x:=⟨_,List.getElem?_eq_getElem hlt⟩;have hx':l[k]=x:=by rw[List.getElem?_eq_getElem hlt] at hx;exact Option.some.inj hx
   rw[hx'] at hc;have c0:=hc 0 _ rfl;simp only[Nat.add_zero] at c0;have c1:=hc 1 _ rfl;have HX:=oh hx;have HOL:Hid (out.length<=k+1):=oh (by have:=HS.out.2.2.1;omega);clear hc hx hx';have i1:(0:Int)<=(k:Int):=by omega
   have i2:(k:Int)<(l.length:Int):=by omega
   have HSZ:Hid (w.heap.size<=wr.heap.size):=oh HS.out.2.1.size;cases dn with
   | true =>
    go_wp2_with (at_builtin;refine yU Tryz.elP zDP rfl _ _ rfl w.heap.size _ _ out [x] rfl rfl (HS.out.1.ext ((zA.refl _ _).alloc _)) (Sl.one (F:=NoF) (zR (by simp)) (λf=>f)) (by have:=HOL.out;simp only[List.length_cons,List.length_nil];omega) (by have:=hb;have:=HSZ.out;simp;omega) (λf=>f) ?_;intro a4 c4 w4 hO4 hm4 hat4);have HS4:Hid (yC NoF w4 w.heap.size 38 2 zCJ _ _/\zF w w4/\zBv key value over l (k+1) true (out++[x])):=oh ⟨hO4,(HS.out.2.1.alloc _).trans' hm4 (λi hi e=>by have:=(HS.out.1.lt i e).1;omega),HS.out.2.2.pass HX.out⟩;clear hO4 hm4 hat4;go_wp2_with fail;go_roundg (gk-1)
    case measure=>omega
    case rel=>exact⟨k+1,true,_,by omega,by go_num,rfl,HS4⟩
   | false =>
    by_cases hl:ltS x.1 key=true
    .have e1:Op.bytesLess x.1.toList key.toList=true:=hl;have HE:=oh hl;clear hl;go_wp2_with (at_builtin;refine yU Tryz.elP zDP rfl _ _ rfl w.heap.size _ _ out [x] rfl rfl (HS.out.1.ext ((zA.refl _ _).alloc _)) (Sl.one (F:=NoF) (zR (by simp)) (λf=>f)) (by have:=HOL.out;simp only[List.length_cons,List.length_nil];omega) (by have:=hb;have:=HSZ.out;simp;omega) (λf=>f) ?_;intro a4 c4 w4 hO4 hm4 hat4);have HS4:Hid (yC NoF w4 w.heap.size 38 2 zCJ _ _/\zF w w4/\zBv key value over l (k+1) false (out++[x])):=oh ⟨hO4,(HS.out.2.1.alloc _).trans' hm4 (λi hi e=>by have:=(HS.out.1.lt i e).1;omega),HS.out.2.2.lt HX.out HE.out⟩;clear hO4 hm4 hat4;go_wp2_with fail;go_roundg (gk-1)
     case measure=>omega
     case rel=>exact⟨k+1,false,_,by omega,by go_num,rfl,HS4⟩
    .have hl':ltS x.1 key=false:=by simpa using hl
     have e1:Op.bytesLess x.1.toList key.toList=false:=hl';have HE:=oh hl';clear hl hl';by_cases hk:x.1=key
     .obtain⟨xk,xv⟩:=x;simp only at hk;subst hk;cases over with
      | true =>
       go_wp2_with (at_builtin;refine yU Tryz.elP zDP rfl _ _ rfl w.heap.size _ _ out [(xk,value)] rfl rfl (HS.out.1.ext ((zA.refl _ _).alloc _)) (Sl.one (F:=NoF) (zR (by simp)) (λf=>f)) (by have:=HOL.out;simp only[List.length_cons,List.length_nil];omega) (by have:=HSZ.out;simp;omega) (λf=>f) ?_;intro a4 c4 w4 hO4 hm4 hat4;have y0:=zNQ hm4 (zE ((zA.refl _ wr).alloc (.cells #[.string xk,.string value] 38)) c0) (λe=>by have:=(HS.out.1.lt _ e).1;omega);have y1:=zNQ hm4 (zE ((zA.refl _ wr).alloc (.cells #[.string xk,.string value] 38)) c1) (λe=>by have:=(HS.out.1.lt _ e).1;omega));have HS4:Hid (yC NoF w4 w.heap.size 38 2 zCJ _ _/\zF w w4/\zBv xk value true l (k+1) true (out++[(xk,value)])):=oh ⟨hO4,(HS.out.2.1.alloc _).trans' hm4 (λi hi e=>by have:=(HS.out.1.lt i e).1;omega),HS.out.2.2.eqO HX.out rfl⟩;clear hO4 hm4 hat4;go_wp2_with fail;go_roundg (gk-1)
       case measure=>omega
       case rel=>exact⟨k+1,true,_,by omega,by go_num,rfl,HS4⟩
      | false =>
       go_wp2_with (at_builtin;refine yU Tryz.elP zDP rfl _ _ rfl w.heap.size _ _ out [(xk,xv)] rfl rfl (HS.out.1.ext ((zA.refl _ _).alloc _)) (Sl.one (F:=NoF) (zR (by simp)) (λf=>f)) (by have:=HOL.out;simp only[List.length_cons,List.length_nil];omega) (by have:=HSZ.out;simp;omega) (λf=>f) ?_;intro a4 c4 w4 hO4 hm4 hat4);have HS4:Hid (yC NoF w4 w.heap.size 38 2 zCJ _ _/\zF w w4/\zBv xk value false l (k+1) true (out++[(xk,xv)])):=oh ⟨hO4,(HS.out.2.1.alloc _).trans' hm4 (λi hi e=>by have:=(HS.out.1.lt i e).1;omega),HS.out.2.2.eqN HX.out rfl⟩;clear hO4 hm4 hat4;go_wp2_with fail;go_roundg (gk-1)
       case measure=>omega
       case rel=>exact⟨k+1,true,_,by omega,by go_num,rfl,HS4⟩
     .have hk2:ltS key x.1=true:=(zDo HE.out).resolve_right hk;have e2:Op.bytesLess key.toList x.1.toList=true:=hk2;have e3:¬ x.1.toList=key.toList:=λe=>hk (toList_inj e)
      have e4:¬ x.1=key:=hk;have HK:=oh hk;clear hk hk2;go_wp2_with (first|(at_builtin;refine yU Tryz.elP zDP rfl _ _ rfl w.heap.size _ _ out [(key,value)] rfl rfl (HS.out.1.ext ((zA.refl _ _).alloc _)) (Sl.one (F:=NoF) (zR (by simp)) (λf=>f)) (by have:=HOL.out;simp only[List.length_cons,List.length_nil];omega) (by have:=HSZ.out;simp;omega) (λf=>f) ?_;intro a4 c4 w4 hO4 hm4 hat4;have y0:=zNQ hm4 (zE ((zA.refl _ wr).alloc (.cells #[.string key,.string value] 38)) c0) (λe=>by have:=(HS.out.1.lt _ e).1;omega);have y1:=zNQ hm4 (zE ((zA.refl _ wr).alloc (.cells #[.string key,.string value] 38)) c1) (λe=>by have:=(HS.out.1.lt _ e).1;omega))|(at_builtin;refine yU Tryz.elP zDP rfl _ _ rfl w.heap.size _ _ (out++[(key,value)]) [x] rfl rfl (hO4.ext ((zA.refl _ _).alloc _)) (Sl.one (F:=NoF) (zR (by simp)) (λf=>f)) (by have:=HOL.out;simp only[List.length_append,List.length_cons,List.length_nil];omega) (by have:=hm4.size;have:=HSZ.out;simp at *;omega) (λf=>f) ?_;intro a5 c5 w5 hO5 hm5 hat5));have HS3:Hid (yC NoF w4 w.heap.size 38 2 zCJ _ (out++[(key,value)])/\zF w w4):=oh ⟨hO4,(HS.out.2.1.alloc _).trans' hm4 (λi hi e=>by have:=(HS.out.1.lt i e).1;omega)⟩;have HS4:Hid (yC NoF w5 w.heap.size 38 2 zCJ (.slice a5 (out.length+1+1) c5) (out++[(key,value)]++[x])/\zF w w5/\zBv key value over l (k+1) true (out++[(key,value)]++[x])):=oh ⟨by have e:=hO5;simp only[List.length_append,List.length_cons,List.length_nil,Nat.zero_add] at e;exact e,(HS3.out.2.alloc _).trans' hm5 (λi hi e=>by have:=(HS3.out.1.lt i e).1;omega),HS.out.2.2.gt HX.out HE.out HK.out⟩;clear hO5 hm5 hat5;go_wp2_with fail;go_roundg (gk-1)
      case measure=>omega
      case rel=>exact⟨k+1,true,_,by omega,by go_num,rfl,HS4⟩
  .have HLE:Hid (l.length<=k):=oh (by omega);have HSZ:Hid (w.heap.size<=wr.heap.size):=oh HS.out.2.1.size;have HOL:Hid (out.length<=k+1):=oh (by have:=HS.out.2.2.1;omega);have hb:w.heap.size<=wr.heap.size:=HSZ.out;cases dn with
   | true =>
    go_wp2_with fail;go_ret;exact⟨_,rfl,by rw[<- HS.out.2.2.done HLE.out];exact HS.out.1,HS.out.2.1⟩
   | false =>
    go_wp2_with (at_builtin;refine yU Tryz.elP zDP rfl _ _ rfl w.heap.size _ _ out [(key,value)] rfl rfl (HS.out.1.ext ((zA.refl _ _).alloc _)) (Sl.one (F:=NoF) (zR (by simp)) (λf=>f)) (by have:=HOL.out;simp only[List.length_cons,List.length_nil];omega) (by have:=HSZ.out;simp;omega) (λf=>f) ?_;intro a4 c4 w4 hO4 hm4 hat4);have HS4:Hid (yC NoF w4 w.heap.size 38 2 zCJ _ (yS key value over l)/\zF w w4):=oh ⟨by rw[<- HS.out.2.2.last HLE.out];exact hO4,(HS.out.2.1.alloc _).trans' hm4 (λi hi e=>by have:=(HS.out.1.lt i e).1;omega)⟩;clear hO4 hm4 hat4;go_wp2_with fail;go_ret;exact⟨_,rfl,HS4.out.1,HS4.out.2⟩
end
end
section
open Go.RowKit Go.Maps
attribute [local go_sem ↓] Go.wp_at_zero Go.wp_at_succ
def zFz(i:Int):Prop:=(Lit.int .i64 i).wf=true
def zCY(w:World)(mb:Nat)(ps:List Int):Prop :=
 ∃D:DataW Unit,w.ownsMap Tryz.prog 3 (plainElem Tryz.prog 3) mb ps.length D/\IsMap D/\∀i,D.atKey (.int .i64 i) (.lit (.int .i64 0))=.lit (.int .i64 (if i∈ps then 1 else 0))
section
variable {F P P' F' P1 F1:Nat->Prop}{ad:Nat->Addr}{w w' w0:World}{c s gen kb mb:Nat}{G:GA}{l:List Nat}{pv kv pv' kv':Value}{st st':WkS}{ps:List Int}
theorem zCY.made(w:World):zCY (w.alloc (.map #[] 0)) w.heap.size [] :=
 ⟨.map [],World.ownsMap_made w _ _ _,isMap_empty,λ_=>rfl⟩
theorem zCY.lt(h:zCY w mb ps):mb<w.heap.size:=by obtain⟨D,h,_⟩:=h;exact h.lt
theorem zCY.mods{Q:Nat->Prop}(h:zCY w mb ps)(m:zA Q w w')(hq:¬ Q mb):zCY w' mb ps:=by
 obtain⟨D,⟨es,clock,h1,h2⟩,h3⟩:=h;exact⟨D,⟨es,clock,(m.block mb (Array.getElem?_eq_some_iff.1 h1).1 hq).trans h1,h2⟩,h3⟩
theorem zCY.put{D:DataW Unit}{i:Int}(h:∀j,D.atKey (.int .i64 j) (.lit (.int .i64 0))=.lit (.int .i64 (if j∈ps then 1 else 0)))(hD:IsMap D) :
  ∀j,(D.put (.int .i64 i) (.lit (.int .i64 1))).atKey (.int .i64 j) (.lit (.int .i64 0))=.lit (.int .i64 (if j∈ps++[i] then 1 else 0)):=by
 intro j;by_cases hj:j=i
 .subst hj;rw[atKey_put_same hD (by trivial),if_pos (by simp)]
 .rw[atKey_put_other (by intro e;injection e with _ e;exact hj e),h j];by_cases hm:j∈ps
  .rw[if_pos hm,if_pos (by simp[hm])]
  .rw[if_neg hm,if_neg (by simp[hm,hj])]
theorem Tryz.seenU:Tryz.prog.underlying 133 = some (.map 3 3):=by kernel_rfl
theorem Tryz.intKeyed:Keyed Tryz.prog 3:=int_keyed Tryz.underlying3
theorem Tryz.intZero(w:World):(zeroValue 3).run Tryz.prog w=.ok (.int .i64 0) w:=by kernel_rfl
theorem zH.notM{cs:Array Value}{t:TypeId}{b:Nat}(h:zH w b cs t)(hs:zCY w mb ps):b≠mb:=by
 obtain⟨D,⟨es,clock,h1,_⟩,_⟩:=hs;rintro rfl;have h2:w.heap[b]? = some (.cells cs t (0,0)):=h;rw[h1] at h2;cases h2
theorem yC.notM{α:Type}{Q:Nat->Prop}{base sz:Nat}{e:TypeId}{enc:α->List Value}{v:Value}{x:List α}(h:yC Q w base e sz enc v x)(hs:zCY w mb ps):∀g,v.ownBlock=Option.some g->g≠mb:=by
 obtain⟨D,⟨es,clock,h1,_⟩,_⟩:=hs;rintro g hg rfl;rcases h.1.2 with ⟨rfl,_⟩|⟨g',cap,cur,rfl,_,hg',_⟩
 .simp[Value.ownBlock] at hg
 .simp[Value.ownBlock] at hg;subst hg;rw[h1] at hg';cases hg'
theorem yC.notO{α β:Type}{Q Q':Nat->Prop}{base base' sz sz':Nat}{e e':TypeId}{enc:α->List Value}{enc':β->List Value}{v v':Value}{x:List α}{x':List β}(h:yC Q w base e sz enc v x)(h':yC Q' w base' e' sz' enc' v' x')(hne:e≠e'):∀g,v.ownBlock=Option.some g->v'.ownBlock≠Option.some g:=by
 intro g hg hg2;rcases h.1.2 with ⟨rfl,_⟩|⟨g1,cap,cur,rfl,_,k1,_⟩
 .simp[Value.ownBlock] at hg
 .rcases h'.1.2 with ⟨rfl,_⟩|⟨g2,cap2,cur2,rfl,_,k2,_⟩
  .simp[Value.ownBlock] at hg2
  .simp[Value.ownBlock] at hg hg2;subst hg hg2;rw[k1] at k2;injection k2 with k2;injection k2 with _ k2;exact hne k2
end
end
section
open Go.RowKit
section
variable {G H:GA}{gen:Nat}
theorem zH6.seen{e:zV}{v:ByteArray}{ids:List Nat}(h:zH6 G gen e v ids):∀i∈ids,∃p,G.view i=some (.inl p):=by
 intro i hi;rcases h with ⟨_,_,rfl⟩|⟨_,h⟩
 .simp at hi
 .obtain⟨g,_,hp⟩:=h.page;obtain⟨k,hk,rfl⟩:=List.getElem_of_mem hi;have:=hp k hk;rw[show ids.getD k 0=ids[k] by simp[List.getD,hk]] at this;exact⟨_,this⟩
theorem jH.seen{es:List zV}{ps:List zT}{q:List Nat}(h:jH G gen es ps q):∀i∈q,∃p,G.view i=some (.inl p):=by
 induction h with
 | nil=>intro i hi;simp at hi
 | cons _ h2 _ ih=>intro i hi;exact (List.mem_append.1 hi).elim (h2.seen i) (ih i)
theorem jD.seen{T:zEg}{lo:ByteArray}{hi:Option ByteArray}{kk:List ByteArray}{cc:List Int}{ps:List zT}{q:List Nat}(hT:∀lo hi c ps q,T lo hi c ps q->∀i∈q,∃p,G.view i=some (.inl p))(h:jD T lo hi kk cc ps q):∀i∈q,∃p,G.view i=some (.inl p):=by
 induction h with
 | one h=>exact hT _ _ _ _ _ h
 | cons h1 _ _ ih=>intro i hi;exact (List.mem_append.1 hi).elim (hT _ _ _ _ _ h1 i) (ih i)
theorem TrD.seen:∀(d:Nat) (lo:ByteArray) (hi:Option ByteArray) (id:Nat) (ps:List zT) (q:List Nat),TrD G gen d lo hi id ps q->∀i∈q,∃p,G.view i=some (.inl p)
 | 0,_,_,_,_,_,h=>h.elim
 | d+1,lo,hi,id,ps,pgs,h=>by
  obtain⟨n,q,h1,_,rfl,h3⟩:=h;intro i hi;rcases List.mem_cons.1 hi with rfl|hi
  .obtain⟨p,hp,_⟩:=h1.page;exact⟨_,hp⟩
  .rcases h3 with ⟨_,_,_,h4,_⟩|⟨_,h4⟩
   .exact h4.seen i hi
   .exact h4.seen (TrD.seen d) i hi
theorem TD.seen{root d:Nat}{ps:List zT}{pgs:List Nat}(h:TD G gen root d ps pgs):∀i∈pgs,∃p,G.view i=some (.inl p):=by
 rcases h.tree with ⟨_,_,_,rfl⟩|⟨_,h⟩
 .intro i hi;simp at hi
 .exact TrD.seen _ _ _ _ _ _ h
end
end
end Go.Proofs.YteabpacpngaoaaaGreatDoor
