import Derived.Test.YteabpacpngaoaaaGreatDoorS07
namespace Go.Proofs.YteabpacpngaoaaaGreatDoor
section
open Go.RowKit
def zC(D:DiskA)(i:Nat):Bool:=match openAtP (D.lasting.getD i []) (i:Int) with
 | .inl _=>false
 | .inr _=>true
theorem yA{D:DiskA}{i:Nat}:zC D i=true ↔ ∃r,openAtP (D.lasting.getD i []) (i:Int)=.inr r:=by
 unfold zC;cases h:openAtP (D.lasting.getD i []) (i:Int) with
 | inl p=>simp
 | inr r=>simp
structure zO(D:DiskA)(s:SupA)(m:MapA):Prop where
 blk:s.blocks=D.blocks
 siz:s.size=D.size
 ok:supOk s=true
 gen:s.gen<18446744073709551615
 mok:mapOk m=true
 mgen:m.gen=s.gen
 mblk:m.blocks=s.blocks
 sup:∀i,i<2->zC D i=true\/D.lasting.getD i []=supBlk s i
 one:zC D 0=false\/zC D 1=false
 map:∀k,k<2->zC D (place s.gen k)=true\/D.lasting.getD (place s.gen k) []=mapBlk m (place s.gen k) D.size
section
variable {D:DiskA}{s:SupA}{m:MapA}
theorem zO.lim(h:zO D s m):8<=D.blocks/\D.blocks<=256/\256<=D.size/\D.size<=1024:=by
 obtain⟨a,b,c,d, -⟩:=(supOk_iff s).1 h.ok;rw[h.blk] at a b;rw[h.siz] at c d;exact⟨a,b,c,d⟩
theorem zO.openS(h:zO D s m){i:Nat}(hi:i<2):openS (D.lasting.getD i []) i=if zC D i=true then none else some s:=by
 rcases h.sup i hi with hs|hs
 .rw[if_pos hs];obtain⟨r,hr⟩:=yA.1 hs;unfold Go.Proofs.YteabpacpngaoaaaGreatDoor.openS;rw[hr]
 .have ho:=openS_blk h.ok (by have:=h.gen;omega) hi;rw[<- hs] at ho;rw[if_neg,ho];intro hb;obtain⟨r,hr⟩:=yA.1 hb;unfold Go.Proofs.YteabpacpngaoaaaGreatDoor.openS at ho;rw[hr] at ho;cases ho
theorem zO.none(h:zO D s m){i:Nat}(hi:i<2):Go.Proofs.YteabpacpngaoaaaGreatDoor.openS (D.lasting.getD i []) i=none->∃r,openAtP (D.lasting.getD i []) (i:Int)=.inr r:=λe=>by
 rw[h.openS hi] at e;split at e
 .rename_i hs;exact yA.1 hs
 .cases e
end
def qF(D:DiskA)(k:Nat):List (Int × Int):=((List.range k).filter (zC D)).map λ(i:Nat)=>((i:Int),(1:Int))
def vA(D:DiskA)(g k:Nat):List (Int × Int):=((List.range k).filter (λj=>zC D (place g j))).map λ(j:Nat)=>((place g j:Int),(2:Int))
theorem yJ(D:DiskA)(k:Nat):qF D (k+1)=qF D k++if zC D k=true then [((k:Int),1)] else []:=by
 unfold qF;rw[List.range_succ,List.filter_append,List.map_append];congr 1
 by_cases h:zC D k=true <;> simp[h]
theorem yK(D:DiskA)(g k:Nat):vA D g (k+1)=vA D g k++if zC D (place g k)=true then [((place g k:Int),2)] else []:=by
 unfold vA;rw[List.range_succ,List.filter_append,List.map_append];congr 1
 by_cases h:zC D (place g k)=true <;> simp[h]
theorem vJ(D:DiskA)(k:Nat):(qF D k).length<=k:=by
 unfold qF;rw[List.length_map];exact uJ (List.length_filter_le _ _) (by simp)
theorem zAF(D:DiskA)(g k:Nat):(vA D g k).length<=k:=by
 unfold vA;rw[List.length_map];exact uJ (List.length_filter_le _ _) (by simp)
def zA.hd(l:List (Int × Int)):zA:=⟨[],l,[],0,[],false⟩
theorem zA.hd_find(l:List (Int × Int))(id what:Int)(h:what≠3):(zA.hd l).find id what=zA.hd (l++[(id,what)]):=by
 unfold zA.hd zA.find;simp[h]
theorem zA.hd_few{l:List (Int × Int)}(h:l.length<=1000):(zA.hd l).few:=⟨by simp[hd],h,by simp[hd],by simp[hd],by simp[hd]⟩
def yG(D:DiskA)(g:Nat):List (Int × Int):=qF D 2++vA D g 2
theorem zA1(D:DiskA)(g:Nat):(yG D g).length<=4:=by
 unfold yG;rw[uC];have:=vJ D 2;have:=zAF D g 2;omega
def zT(D:DiskA)(i bit mask:Nat):DiskA:={ D with lasting:=D.lasting.set i (zI (D.lasting.getD i []) bit mask) }
section
variable {D:DiskA}{s:SupA}{m:MapA}{dd:Nat}{ps:List PairS}{pgs:List Nat}{i bit mask:Nat}
theorem yB(D:DiskA){i j:Nat}(h:j≠i)(bit mask:Nat):(zT D i bit mask).lasting.getD j []=D.lasting.getD j []:=by
 unfold zT;simp only[uU];rw[uY (λe=>h e.symm)]
theorem zAZ(D:DiskA){i:Nat}(h:i<D.lasting.length)(bit mask:Nat):(zT D i bit mask).lasting.getD i []=zI (D.lasting.getD i []) bit mask:=by
 unfold zT;simp only[uU];rw[List.getElem?_set_self h,Option.getD_some]
theorem zM(D:DiskA){i j:Nat}(h:j≠i)(bit mask:Nat):zC (zT D i bit mask) j=zC D j:=by
 unfold zC;rw[yB D h]
theorem qT{l:List UInt8}{id:Int}{p:PageA}(h:openAtP l id=.inl p):l=sealP p l.length/\pgCheck p (l.length:Int)=none:=by
 unfold openAtP at h;split at h
 .cases h
 .rename_i ho;split at h
  .cases h
  .injection h with h;subst h;have ho:openB l=true:=by simpa using ho
   unfold openB at ho;obtain⟨h1,h2⟩:=Bool.and_eq_true_iff.1 ho;exact⟨(wL h2).symm,wL h1⟩
theorem zAG(hi:i<D.lasting.length)(hs:zC D i=false)(hb:bit<8 * (D.lasting.getD i []).length)(hm:mask % 2=1):zC (zT D i bit mask) i=true:=by
 have hp:∃p,openAtP (D.lasting.getD i []) (i:Int)=.inl p:=by
  unfold zC at hs;split at hs
  .rename_i p hp;exact⟨p,hp⟩
  .cases hs
 obtain⟨p,hp⟩:=hp;obtain⟨h1,h2⟩:=qT hp;have hc:=jK bit mask h2 hb hm;rw[<- h1] at hc;refine yA.2 ?_;rw[zAZ D hi];unfold openAtP;rw[if_pos hc];exact⟨_,rfl⟩
theorem zAo(h:DryD D)(hi:i<D.blocks)(bit mask:Nat):DryD (zT D i bit mask):=by
 refine⟨h.off,h.lit,h.wait,by unfold zT;simp[h.lenL],λid hid=>?_,h.b8,h.b256,h.s256,h.s1024⟩;have hid:id<D.blocks:=hid;have e:(zT D i bit mask).look id=(zT D i bit mask).lasting.getD id []:=by
  unfold DiskA.look;have:(zT D i bit mask).waiting=[]:=h.wait;rw[this];rfl
 rw[e];show _=D.size;by_cases he:id=i
 .subst he;rw[zAZ D (by rw[h.lenL];exact hi),zY,h.last];exact h.len id hid
 .rw[yB D he,h.last];exact h.len id hid
theorem DryD.open(h:DryD D){j:Nat}(hj:j<D.blocks):(zC D j=false ↔ ∃p,(mountG D).view j=some (.inl p)):=by
 have hv:(mountG D).view j=some (openAtP (D.lasting.getD j []) (j:Int)):=by
  show (if j<D.blocks then some (openAtP (D.look j) j) else none)=_;rw[if_pos hj,h.last]
 rw[hv];unfold zC;cases openAtP (D.lasting.getD j []) (j:Int) with
 | inl p=>simp
 | inr r=>simp
structure Spo(D:DiskA)(s:SupA)(m:MapA)(dd:Nat)(ps:List PairS)(pgs:List Nat):Prop where
 head:zO D s m
 dry:DryD D
 td:TD (mountG D) s.gen s.root dd ps pgs
theorem yX.dry(h:DryD D):yX (zP D) (mountG D):=λi p hi hv=>by
 have hi:i<D.blocks:=hi;have hv:(if i<D.blocks then some (openAtP (D.look i) i) else none)=some (.inl p):=hv;rw[if_pos hi] at hv;rw[zBJ hi,h.last];injection hv with hv;rw[hv]
theorem Spo.look(h:Spo D s m dd ps pgs)(A:zA)(hA:A.seen=[]):(s.root=0/\ps=[]/\pgs=[])\/(s.root≠0/\zH (zP D) s.gen s.size 16 (s.root:Int) A=A.add (iL pgs) ps.length):=by
 have hb:(mountG D).blocks<=256:=h.dry.b256;rcases h.td.tree with ⟨h1,_,h2,h3⟩|⟨h1,h2⟩
 .exact .inl ⟨h1,h2,h3⟩
 .obtain⟨r,hr⟩:=TrD.head _ _ _ _ _ _ h2;have h3:=h.td.lt s.root (by rw[hr];simp);have hd:=(h.td.few hb).2;refine .inr ⟨by omega,?_⟩;rw[h.head.siz];exact zBe (yX.dry h.dry) (uA _) h.dry.s256 hb dd _ _ _ _ _ h2 16 A (by omega) (by
   rw[hA,List.nil_append];exact List.pairwise_map.2 (h.td.nodup.imp (λh e=>h (by omega))))
theorem qI.shut(h:qI D s m dd ps pgs):(∀j,j<2->zC D j=false)/\(∀k,k<2->zC D (place s.gen k)=false)/\∀j∈pgs,zC D j=false:=by
 have hd:=h.well.dry;have A3:=hd.b8;have hg:=h.well.gen;have A0:∀{l:List UInt8} {j:Nat} {p:PageA},D.lasting.getD j []=l->openAtP l (j:Int)=.inl p->zC D j=false:=λe ho=>by
  unfold zC;rw[e,ho]
 refine⟨λj hj=>?_,λk hk=>?_,λj hj=>?_⟩
 .have e:D.lasting.getD j []=supBlk s j:=by
   rw[hd.last];rcases (show j=0\/j=1 by omega) with rfl|rfl
   .exact h.well.sup0
   .exact h.well.sup1
  exact A0 e (seal_openAt (p:=supPg s j) (size:=s.size) (supPg_right h.well.ok hj) (by show s.gen<_;omega))
 .have e:D.lasting.getD (place s.gen k) []=mapBlk m (place s.gen k) D.size:=by
   rw[hd.last];rcases (show k=0\/k=1 by omega) with rfl|rfl
   .exact h.well.map0
   .exact h.well.map1
  exact A0 e (seal_openAt (p:=mapPg m (place s.gen k)) (size:=D.size) (mapPg_right h.well.mok (by unfold place;omega) hd.s256 hd.s1024) (by show m.gen<_;rw[h.well.mgen];omega))
 .have A2:=(h.td.lt j hj).2;exact (hd.open A2).2 (h.td.seen j hj)
theorem qI.headD(h:qI D s m dd ps pgs):zO D s m:=by
 obtain⟨h1,h2,_⟩:=h.shut;have hd:=h.well.dry;refine⟨h.well.blk,h.well.siz,h.well.ok,h.well.gen,h.well.mok,h.well.mgen,h.well.mblk,λi hi=>.inr ?_,.inl (h1 0 (by omega)),λk hk=>.inr ?_⟩
 .rw[hd.last];rcases (show i=0\/i=1 by omega) with rfl|rfl
  .exact h.well.sup0
  .exact h.well.sup1
 .rw[hd.last];rcases (show k=0\/k=1 by omega) with rfl|rfl
  .exact h.well.map0
  .exact h.well.map1
theorem qI.spo(h:qI D s m dd ps pgs):Spo D s m dd ps pgs:=⟨h.headD,h.well.dry,h.td⟩
theorem qI.hit_head(h:qI D s m dd ps pgs)(hi:i<D.blocks)(hb:bit<8 * D.size)(hm:mask % 2=1):zO (zT D i bit mask) s m:=by
 have h0:=h.headD;obtain⟨h1,h2,_⟩:=h.shut;have hd:=h.well.dry;have A1:zC D i=false->zC (zT D i bit mask) i=true:=λhs=>zAG (by rw[hd.lenL];exact hi) hs (by rw[hd.last,hd.len i hi];exact hb) hm
 refine⟨h0.blk,h0.siz,h0.ok,h0.gen,h0.mok,h0.mgen,h0.mblk,λj hj=>?_,?_,λk hk=>?_⟩
 .by_cases e:j=i
  .subst e;exact .inl (A1 (h1 j hj))
  .rw[zM D e,yB D e];exact h0.sup j hj
 .by_cases e:i=0
  .right;rw[zM D (by omega)];exact h1 1 (by omega)
  .left;rw[zM D (by omega)];exact h1 0 (by omega)
 .by_cases e:place s.gen k=i
  .rw[e];exact .inl (A1 (by rw[<- e];exact h2 k hk))
  .rw[zM D e,yB D e];exact h0.map k hk
theorem zBN(h:DryD D)(hi:i<D.blocks){j:Nat}(hj:j≠i)(bit mask:Nat):(mountG (zT D i bit mask)).view j=(mountG D).view j:=by
 have h':=zAo h hi bit mask;show (if j<D.blocks then some (openAtP ((zT D i bit mask).look j) j) else none)=(if j<D.blocks then some (openAtP (D.look j) j) else none);rw[<- h'.last,<- h.last,yB D hj]
theorem qI.hit_spo(h:qI D s m dd ps pgs)(hi:i<D.blocks)(hb:bit<8 * D.size)(hm:mask % 2=1)(hn:i ∉ pgs):Spo (zT D i bit mask) s m dd ps pgs :=
 ⟨h.hit_head hi hb hm,zAo h.well.dry hi bit mask,h.td.mono (uA _) rfl rfl (λ_j hj=>zBN h.well.dry hi (λe=>hn (e ▸ hj)) bit mask)⟩
end
end
section
open Go.RowKit
attribute [local go_sem ↓] Go.wp_at_zero Go.wp_at_succ
section
variable {P P' F F':Nat->Prop}{ad:Nat->Addr}{w w':World}{d:Nat}{D:DiskA}
theorem offC(c9:w.cell? ⟨d,9,none⟩=some (.bool true)) : Calls Tryz.prog 84 #[.pointer (some ⟨d,0,none⟩)] w λe w'=>e=.returned (.bool true)/\w=w':=by
 go_enter Tryz.func84, Tryz.ntmps84
 go_wp2_with fail;go_ret;exact⟨rfl,rfl⟩
end
end
end Go.Proofs.YteabpacpngaoaaaGreatDoor
