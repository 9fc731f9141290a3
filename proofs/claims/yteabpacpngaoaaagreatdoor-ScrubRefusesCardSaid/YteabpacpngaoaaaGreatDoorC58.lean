import Derived.Test.YteabpacpngaoaaaGreatDoorC57
namespace Go.Proofs.YteabpacpngaoaaaGreatDoor
section
open Go.RowKit
def yX(D:zI)(i:Nat):Bool:=match zQ (D.lasting.getD i []) (i:Int) with
 | .inl _=>false
 | .inr _=>true
theorem zCx{D:zI}{i:Nat}:yX D i=true ↔ ∃r,zQ (D.lasting.getD i []) (i:Int)=.inr r:=by
 unfold yX;cases h:zQ (D.lasting.getD i []) (i:Int) with
 | inl p=>simp
 | inr r=>simp
structure zBt(D:zI)(s:yM)(m:vF):Prop where
 blk:s.blocks=D.blocks
 siz:s.size=D.size
 ok:zBP s=true
 gen:s.gen<18446744073709551615
 mok:zAa m=true
 mgen:m.gen=s.gen
 mblk:m.blocks=s.blocks
 sup:∀i,i<2->yX D i=true\/D.lasting.getD i []=yJ s i
 one:yX D 0=false\/yX D 1=false
 map:∀k,k<2->yX D (place s.gen k)=true\/D.lasting.getD (place s.gen k) []=yF m (place s.gen k) D.size
section
variable {D:zI}{s:yM}{m:vF}
theorem zBt.lim(h:zBt D s m):8<=D.blocks/\D.blocks<=256/\256<=D.size/\D.size<=1024:=by
 obtain⟨a,b,c,d, -⟩:=(zAZ s).1 h.ok;rw[h.blk] at a b;rw[h.siz] at c d;exact⟨a,b,c,d⟩
theorem zBt.openS(h:zBt D s m){i:Nat}(hi:i<2):openS (D.lasting.getD i []) i=if yX D i=true then none else some s:=by
 rcases h.sup i hi with hs|hs
 .rw[if_pos hs];obtain⟨r,hr⟩:=zCx.1 hs;unfold Go.Proofs.YteabpacpngaoaaaGreatDoor.openS;rw[hr]
 .have ho:=zEl h.ok (by have:=h.gen;omega) hi;rw[<- hs] at ho;rw[if_neg,ho];intro hb;obtain⟨r,hr⟩:=zCx.1 hb;unfold Go.Proofs.YteabpacpngaoaaaGreatDoor.openS at ho;rw[hr] at ho;cases ho
theorem zBt.none(h:zBt D s m){i:Nat}(hi:i<2):Go.Proofs.YteabpacpngaoaaaGreatDoor.openS (D.lasting.getD i []) i=none->∃r,zQ (D.lasting.getD i []) (i:Int)=.inr r:=λe=>by
 rw[h.openS hi] at e;split at e
 .rename_i hs;exact zCx.1 hs
 .cases e
end
def zF1(D:zI)(k:Nat):List (Int × Int):=((List.range k).filter (yX D)).map λ(i:Nat)=>((i:Int),(1:Int))
def zG6(D:zI)(g k:Nat):List (Int × Int):=((List.range k).filter (λj=>yX D (place g j))).map λ(j:Nat)=>((place g j:Int),(2:Int))
theorem zDh(D:zI)(k:Nat):zF1 D (k+1)=zF1 D k++if yX D k=true then [((k:Int),1)] else []:=by
 unfold zF1;rw[List.range_succ,List.filter_append,List.map_append];congr 1
 by_cases h:yX D k=true <;> simp[h]
theorem zDi(D:zI)(g k:Nat):zG6 D g (k+1)=zG6 D g k++if yX D (place g k)=true then [((place g k:Int),2)] else []:=by
 unfold zG6;rw[List.range_succ,List.filter_append,List.map_append];congr 1
 by_cases h:yX D (place g k)=true <;> simp[h]
theorem zIM(D:zI)(k:Nat):(zF1 D k).length<=k:=by
 unfold zF1;rw[List.length_map];exact Nat.le_trans (List.length_filter_le _ _) (by simp)
theorem zLp(D:zI)(g k:Nat):(zG6 D g k).length<=k:=by
 unfold zG6;rw[List.length_map];exact Nat.le_trans (List.length_filter_le _ _) (by simp)
def yQ.hd(l:List (Int × Int)):yQ:=⟨[],l,[],0,[],false⟩
theorem yQ.hd_find(l:List (Int × Int))(id what:Int)(h:what≠3):(yQ.hd l).find id what=yQ.hd (l++[(id,what)]):=by
 unfold yQ.hd yQ.find;simp[h]
theorem yQ.hd_few{l:List (Int × Int)}(h:l.length<=1000):(yQ.hd l).few:=⟨by simp[hd],h,by simp[hd],by simp[hd],by simp[hd]⟩
def zDQ(D:zI)(g:Nat):List (Int × Int):=zF1 D 2++zG6 D g 2
theorem zO1(D:zI)(g:Nat):(zDQ D g).length<=4:=by
 unfold zDQ;rw[List.length_append];have:=zIM D 2;have:=zLp D g 2;omega
def zCF(D:zI)(i bit mask:Nat):zI:={ D with lasting:=D.lasting.set i (jS (D.lasting.getD i []) bit mask) }
section
variable {D:zI}{s:yM}{m:vF}{dd:Nat}{ps:List zT}{pgs:List Nat}{i bit mask:Nat}
theorem zCy(D:zI){i j:Nat}(h:j≠i)(bit mask:Nat):(zCF D i bit mask).lasting.getD j []=D.lasting.getD j []:=by
 unfold zCF;simp only[List.getD_eq_getElem?_getD];rw[List.getElem?_set_ne (λe=>h e.symm)]
theorem zM8(D:zI){i:Nat}(h:i<D.lasting.length)(bit mask:Nat):(zCF D i bit mask).lasting.getD i []=jS (D.lasting.getD i []) bit mask:=by
 unfold zCF;simp only[List.getD_eq_getElem?_getD];rw[List.getElem?_set_self h,Option.getD_some]
theorem zBZ(D:zI){i j:Nat}(h:j≠i)(bit mask:Nat):yX (zCF D i bit mask) j=yX D j:=by
 unfold yX;rw[zCy D h]
theorem zGx{l:List UInt8}{id:Int}{p:zX}(h:zQ l id=.inl p):l=vH p l.length/\yY p (l.length:Int)=none:=by
 unfold zQ at h;split at h
 .cases h
 .rename_i ho;split at h
  .cases h
  .injection h with h;subst h;have ho:zBO l=true:=by simpa using ho
   unfold zBO at ho;obtain⟨h1,h2⟩:=Bool.and_eq_true_iff.1 ho;exact⟨(of_decide_eq_true h2).symm,of_decide_eq_true h1⟩
theorem zLq(hi:i<D.lasting.length)(hs:yX D i=false)(hb:bit<8 * (D.lasting.getD i []).length)(hm:mask % 2=1):yX (zCF D i bit mask) i=true:=by
 have hp:∃p,zQ (D.lasting.getD i []) (i:Int)=.inl p:=by
  unfold yX at hs;split at hs
  .rename_i p hp;exact⟨p,hp⟩
  .cases hs
 obtain⟨p,hp⟩:=hp;obtain⟨h1,h2⟩:=zGx hp;have hc:=zKJ bit mask h2 hb hm;rw[<- h1] at hc;refine zCx.2 ?_;rw[zM8 D hi];unfold zQ;rw[if_pos hc];exact⟨_,rfl⟩
theorem zNk(h:zC7 D)(hi:i<D.blocks)(bit mask:Nat):zC7 (zCF D i bit mask):=by
 refine⟨h.off,h.lit,h.wait,by unfold zCF;simp[h.lenL],λid hid=>?_,h.b8,h.b256,h.s256,h.s1024⟩;have hid:id<D.blocks:=hid;have e:(zCF D i bit mask).look id=(zCF D i bit mask).lasting.getD id []:=by
  unfold zI.look;have:(zCF D i bit mask).waiting=[]:=h.wait;rw[this];rfl
 rw[e];show _=D.size;by_cases he:id=i
 .subst he;rw[zM8 D (by rw[h.lenL];exact hi),zCe,h.last];exact h.len id hid
 .rw[zCy D he,h.last];exact h.len id hid
theorem zC7.open(h:zC7 D){j:Nat}(hj:j<D.blocks):(yX D j=false ↔ ∃p,(zCc D).view j=some (.inl p)):=by
 have hv:(zCc D).view j=some (zQ (D.lasting.getD j []) (j:Int)):=by
  show (if j<D.blocks then some (zQ (D.look j) j) else none)=_;rw[if_pos hj,h.last]
 rw[hv];unfold yX;cases zQ (D.lasting.getD j []) (j:Int) with
 | inl p=>simp
 | inr r=>simp
structure Spo(D:zI)(s:yM)(m:vF)(dd:Nat)(ps:List zT)(pgs:List Nat):Prop where
 head:zBt D s m
 dry:zC7 D
 td:TD (zCc D) s.gen s.root dd ps pgs
theorem zFT.dry(h:zC7 D):zFT (dkQ D) (zCc D):=λi p hi hv=>by
 have hi:i<D.blocks:=hi;have hv:(if i<D.blocks then some (zQ (D.look i) i) else none)=some (.inl p):=hv;rw[if_pos hi] at hv;rw[zQM hi,h.last];injection hv with hv;rw[hv]
theorem Spo.look(h:Spo D s m dd ps pgs)(A:yQ)(hA:A.seen=[]):(s.root=0/\ps=[]/\pgs=[])\/(s.root≠0/\vU (dkQ D) s.gen s.size 16 (s.root:Int) A=A.add (iL pgs) ps.length):=by
 have hb:(zCc D).blocks<=256:=h.dry.b256;rcases h.td.tree with ⟨h1,_,h2,h3⟩|⟨h1,h2⟩
 .exact .inl ⟨h1,h2,h3⟩
 .obtain⟨r,hr⟩:=TrD.head _ _ _ _ _ _ h2;have h3:=h.td.lt s.root (by rw[hr];simp);have hd:=(h.td.few hb).2;refine .inr ⟨by omega,?_⟩;rw[h.head.siz];exact zRN (zFT.dry h.dry) (Nat.le_refl _) h.dry.s256 hb dd _ _ _ _ _ h2 16 A (by omega) (by
   rw[hA,List.nil_append];exact List.pairwise_map.2 (h.td.nodup.imp (λh e=>h (by omega))))
theorem zGM.shut(h:zGM D s m dd ps pgs):(∀j,j<2->yX D j=false)/\(∀k,k<2->yX D (place s.gen k)=false)/\∀j∈pgs,yX D j=false:=by
 have hd:=h.well.dry;have hb8:=hd.b8;have hg:=h.well.gen;have hop:∀{l:List UInt8} {j:Nat} {p:zX},D.lasting.getD j []=l->zQ l (j:Int)=.inl p->yX D j=false:=λe ho=>by
  unfold yX;rw[e,ho]
 refine⟨λj hj=>?_,λk hk=>?_,λj hj=>?_⟩
 .have e:D.lasting.getD j []=yJ s j:=by
   rw[hd.last];rcases (show j=0\/j=1 by omega) with rfl|rfl
   .exact h.well.sup0
   .exact h.well.sup1
  exact hop e (zCL (p:=zCO s j) (size:=s.size) (zEP h.well.ok hj) (by show s.gen<_;omega))
 .have e:D.lasting.getD (place s.gen k) []=yF m (place s.gen k) D.size:=by
   rw[hd.last];rcases (show k=0\/k=1 by omega) with rfl|rfl
   .exact h.well.map0
   .exact h.well.map1
  exact hop e (zCL (p:=zBf m (place s.gen k)) (size:=D.size) (zER h.well.mok (by unfold place;omega) hd.s256 hd.s1024) (by show m.gen<_;rw[h.well.mgen];omega))
 .have hlt:=(h.td.lt j hj).2;exact (hd.open hlt).2 (h.td.seen j hj)
theorem zGM.headD(h:zGM D s m dd ps pgs):zBt D s m:=by
 obtain⟨h1,h2,_⟩:=h.shut;have hd:=h.well.dry;refine⟨h.well.blk,h.well.siz,h.well.ok,h.well.gen,h.well.mok,h.well.mgen,h.well.mblk,λi hi=>.inr ?_,.inl (h1 0 (by omega)),λk hk=>.inr ?_⟩
 .rw[hd.last];rcases (show i=0\/i=1 by omega) with rfl|rfl
  .exact h.well.sup0
  .exact h.well.sup1
 .rw[hd.last];rcases (show k=0\/k=1 by omega) with rfl|rfl
  .exact h.well.map0
  .exact h.well.map1
theorem zGM.spo(h:zGM D s m dd ps pgs):Spo D s m dd ps pgs:=⟨h.headD,h.well.dry,h.td⟩
theorem zGM.hit_head(h:zGM D s m dd ps pgs)(hi:i<D.blocks)(hb:bit<8 * D.size)(hm:mask % 2=1):zBt (zCF D i bit mask) s m:=by
 have h0:=h.headD;obtain⟨h1,h2,_⟩:=h.shut;have hd:=h.well.dry;have hsh:yX D i=false->yX (zCF D i bit mask) i=true:=λhs=>zLq (by rw[hd.lenL];exact hi) hs (by rw[hd.last,hd.len i hi];exact hb) hm
 refine⟨h0.blk,h0.siz,h0.ok,h0.gen,h0.mok,h0.mgen,h0.mblk,λj hj=>?_,?_,λk hk=>?_⟩
 .by_cases e:j=i
  .subst e;exact .inl (hsh (h1 j hj))
  .rw[zBZ D e,zCy D e];exact h0.sup j hj
 .by_cases e:i=0
  .right;rw[zBZ D (by omega)];exact h1 1 (by omega)
  .left;rw[zBZ D (by omega)];exact h1 0 (by omega)
 .by_cases e:place s.gen k=i
  .rw[e];exact .inl (hsh (by rw[<- e];exact h2 k hk))
  .rw[zBZ D e,zCy D e];exact h0.map k hk
theorem zQQ(h:zC7 D)(hi:i<D.blocks){j:Nat}(hj:j≠i)(bit mask:Nat):(zCc (zCF D i bit mask)).view j=(zCc D).view j:=by
 have h':=zNk h hi bit mask;show (if j<D.blocks then some (zQ ((zCF D i bit mask).look j) j) else none)=(if j<D.blocks then some (zQ (D.look j) j) else none);rw[<- h'.last,<- h.last,zCy D hj]
theorem zGM.hit_spo(h:zGM D s m dd ps pgs)(hi:i<D.blocks)(hb:bit<8 * D.size)(hm:mask % 2=1)(hn:i ∉ pgs):Spo (zCF D i bit mask) s m dd ps pgs :=
 ⟨h.hit_head hi hb hm,zNk h.well.dry hi bit mask,h.td.mono (Nat.le_refl _) rfl rfl (λ_j hj=>zQQ h.well.dry hi (λe=>hn (e ▸ hj)) bit mask)⟩
end
end
section
open Go.RowKit
attribute [local go_sem ↓] Go.wp_at_zero Go.wp_at_succ
section
variable {P P' F F':Nat->Prop}{ad:Nat->Addr}{w w':World}{d:Nat}{D:zI}
theorem offC(c9:w.cell? ⟨d,9,none⟩=some (.bool true)) : Calls Tryz.prog 84 #[.pointer (some ⟨d,0,none⟩)] w λe w'=>e=.returned (.bool true)/\w=w':=by
 go_enter Tryz.func84, Tryz.ntmps84
 go_wp2_with fail;go_ret;exact⟨rfl,rfl⟩
end
end
end Go.Proofs.YteabpacpngaoaaaGreatDoor
