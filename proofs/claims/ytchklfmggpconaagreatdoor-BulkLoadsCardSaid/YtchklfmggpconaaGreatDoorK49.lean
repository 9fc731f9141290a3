import Derived.Test.YtchklfmggpconaaGreatDoorK48
import Derived.Test.YtchklfmggpconaaGreatDoorK46
import Derived.IntWalk
import Derived.Test.YtchklfmggpconaaGreatDoorK43
namespace Go.Proofs.YtchklfmggpconaaGreatDoor
open Lib renaming hid→oh
set_option maxHeartbeats 8000000
set_option maxRecDepth 100000
open Go.RowKit
attribute [local go_sem ↓] Go.wp_at_zero Go.wp_at_succ
section
variable {G:GA}{gen:Nat}
theorem Kids.eachT{T:TreeT}{lo:ByteArray}{hi:Option ByteArray}{kk:List ByteArray}{cc:List Int}{ps:List PairS}{q:List Nat}(h:Kids T lo hi kk cc ps q):∀k∈cc,∃lo' hi' l' q',T lo' hi' k.toNat l' q':=λk hk=>by
 obtain⟨n,lo',hi',l',q',rfl,t,_⟩:=h.each k hk;exact⟨lo',hi',l',q',by rw[Int.toNat_natCast];exact t⟩
theorem TrD.trE:∀(d:Nat) (lo:ByteArray) (hi:Option ByteArray) (id:Nat) (l:List PairS) (q:List Nat),TrD G gen d lo hi id l q→TrE G.node id d
 | 0,_,_,_,_,_,h=>h.elim
 | d+1,lo,hi,id,l,q,h=>by
  obtain⟨n,q,hp,hr,rfl,h⟩:=h;have hn:=pgn_node hp;rcases h with ⟨hl,rfl,hne,he,_⟩|⟨hl,hk⟩
  ·exact .leaf hn hl (λe=>by
    have:=he.len;rw[e] at this;exact hne (List.length_eq_zero_iff.1 (by simpa using this.symm)))
  ·exact .inner hn hl (λk hk'=>by
    obtain⟨lo',hi',l',q',t⟩:=hk.eachT k hk';exact TrD.trE d _ _ _ _ _ t)
theorem leafs_few:∀(d:Nat) (lo:ByteArray) (hi:Option ByteArray) (id:Nat) (l:List PairS) (q:List Nat),TrD G gen d lo hi id l q→(leafsG G d id).length≤q.length
 | 0,_,_,_,_,_,h=>h.elim
 | d+1,lo,hi,id,l,q,h=>by
  obtain⟨n,q,hp,hr,rfl,h⟩:=h;have hn:=pgn_node hp;rcases h with ⟨hl,_⟩|⟨hl,hk⟩
  ·rw[leafs_leaf hn hl];simp
  ·rw[leafs_inner hn hl];have key:∀{lo hi kk cc ps q},Kids (TrD G gen d) lo hi kk cc ps q→(cc.flatMap λk=>leafsG G d k.toNat).length≤q.length:=by
    intro lo hi kk cc ps q hk;induction hk with
    | one h=>have:=leafs_few d _ _ _ _ _ h;simpa using this
    | cons h1 _ _ ih =>
     have:=leafs_few d _ _ _ _ _ h1;rw[List.flatMap_cons,List.length_append,List.length_append,Int.toNat_natCast];omega
   have:=key hk;simp only[List.length_cons];omega
theorem flat_bound{α β γ:Type}(f:α→List β):∀(cc:List α) (p:List (List γ)),p.length=cc.length→(∀(i:Nat) (c:α) (x:List γ),cc[i]? = some c→p[i]? = some x→(f c).length≤x.length)→∀(k:Nat) (c:α) (x:List γ),cc[k]? = some c→p[k]? = some x→((cc.take k).flatMap f).length+x.length≤p.flatten.length
 | [],_,_,_,k,c,x,h1,_=>by simp at h1
 | c0 :: cc,[],h,_,_,_,_,_,_=>by simp at h
 | c0 :: cc,x0 :: p,h,hf,0,c,x,h1,h2=>by
  simp at h2;subst h2;simp
 | c0 :: cc,x0 :: p,h,hf,k+1,c,x,h1,h2=>by
  have:=flat_bound f cc p (by simpa using h) (λi c x a b=>hf (i+1) c x (by simpa using a) (by simpa using b)) k c x (by simpa using h1) (by simpa using h2);have h0:=hf 0 c0 x0 rfl rfl;rw[List.take_succ_cons,List.flatMap_cons,List.length_append,List.flatten_cons,List.length_append];omega
theorem TD.treeE{root d:Nat}{ps:List PairS}{pgs:List Nat}(h:TD G gen root d ps pgs)(hs:256≤G.size)(hb:G.blocks≤256):TreeE G root d ps:=by
 refine⟨h.treeG hs hb,λhr=>?_⟩;rcases h.tree with ⟨h0,_,_,_⟩|⟨_,hT⟩
 ·exact absurd h0 hr
 ·exact TrD.trE _ _ _ _ _ _ hT
theorem upP_all:∀(l:List PairS) (m:Nat),l.length≤m→upP e0 l m=l
 | [],m,_=>by cases m <;> rfl
 | x :: l,0,h=>by simp at h
 | x :: l,m+1,h=>by
  rw[upP,if_pos (by simp[belowB]),upP_all l m (by simpa using h)]
theorem ltS_e0(k:ByteArray):ltS k e0=false:=by
 cases h:ltS k e0 with
 | false=>rfl
 | true =>
  unfold ltS at h;rw[show e0.toList=[] from by simp[ByteArray.toList_eq]] at h;cases hk:k.toList <;> rw[hk] at h <;> simp[Op.bytesLess] at h
theorem seekP_e0(l:List PairS):seekP e0 l=0:=by
 cases l with
 | nil=>rfl
 | cons x l=>simp[seekP,ltS_e0,List.findIdx_cons]
end
section
variable {P P' F F':Nat→Prop}{ad:Nat→Addr}{w w':World}{c s:Nat}{G:GA}{l:List Nat}{gen root d:Nat}{ps:List PairS}{pgs:List Nat}
theorem rangeT_any(hL:Env F ad w)(hP:∀k,P k→F k)(h:PgR F w P c s G l)(g:Nat)(hT:TD G gen root d ps pgs)(hs:256≤G.size)(hb:G.blocks≤256)(hlen:ps.length≤1000) :
  Calls Tryz.prog 49 #[pgV c s g,.int .i64 (root:Int),.string e0,.string e0,.int .i64 65535] w (RangeD F P ad w c s G l ps):=by
 obtain⟨H,hl,ht,hH⟩:=h.tot;have hT2:=hT.up hl;have hs2:256≤H.size:=by rw[hl.size];exact hs
 have hb2:H.blocks≤256:=by rw[hl.blocks];exact hb
 have hd:=(hT2.few hb2).2;have hR:=range_any hL hP hH hlen ht (by omega) (hT2.treeE hs2 hb2) g e0 e0 65535 (by unfold askB boundB;simp);rw[seekP_e0,List.drop_zero,upP_all ps _ (by show ps.length≤65535;omega)] at hR;refine hR.mono ?_;rintro e w' ⟨P',F',hG,hN,hr⟩;exact⟨P',F',hG.le hl,hN,hr⟩
theorem dumpT_any(hL:Env F ad w)(hP:∀k,P k→F k)(h:PgR F w P c s G l)(g:Nat)(hT:TD G gen root d ps pgs)(hs:256≤G.size)(hb:G.blocks≤256)(hlen:ps.length≤1000) :
  Calls Tryz.prog 18 #[pgV c s g,.int .i64 (root:Int)] w (RangeD F P ad w c s G l ps):=by
 have m0:Ext w (w.alloc (.cells #[.pointer (some ⟨c,0,none⟩),.pointer (some ⟨s,0,none⟩),.int .u64 (g:Int)] 31)):=(Mods.refl _ w).alloc _;have HB0:=oh (Blk.new w #[.pointer (some ⟨c,0,none⟩),.pointer (some ⟨s,0,none⟩),.int .u64 (g:Int)] 31);have HM0:=oh m0;have HRD:=λW=>bready_ok (c:=c) (s:=s) (w:=W) ⟨#[98,117,108,107,46,68,117,109,112]⟩ g
 have HRG:=λW (m:Ext w W)=>rangeT_any (hL.mods m.ext) hP (h.at m) g hT hs hb hlen
 unfold pgV at HRD HRG ⊢;have HRD:=oh HRD;have HRG:=oh HRG;have HNX:=oh (λW (m:Ext w W)=>Nxt.ext hL hP m);clear hL hP h m0
 go_enter Tryz.func18, Tryz.ntmps18
 go_wp2_with fail;refine (HRD.out _).mono ?_;rintro e w1 ⟨rfl,hm1⟩;have HM1:=oh (HM0.out.trans hm1);have hB1:=HB0.out.ext hm1;have b0:=hB1.cell (o:=0) (v:=.pointer (some ⟨c,0,none⟩)) rfl;have b1:=hB1.cell (o:=1) (v:=.pointer (some ⟨s,0,none⟩)) rfl;have b2:=hB1.cell (o:=2) (v:=.int .u64 (g:Int)) rfl;clear hm1 hB1;go_wp2_with fail;refine (HRG.out _ HM1.out).mono ?_;rintro e w2 ⟨P2,F2,hG2,hN2,v,rfl,hv⟩;have HFIN:Hid (PgR F2 w2 P2 c s G l∧Nxt P P2 F F2 ad w w2∧Sl F2 w2 2 encP v ps):=oh ⟨hG2,(HNX.out _ HM1.out).trans hN2,hv⟩;clear hG2 hN2 hv;go_wp2_with fail;refine (wrap_nil _ _).mono ?_;rintro e w3 ⟨rfl,rfl⟩;go_wp2_with fail;refine bodyPost_ret (v:=.tuple #[v,.nilIface]) (by simp[results,Tryz.results18,go_sem]) rfl ?_;exact⟨P2,F2,HFIN.out.1,HFIN.out.2.1,v,rfl,HFIN.out.2.2⟩
theorem LocR.appQ{α:Type}{w0:World}{e:TypeId}{sz:Nat}{enc:α→List Value}{v v':Value}{x x':List α}(hL:Env F ad w)(hP:∀k,P k→F k)(h:LocR w0 F P w e sz enc v x)(ho:Own (λ_=>False) w' w0.heap.size e sz enc v' x')(m:Mods (λk=>v.ownBlock=some k) w w'){K:Nat}(hat:v'.ownBlock=v.ownBlock∨v'.ownBlock=some K)(hK:w.heap.size≤K) :
  Nxt (λk=>P k∨v.ownBlock=some k) (λk=>P k∨v'.ownBlock=some k) F (plusV F v') ad w w'∧LocR w0 (plusV F v') P w' e sz enc v' x':=by
 have hb:∀k,v'.ownBlock=some k→k<w'.heap.size:=λk hk=>(ho.lt k hk).2
 have hold:∀k,k<w.heap.size→v'.ownBlock=some k→v.ownBlock=some k:=λk hk e=>by
  rcases hat with h1|h1
  ·rw[← h1];exact e
  ·rw[h1] at e;injection e with e;omega
 refine⟨⟨⟨m.mono (λk hk=>.inr hk),λk hk hp=>hp.imp id (hold k hk),λk hp=>hp.elim (λhp=>Nat.lt_of_lt_of_le (hL.lt k (hP k hp)) m.size) (hb k)⟩,λk hp=>hp.elim (λhp=>.inl (hP k hp)) .inr,λk hk=>.inl hk,λk hk hf=>hf.elim id (λhf=>(h.2 k (hold k hk hf)).1),?_⟩,ho,λg hg=>⟨.inr hg,λhp=>?_⟩⟩
 ·exact hL.step (m.mono (λk hk=>(h.2 k hk).1)) (λk hk hn hf=>hf.elim hn (λhf=>hn (h.2 k (hold k hk hf)).1)) (λk hf=>hf.elim (λhf=>Nat.lt_of_lt_of_le (hL.lt k hf) m.size) (hb k))
 ·have hlt:=hL.lt g (hP g hp);exact (h.2 g (hold g hlt hg)).2 hp
abbrev ctQ(P:Nat→Prop)(v:Value):Nat→Prop:=λk=>P k∨v.ownBlock=some k
structure CtS(w0:World)(ad:Nat→Addr)(c s:Nat)(G:GA)(l:List Nat)(F P:Nat→Prop)(w:World)(v:Value)(out:List Int):Prop where
 env:Env F ad w
 sub:∀k,P k→F k
 pg:PgR F w P c s G l
 row:LocR w0 F P w 3 1 encI v out
 le:w0.heap.size≤w.heap.size
section
variable {w0 w1:World}{P1 F1:Nat→Prop}{v v1:Value}{out out1:List Int}
theorem CtS.subQ(h:CtS w0 ad c s G l F P w v out):∀k,ctQ P v k→F k:=λk hk=>hk.elim (h.sub k) (λe=>(h.row.2 k e).1)
theorem CtS.ext(h:CtS w0 ad c s G l F P w v out)(m:Ext w w1):CtS w0 ad c s G l F P w1 v out∧Nxt (ctQ P v) (ctQ P v) F F ad w w1 :=
 ⟨⟨h.env.mods m.ext,h.sub,h.pg.at m,h.row.ext m,Nat.le_trans h.le m.size⟩,Nxt.ext h.env h.subQ m⟩
theorem CtS.step(h:CtS w0 ad c s G l F P w v out)(n:Nxt P P1 F F1 ad w w1)(g:PgR F1 w1 P1 c s G l):CtS w0 ad c s G l F1 P1 w1 v out∧Nxt (ctQ P v) (ctQ P1 v) F F1 ad w w1 :=
 ⟨⟨n.env,n.sub,g,h.row.nxt n,Nat.le_trans h.le n.size⟩,n.part (λk hk=>(h.row.2 k hk).1) h.env⟩
theorem CtS.app(h:CtS w0 ad c s G l F P w v out)(ho:Own (λ_=>False) w1 w0.heap.size 3 1 encI v1 out1)(m:Mods (λk=>v.ownBlock=some k) w w1)(hat:v1.ownBlock=v.ownBlock∨v1.ownBlock=some w.heap.size):CtS w0 ad c s G l (plusV F v1) P w1 v1 out1∧Nxt (ctQ P v) (ctQ P v1) F (plusV F v1) ad w w1:=by
 obtain⟨n,r⟩:=h.row.appQ h.env h.sub ho m hat (Nat.le_refl _);exact⟨⟨n.env,λk hk=>.inl (h.sub k hk),h.pg.app h.row m hat (Nat.le_refl _),r,Nat.le_trans h.le m.size⟩,n⟩
end
theorem count_any15{w0:World}(g:Nat):∀(d:Nat) {F P:Nat→Prop} {w:World} (lo:ByteArray) (hi:Option ByteArray) (id:Nat) (ps:List PairS) (q:List Nat) (dep:Nat) (ov:Value) (out:List Int),CtS w0 ad c s G l F P w ov out→TrD G gen d lo hi id ps q→q.length+out.length≤100000→1≤dep→dep+d≤17 →
  Calls Tryz.prog 40 #[pgV c s g,.int .i64 (id:Int),.int .i64 (dep:Int),ov] w λe w'=>∃P' F' v,e=.returned (.tuple #[v,.nilIface])∧CtS w0 ad c s G l F' P' w' v (out++(leafsG G d id).map (λn:Nat=>(n:Int)))∧Nxt (ctQ P ov) (ctQ P' v) F F' ad w w'
 | 0,_,_,_,_,_,_,_,_,_,_,_,_,h,_,_,_=>h.elim
 | d+1,F,P,w,lo,hi,id,ps,q,dep,ov,out,hC,hT,hfew,hdep1,hdep=>by
  obtain⟨n,q,hp,hr,rfl,hbody⟩:=hT;obtain⟨hload,hnode⟩:=pg_load hp;obtain⟨hkn,_⟩:=GA.node_load hnode;obtain⟨X,hX⟩:∃X,X=w.heap.size:=⟨_,rfl⟩;obtain⟨w1,hw1⟩:∃w1,w1=w.alloc (.cells #[.pointer (some ⟨c,0,none⟩),.pointer (some ⟨s,0,none⟩),.int .u64 (g:Int)] 31):=⟨_,rfl⟩;have m0:Ext w w1:=by rw[hw1];exact (Mods.refl _ w).alloc _
  have hBX:Blk w1 X #[.pointer (some ⟨c,0,none⟩),.pointer (some ⟨s,0,none⟩),.int .u64 (g:Int)] 31:=by rw[hw1,hX];exact Blk.new w _ _
  have hPX:¬ ctQ P ov X:=λhp=>by have:=hC.env.lt X (hC.subQ X hp);omega
  obtain⟨hC1,hN1⟩:=hC.ext m0;have HLD:=load_any hC1.env hC1.sub hC1.pg g (id:Int) hkn;rw[hload] at HLD;unfold pgV at HLD ⊢;have HLD:=oh HLD;have HC1:=oh hC1;have HN1:=oh hN1;have HBX:=oh hBX;have HPX:=oh hPX;have HW1:=oh hw1;have HXX:=oh hX;have b0:=hBX.cell (o:=0) (v:=.pointer (some ⟨c,0,none⟩)) rfl;have b1:=hBX.cell (o:=1) (v:=.pointer (some ⟨s,0,none⟩)) rfl;have b2:=hBX.cell (o:=2) (v:=.int .u64 (g:Int)) rfl;rw[hw1] at b0 b1 b2;obtain⟨oa,oc,rfl,o1,o2⟩:=hC.row.1.form;have hd16:¬ (16:Int)<(dep:Int):=by omega
  have HDEP:=oh (And.intro hdep1 hdep);have HFEW:=oh hfew;have HRN:=oh (rightN_sz hr);clear hC hC1 hp hload hkn hw1 m0 hBX hPX hN1 hX hdep hdep1 hfew hr
  go_enter Tryz.func40, Tryz.ntmps40
  go_wp2_with fail;rw[← HW1.out,← HXX.out];refine HLD.out.mono ?_;rintro e w2 ⟨P2,F2,hG2,hN2,ve,vk,vi,rfl,hve,hvk,hvi⟩;obtain⟨w3,hw3⟩:∃w3,w3=w2.alloc (.cells #[.bool n.leaf,ve,vk,vi] 118):=⟨_,rfl⟩;have m3:Ext w2 w3:=by rw[hw3];exact (Mods.refl _ w2).alloc _
  obtain⟨hC2,hQ2⟩:=HC1.out.step hN2 hG2;obtain⟨hC3,hQ3⟩:=hC2.ext m3;have HC3:=oh hC3;have HN3:=oh ((HN1.out.trans hQ2).trans hQ3);have HB3:=oh ((hQ2.blk HBX.out HPX.out).ext m3);have HP3:=oh (hQ2.not HBX.out.lt HPX.out);have HVI:=oh (hvi.ext m3);obtain⟨ea,ec,rfl,e1,e2,e3, -⟩:=hve;obtain⟨ka,kc,rfl, -, -, -, -⟩:=hvk;obtain⟨ia,ic,rfl,i1,i2,i3, -⟩:=hvi;unfold maxLen at e2 i2;have HW3:=oh hw3;have H3S:Hid (w3.heap.size=w2.heap.size+1):=oh (by rw[hw3];simp);obtain⟨lf,hlf⟩:∃lf,lf=n.leaf:=⟨_,rfl⟩;rw[← hlf] at HW3 ⊢;have HLF:=oh hlf;clear hG2 hN2 hw3 m3 hlf hC2 hQ2 hC3 hQ3;cases lf with
  | true =>
   have HLS:Hid (leafsG G (d+1) id=[n.entries.length]):=oh (leafs_leaf hnode HLF.out.symm);clear hbody;obtain⟨wz,hwz⟩:∃wz,wz=w3.alloc (.cells #[.int .i64 (n.entries.length:Int)] 3):=⟨_,rfl⟩;have h3z:Ext w3 wz:=by rw[hwz];exact (Mods.refl _ _).alloc _
   have HLB:Hid (Blk wz w3.heap.size #[.int .i64 (n.entries.length:Int)] 3):=oh (by rw[hwz];exact Blk.new w3 _ _);obtain⟨hCz,hNz⟩:=HC3.out.ext h3z;have HCZ:=oh hCz;have HNZ:=oh (HN3.out.trans hNz);have HWZ:=oh hwz;clear h3z hwz hCz hNz;go_wp2_with (at_builtin;rw[← HW3.out,← H3S.out,← HWZ.out];refine wpl_app2 Tryz.elI encI_ok rfl _ _ rfl w0.heap.size _ _ out [(n.entries.length:Int)] rfl rfl HCZ.out.row.1 (Sl.one (F:=λ_=>False) (x:=(n.entries.length:Int)) (enc:=encI) (sz:=1) HLB.out (λf=>f)) (by have:=HFEW.out;simp only[List.length_cons,List.length_nil] at this ⊢;omega) HCZ.out.le (λf=>f) ?_;simp only[List.length_cons,List.length_nil,Nat.zero_add];intro a6 c6 w6 hO6 hm6 hat6);obtain⟨hC6,hN6⟩:=HCZ.out.app hO6 hm6 hat6;have HFIN:Hid (CtS w0 ad c s G l (plusV F2 (.slice a6 (out.length+1) c6)) P2 w6 (.slice a6 (out.length+1) c6) (out++(leafsG G (d+1) id).map (λn:Nat=>(n:Int)))∧Nxt (ctQ P (.slice oa out.length oc)) (ctQ P2 (.slice a6 (out.length+1) c6)) F (plusV F2 (.slice a6 (out.length+1) c6)) ad w w6):=oh ⟨by rw[HLS.out];exact hC6,HNZ.out.trans hN6⟩;clear hO6 hm6 hat6 hC6 hN6;go_wp2_with fail;refine bodyPost_ret (v:=.tuple #[.slice a6 (out.length+1) c6,.nilIface]) (by simp[results,Tryz.results40,go_sem]) rfl ?_;exact⟨P2,_,_,rfl,HFIN.out.1,HFIN.out.2⟩
  | false =>
   have HLS:Hid (leafsG G (d+1) id=n.kids.flatMap λk=>leafsG G d k.toNat):=oh (leafs_inner hnode HLF.out.symm);obtain⟨hkids,hqn⟩:∃(hk:Kids (TrD G gen d) lo hi n.keys n.kids ps q),True:=by
    rcases hbody with ⟨a1,_⟩|⟨_,a2⟩
    ·rw[← HLF.out] at a1;cases a1
    ·exact⟨a2,trivial⟩
   obtain⟨parts,hpl,hps,hpq,hpt⟩:=hkids.parts;have HPT:Hid (∀(k:Nat) (kd:Int),n.kids[k]? = some kd→∃(cn:Nat) (lo':ByteArray) (hi':Option ByteArray) (l':List PairS) (q':List Nat),kd=(cn:Int)∧TrD G gen d lo' hi' cn l' q'∧((n.kids.take k).flatMap λk=>leafsG G d k.toNat).length+q'.length≤q.length):=oh (λk kd hk=>by
    have hkl:=(List.getElem?_eq_some_iff.1 hk).1;obtain⟨pp,hpp⟩:∃pp,parts[k]? = some pp:=⟨_,List.getElem?_eq_getElem (by omega)⟩;obtain⟨cn,hcn,hTn⟩:=hpt k kd pp hk hpp;refine⟨cn,_,_,pp.1,pp.2,hcn,hTn,?_⟩;rw[hpq];exact flat_bound (λk:Int=>leafsG G d k.toNat) n.kids (parts.map (·.2)) (by simp[hpl]) (λi c x h1 h2=>by
     rw[List.getElem?_map,Option.map_eq_some_iff] at h2;obtain⟨y,hy,rfl⟩:=h2;obtain⟨c',hc',hT'⟩:=hpt i c y h1 hy;rw[hc',Int.toNat_natCast];exact leafs_few d _ _ _ _ _ hT') k kd pp.2 hk (by rw[List.getElem?_map,hpp];rfl))
   clear hbody hkids hpl hps hpq hpt;have HKL:=oh HRN.out.2.1;have hkn3:n.kids.length≤256:=HRN.out.2.1;go_wp2_with fail;rw[← HW3.out];go_loopg [3,39] n.kids.length (λm v3 v39 wr=>∃(k:Nat) (v:Value),k+m=n.kids.length∧v=v3∧v39=.int .i64 (k:Int)∧Hid (∃(P1 F1:Nat→Prop),CtS w0 ad c s G l F1 P1 wr v (out++((n.kids.take k).flatMap λk=>leafsG G d k.toNat).map (λn:Nat=>(n:Int)))∧Nxt (ctQ P (.slice oa out.length oc)) (ctQ P1 v) F F1 ad w wr∧Blk wr X #[.pointer (some ⟨c,0,none⟩),.pointer (some ⟨s,0,none⟩),.int .u64 (g:Int)] 31 ∧ ¬ ctQ P1 v X∧Sl F1 wr 1 encI (.slice ia n.kids.length ic) n.kids))
   case atStart=>exact⟨0,_,by omega,rfl,rfl,oh ⟨P2,F2,by simpa using HC3.out,HN3.out,HB3.out,HP3.out,HVI.out⟩⟩
   case round =>
    obtain⟨k,v,hkm,rfl,rfl,HS⟩:=hrel;by_cases hlt:k<n.kids.length
    ·obtain⟨P1,F1,hC4,hN4,hB4,hP4,hK4⟩:=HS.out;obtain⟨kd,hkd⟩:∃kd,kd=n.kids[k]:=⟨_,rfl⟩;have hkq:n.kids[k]? = some kd:=by rw[List.getElem?_eq_getElem hlt,hkd]
     obtain⟨cn,lo',hi',l',q',rfl,hT',hq'⟩:=HPT.out k kd hkq;obtain⟨qb,qoff,hqa,hqF,hcc⟩:=hK4.elemF hlt;rw[← hkd] at hcc;have d0:=hcc 0 (.int .i64 (cn:Int)) rfl;simp only[Nat.add_zero,Nat.mul_one] at d0;subst hqa;have b0:=hB4.cell (o:=0) (v:=.pointer (some ⟨c,0,none⟩)) rfl;have b1:=hB4.cell (o:=1) (v:=.pointer (some ⟨s,0,none⟩)) rfl;have b2:=hB4.cell (o:=2) (v:=.int .u64 (g:Int)) rfl;have hIH:=count_any15 g d lo' hi' cn l' q' (dep+1) v _ hC4 hT' (by have:=HFEW.out;simp only[List.length_cons,List.length_append,List.length_map] at this ⊢;omega) (by omega) (by have:=HDEP.out.2;omega);rw[show ((dep+1:Nat):Int)=(dep:Int)+1 from by omega] at hIH;unfold pgV at hIH;have HIH:=oh hIH;have HN4:=oh hN4;have HB4:=oh hB4;have HP4:=oh hP4;have HK4:=oh hK4;have HQS:=oh hC4.subQ;have HLT:Hid (((n.kids.take (k+1)).flatMap λk=>leafsG G d k.toNat)=((n.kids.take k).flatMap λk=>leafsG G d k.toNat)++leafsG G d cn):=oh (by
      rw[take_one n.kids k _ hkq,List.flatMap_append];simp)
     have z1:(0:Int)≤(k:Int):=by omega
     have z2:(k:Int)<(n.kids.length:Int):=by omega
     have z3:IntKind.i64.wrap ((dep:Int)+1)=(dep:Int)+1:=IntWalk.i64_in _ (by have:=HDEP.out.2;omega);clear hC4 hN4 hB4 hP4 hK4 hkd hkq hT' hq' hcc hqF hIH;go_wp2_with fail;refine HIH.out.mono ?_;rintro e5 w5 ⟨P5,F5,v5,rfl,hC5,hN5⟩;have HS5:Hid (∃(P1 F1:Nat→Prop),CtS w0 ad c s G l F1 P1 w5 v5 (out++((n.kids.take (k+1)).flatMap λk=>leafsG G d k.toNat).map (λn:Nat=>(n:Int)))∧Nxt (ctQ P (.slice oa out.length oc)) (ctQ P1 v5) F F1 ad w w5∧Blk w5 X #[.pointer (some ⟨c,0,none⟩),.pointer (some ⟨s,0,none⟩),.int .u64 (g:Int)] 31 ∧ ¬ ctQ P1 v5 X∧Sl F1 w5 1 encI (.slice (some ⟨qb,qoff,none⟩) n.kids.length ic) n.kids):=oh ⟨P5,F5,by rw[HLT.out,List.map_append,← List.append_assoc];exact hC5,HN4.out.trans hN5,hN5.blk HB4.out HP4.out,hN5.not HB4.out.lt HP4.out,hN5.sl HQS.out HK4.out⟩;clear hC5 hN5;go_wp2_with fail;go_roundg (gk-1)
     case measure=>omega
     case rel=>exact⟨k+1,_,by omega,rfl,by go_num,HS5⟩
    ·have hk:k=n.kids.length:=by omega
     obtain⟨P1,F1,hC4,hN4,hB4,hP4,hK4⟩:=HS.out;have HFIN:Hid (CtS w0 ad c s G l F1 P1 wr v (out++(leafsG G (d+1) id).map (λn:Nat=>(n:Int)))∧Nxt (ctQ P (.slice oa out.length oc)) (ctQ P1 v) F F1 ad w wr):=oh ⟨by rw[HLS.out];rw[hk,List.take_length] at hC4;exact hC4,hN4⟩;clear hC4 hN4 hB4 hP4 hK4;go_wp2_with fail;refine bodyPost_ret (v:=.tuple #[v,.nilIface]) (by simp[results,Tryz.results40,go_sem]) rfl ?_;exact⟨P1,_,_,rfl,HFIN.out.1,HFIN.out.2⟩
theorem leavesT_any(hL:Env F ad w)(hP:∀k,P k→F k)(h:PgR F w P c s G l)(g:Nat)(hT:TD G gen root d ps pgs)(hb:G.blocks≤256) :
  Calls Tryz.prog 12 #[pgV c s g,.int .i64 (root:Int)] w (PgDone F P ad w c s G l (λF' w' e=>∃v,e=.returned (.tuple #[v,.nilIface])∧Sl F' w' 1 encI v ((leafsG G d root).map (λn:Nat=>(n:Int))))):=by
 have m0:Ext w (w.alloc (.cells #[.pointer (some ⟨c,0,none⟩),.pointer (some ⟨s,0,none⟩),.int .u64 (g:Int)] 31)):=(Mods.refl _ w).alloc _;have HB0:=oh (Blk.new w #[.pointer (some ⟨c,0,none⟩),.pointer (some ⟨s,0,none⟩),.int .u64 (g:Int)] 31);have HM0:=oh m0;have HRD:=λW=>bready_ok (c:=c) (s:=s) (w:=W) ⟨#[98,117,108,107,46,76,101,97,118,101,115]⟩ g
 have HNX:=oh (λW (m:Ext w W)=>Nxt.ext hL hP m);have HGX:=oh (λW (m:Ext w W)=>h.at m);have HENV:=oh hL;have hfew:=hT.few hb;unfold pgV at HRD ⊢;have HRD:=oh HRD;rcases hT.tree with ⟨rfl,rfl,_,_⟩|⟨hd,hTr⟩
 ·clear hL hP h m0 hfew
  go_enter Tryz.func12, Tryz.ntmps12
  go_wp2_with fail;refine (HRD.out _).mono ?_;rintro e w1 ⟨rfl,hm1⟩;have HM1:=oh (HM0.out.trans hm1);clear hm1;go_wp2_with fail;refine bodyPost_ret (v:=.tuple #[.slice none 0 0,.nilIface]) (by simp[results,Tryz.results12,go_sem]) rfl ?_;exact⟨P,F,HGX.out _ HM1.out,HNX.out _ HM1.out,_,rfl,Sl.nil _ _ _ _⟩
 ·have hr0:¬ (root:Int)=0:=by
   obtain⟨r,hr⟩:=TrD.head _ _ _ _ _ _ hTr;have:=hT.lt root (by rw[hr];simp);omega
  have HCT:=oh (λW (m:Ext w W)=>count_any15 (w0:=w) g d e0 none root ps pgs 1 (.slice none 0 0) [] (⟨hL.mods m.ext,hP,h.at m,LocR.nil _ _ _ _ _ _ _,m.size⟩:CtS w ad c s G l F P W (.slice none 0 0) []) hTr (by simp;omega) (by omega) (by omega));unfold pgV at HCT;rw[show ((1:Nat):Int)=1 from rfl] at HCT;have HFW:=oh (leafs_few d _ _ _ _ _ hTr);have HFEW:=oh hfew;clear hL hP h m0 hfew
  go_enter Tryz.func12, Tryz.ntmps12
  go_wp2_with fail;refine (HRD.out _).mono ?_;rintro e w1 ⟨rfl,hm1⟩;have HM1:=oh (HM0.out.trans hm1);have hB1:=HB0.out.ext hm1;have b0:=hB1.cell (o:=0) (v:=.pointer (some ⟨c,0,none⟩)) rfl;have b1:=hB1.cell (o:=1) (v:=.pointer (some ⟨s,0,none⟩)) rfl;have b2:=hB1.cell (o:=2) (v:=.int .u64 (g:Int)) rfl;clear hm1 hB1;go_wp2_with fail;refine (HCT.out _ HM1.out).mono ?_;rintro e w2 ⟨P2,F2,v,rfl,hC2,hN2⟩;rw[List.nil_append] at hC2;have hN2':Nxt P P2 F (λk=>F k∨P2 k) ad w w2:=by
   have n:=(((HNX.out _ HM1.out).part (Q:=λk=>(Value.slice none 0 0).ownBlock=some k) (λk hk=>by simp[Value.ownBlock] at hk) HENV.out).trans hN2).shrink (P2:=P2) (λk hk=>.inl hk);have n2:=n.least;exact⟨⟨n2.stp.mods.mono (λk hk=>hk.elim id (λe=>by simp[Value.ownBlock] at e)),λk hk hp=>(n2.stp.old k hk hp).elim id (λe=>by simp[Value.ownBlock] at e),n2.stp.bd⟩,n2.sub,n2.grow,n2.oldF,n2.env⟩
  have HFIN:Hid (PgR (λk=>F k∨P2 k) w2 P2 c s G l∧Nxt P P2 F (λk=>F k∨P2 k) ad w w2∧Sl (λk=>F k∨P2 k) w2 1 encI v ((leafsG G d root).map (λn:Nat=>(n:Int)))):=oh ⟨hC2.pg.anti (λk hk=>hk.elim (hN2.grow k) (hC2.sub k)),hN2',Own.sl (F:=λk=>F k∨P2 k) ⟨hC2.row.1.1,λg hg hf=>hf.elim (λhf=>by have h1:=(hC2.row.1.lt g hg).1;have h2:=HENV.out.lt g hf;omega) (λhp=>(hC2.row.2 g hg).2 hp)⟩ encI_ok.len (by rw[List.length_map];have:=HFW.out;have:=HFEW.out.1;omega)⟩;clear hC2 hN2 hN2';go_wp2_with fail;refine (wrap_nil _ _).mono ?_;rintro e w3 ⟨rfl,rfl⟩;go_wp2_with fail;refine bodyPost_ret (v:=.tuple #[v,.nilIface]) (by simp[results,Tryz.results12,go_sem]) rfl ?_;exact⟨P2,_,HFIN.out.1,HFIN.out.2.1,v,rfl,HFIN.out.2.2⟩
end
def awP:List PairS:=[(⟨#[97]⟩,⟨#[120]⟩),(⟨#[98]⟩,⟨#[]⟩)]
theorem awP_ok:SortedP awP∧PairsOk awP:=by
 constructor
 ·exact List.pairwise_cons.2 ⟨by decide +kernel,List.pairwise_cons.2 ⟨by simp,List.Pairwise.nil⟩⟩
 ·intro x hx;simp only[awP,List.mem_cons,List.not_mem_nil,or_false] at hx;rcases hx with rfl|rfl <;> decide +kernel
theorem awake15_any{ad:Nat→Addr}{w:World}(hL:Env NoB ad w) : Calls Tryz.prog 9 #[] w λe w'=>e=.returned (.bool true)∧Ext w w':=by
 have HL:=oh hL;obtain⟨G',l',root,d,pgs,hld,hlaid⟩:=laid15 awP_ok.1 awP_ok.2 (by decide) (by intro x hx;simp only[awP,List.mem_cons,List.not_mem_nil,or_false] at hx;rcases hx with rfl|rfl <;> decide);have HLD:=oh hld;have HLA:=oh hlaid;clear hL hld hlaid
 go_enter Tryz.func9, Tryz.ntmps9
 go_wp2_with fail;refine (pager15_any HL.out).mono ?_;rintro e w1 ⟨c,s,P,F,rfl,hG,hN⟩;have hS:=LG.startZ (gen:=5) hG hN 5 rfl;obtain⟨wb,hwb⟩:∃wb,wb=w1.alloc (.cells #[.pointer (some ⟨c,0,none⟩),.pointer (some ⟨s,0,none⟩),.int .u64 5] 31):=⟨_,rfl⟩;rw[← hwb] at hS;obtain⟨wl,hwl⟩:∃wl,wl=wb.alloc (.cells #[.string ⟨#[97]⟩,.string ⟨#[120]⟩,.string ⟨#[98]⟩,.string ⟨#[]⟩] 25):=⟨_,rfl⟩;have hbl:Ext wb wl:=by rw[hwl];exact (Mods.refl _ _).alloc _
 have hSl:=hS.ext hbl;have hlt:Blk wl wb.heap.size #[.string ⟨#[97]⟩,.string ⟨#[120]⟩,.string ⟨#[98]⟩,.string ⟨#[]⟩] 25:=by rw[hwl];exact Blk.new wb _ _
 have hrow:Sl F wl 2 encP (.slice (some ⟨wb.heap.size,0,none⟩) 2 2) awP:=Sl.duo (x:=((⟨#[97]⟩,⟨#[120]⟩):PairS)) (y:=((⟨#[98]⟩,⟨#[]⟩):PairS)) hlt rfl (λf=>by have:=hS.env.lt _ f;omega);have HLO:=Load15_any hSl.env hSl.sub hSl.pg 5 (by omega) new250.1 awP _ hrow awP_ok.1 awP_ok.2 (by decide) (by show 0≤800000;omega) root HLD.out;rw[pgV5] at HLO ⊢;have HLO:=oh HLO;have hsz:wb.heap.size=w1.heap.size+1:=by rw[hwb];simp
 have t0:=hS.c0;have t1:=hS.c1;have t2:_=some (Value.int .u64 5):=hS.c2;have t0:=cell_alloc t0 (.cells #[.string ⟨#[97]⟩,.string ⟨#[120]⟩,.string ⟨#[98]⟩,.string ⟨#[]⟩] 25);rw[hwb] at t0 t1 t2;have HWB:=oh hwb;have HWL:=oh hwl;have HSZ:=oh hsz;have HSL:=oh hSl;clear hG hN hS hbl hSl hlt hrow hwb hwl hsz t0;have t0:(w1.alloc (.cells #[.pointer (some ⟨c,0,none⟩),.pointer (some ⟨s,0,none⟩),.int .u64 5] 31)).cell? ⟨w1.heap.size,0,none⟩=some (.pointer (some ⟨c,0,none⟩)):=(Blk.new w1 _ _).cell (o:=0) rfl;go_wp2_with fail;rw[← HWB.out,← HSZ.out,← HWL.out];refine HLO.out.mono ?_;rintro e w2 ⟨P2,F2,hG2,hN2,rfl⟩;have hS2:=HSL.out.step hN2 hG2;have t0:=hS2.c0;have t1:=hS2.c1;have t2:_=some (Value.int .u64 5):=hS2.c2;have HDU:=dumpT_any hS2.env hS2.sub hS2.pg 5 HLA.out.td (by rw[HLA.out.size];omega) (by rw[HLA.out.blk];omega) (by decide);rw[pgV5] at HDU;have HDU:=oh HDU;have HS2:=oh hS2;clear hG2 hN2 hS2;go_wp2_with fail;refine HDU.out.mono ?_;rintro e w3 hd;obtain⟨P3,F3,hS3,v,rfl,hv⟩:=HS2.out.done hd;have HX:=oh hS3.ext0;obtain⟨va,vc,rfl,h1,h2,h3, -⟩:=id hv;obtain⟨qb,qoff,hqa,hqF,hcc⟩:=hv.elemF (k:=0) (by decide);have d1:=hcc 1 (.string ⟨#[120]⟩) rfl;simp only[Nat.zero_mul,Nat.add_zero] at d1;subst hqa;have hal:awP.length=2:=rfl;rw[hal];clear hd hS3 hv hcc hqF t0 t1 t2 h1 h3 hal;go_wp2_with fail;go_ret;exact⟨rfl,HX.out⟩
theorem sameIntsY{F G:Nat→Prop}{w:World}(av bv:Value)(l:List Int)(ha:Sl F w 1 encI av l)(hb:Sl G w 1 encI bv l) :
  Calls Tryz.prog 22 #[av,bv] w λe w'=>e=.returned (.bool true)∧Ext w w':=by
 have:=SameInts_any av bv l l ha hb;rw[decide_eq_true rfl] at this;exact this
theorem sameTextsY{F G:Nat→Prop}{w:World}(av bv:Value)(l:List ByteArray)(ha:Sl F w 1 encS av l)(hb:Sl G w 1 encS bv l) :
  Calls Tryz.prog 19 #[av,bv] w λe w'=>e=.returned (.bool true)∧Ext w w':=by
 have:=SameTexts_any av bv l l ha hb;rw[decide_eq_true rfl] at this;exact this
theorem BulkLoads_any{ad:Nat→Addr}{w:World}(hL:Env NoB ad w)(m:List PairS)(mv:Value)(hm:Sl NoB w 2 encP mv m) :
  Calls Tryz.prog 5 #[mv] w λe w'=>e=.returned (.bool true)∧Ext w w':=by
 have HL:=oh hL;have HTM:=oh (tame15_any m mv hm);obtain⟨ps,hp0⟩:∃ps,ps=tameP 200 m:=⟨_,rfl⟩;have hT:=tameP_ok 200 m;rw[← hp0] at HTM hT;have HT:=oh hT;have hp24:=hT.len;obtain⟨ma,mc,rfl, -, -, -, -⟩:=hm;clear hL hp0 hT
 go_enter Tryz.func5, Tryz.ntmps5
 go_wp2_with fail;refine HTM.out.mono ?_;rintro e w1 ⟨v,rfl,hO,hm1⟩;obtain⟨va,vc,rfl,hv1,hv2⟩:=hO.form;unfold maxLen at hv2;obtain⟨G',l',root,d,pgs,hld,hla⟩:=laid15 HT.out.sorted HT.out.ok (by omega) (λx hx=>by have:=HT.out.small x hx;omega);have HSR:Hid (Sl NoB w1 2 encP (.slice va ps.length vc) ps):=oh (by have:=hO.sl encP_ok.len (by omega);exact this);have HSH:Hid (ShortP ps):=oh ⟨by omega,λx hx=>⟨by have:=(keyB_iff x.1).1 (HT.out.ok x hx).1;omega,by have:=HT.out.small x hx;omega⟩⟩;have HXE:=oh hm1;have HLE:=oh (HL.out.mods hm1.ext);have HLD:=oh hld;have HLA:=oh hla;clear hO hm1 hld hla;go_wp2_with fail;refine (pager15_any HLE.out).mono ?_;rintro e w3 ⟨c,s,P,F,rfl,hG,hN⟩;have hS:=LG.startZ (gen:=5) hG hN 5 rfl;have t0:=hS.c0;have t1:=hS.c1;have t2:_=some (Value.int .u64 5):=hS.c2;have HLO:=Load15_any hS.env hS.sub hS.pg 5 (by omega) new250.1 ps _ (hS.sl HSR.out) HT.out.sorted HT.out.ok (by omega) (by show 0≤800000;omega) root HLD.out;rw[pgV5] at HLO ⊢;have HLO:=oh HLO;have HS:=oh hS;clear hG hN hS;go_wp2_with fail;refine HLO.out.mono ?_;rintro e w4 ⟨P4,F4,hG4,hN4,rfl⟩;have hS4:=HS.out.step hN4 hG4;have t0:=hS4.c0;have t1:=hS4.c1;have t2:_=some (Value.int .u64 5):=hS4.c2;have hsz:256≤G'.size:=by rw[HLA.out.size];exact Nat.le_refl _
 have hbk:G'.blocks≤256:=by rw[HLA.out.blk];omega
 have HSB:=oh (And.intro hsz hbk);have HWK:=walkT_any hS4.env hS4.sub hS4.pg 5 HLA.out.td (Nat.le_refl _) hsz hbk;rw[pgV5] at HWK;have HWK:=oh HWK;have HS4:=oh hS4;clear hG4 hN4 hS4 hsz hbk;go_wp2_with fail;refine HWK.out.mono ?_;rintro e w5 ⟨P5,F5,hG5,hN5,kpv,kkv,rfl,hsp,hsk⟩;have hS5:=HS4.out.step hN5 hG5;have HSP:=oh hsp;have HSK:=oh hsk;obtain⟨ra,rc,rfl, -, -, -, -⟩:=hsp;obtain⟨ka,kc,rfl, -, -, -, -⟩:=hsk;simp only at HSP HSK ⊢;obtain⟨np,hnp⟩:∃np,np=(iL pgs).length:=⟨_,rfl⟩;obtain⟨nk,hnk⟩:∃nk,nk=(ps.map (·.1)).length:=⟨_,rfl⟩;rw[← hnp] at HSP ⊢;rw[← hnk] at HSK ⊢;obtain⟨w6,hw6⟩:∃w6,w6=w5.alloc (.cells #[.slice ra np rc,.slice ka nk kc,.int .i64 (d:Int)] 52):=⟨_,rfl⟩;have m6:Ext w5 w6:=by rw[hw6];exact (Mods.refl _ w5).alloc _
 have hRB:Blk w6 w5.heap.size #[.slice ra np rc,.slice ka nk kc,.int .i64 (d:Int)] 52:=by rw[hw6];exact Blk.new w5 _ _
 have HRP:Hid (¬ P5 w5.heap.size):=oh (λhp=>Nat.lt_irrefl _ (hS5.env.lt _ (hS5.sub _ hp)));have hS6:=hS5.ext m6;have t0:=hS6.c0;have t1:=hS6.c1;have t2:_=some (Value.int .u64 5):=hS6.c2;rw[hw6] at t0 t1 t2;have HDU:=dumpT_any hS6.env hS6.sub hS6.pg 5 HLA.out.td HSB.out.1 HSB.out.2 (by omega);rw[pgV5] at HDU;have HDU:=oh HDU;have HS6:=oh hS6;have HRB:=oh hRB;have HSP6:=oh (HSP.out.ext m6);have HSK6:=oh (HSK.out.ext m6);have HW6:=oh hw6;clear hG5 hN5 hS5 hS6 hnp hnk m6 hRB hw6;go_wp2_with fail;rw[← HW6.out];refine HDU.out.mono ?_;rintro e w7 ⟨P7,F7,hG7,hN7,gv,rfl,hgv⟩;have hS7:=HS6.out.step hN7 hG7;have t0:=hS7.c0;have t1:=hS7.c1;have t2:_=some (Value.int .u64 5):=hS7.c2;have HLV:=leavesT_any hS7.env hS7.sub hS7.pg 5 HLA.out.td HSB.out.2;rw[pgV5,HLA.out.leafs] at HLV;have HLV:=oh HLV;have HS7:=oh hS7;have HSP7:=oh (hN7.sl HS6.out.sub HSP6.out);have HSK7:=oh (hN7.sl HS6.out.sub HSK6.out);have HRB7:=oh (hN7.blk HRB.out HRP.out);have HRP7:=oh (hN7.not HRB.out.lt HRP.out);have HGV:=oh hgv;obtain⟨ga,gc,rfl, -, -, -, -⟩:=hgv;clear hG7 hN7 hS7;go_wp2_with fail;refine HLV.out.mono ?_;rintro e w8 ⟨P8,F8,hG8,hN8,nv,rfl,hnv⟩;have hS8:=HS7.out.step hN8 hG8;have HSP8:=oh (hN8.sl HS7.out.sub HSP7.out);have HSK8:=oh (hN8.sl HS7.out.sub HSK7.out);have HGV8:=oh (hN8.sl HS7.out.sub HGV.out);have hRB8:=hN8.blk HRB7.out HRP7.out;obtain⟨ns,hns⟩:∃ns,ns=(leavesW 232 (wtsP ps)).map (λn:Nat=>(n:Int)):=⟨_,rfl⟩;rw[← hns] at hnv;have HNS:=oh hns;have HNV:=oh hnv;obtain⟨na,nc,rfl, -, -,n3, -⟩:=hnv;have HNL:=oh n3;clear n3;have HSL8:=oh (hS8.sl HSR.out);have y0:=hRB8.cell (o:=0) (v:=.slice ra np rc) rfl;have y1:=hRB8.cell (o:=1) (v:=.slice ka nk kc) rfl;have HRB8:=oh hRB8;have HS8:=oh hS8;have hd:=(Mods.refl (λ_=>False) w8).drew;have HKY:=oh (keys11_any (w:=w8.drew) ps (.slice va ps.length vc) (HSL8.out.ext hd) (by omega));have HSTX:Hid (∀(w9:World) (kv9:Value),Ext w8.drew w9→Own (λ_=>False) w9 w8.drew.heap.size 9 1 encS kv9 (ps.map (·.1)) → Calls Tryz.prog 19 #[.slice ka nk kc,kv9] w9 λe w'=>e=.returned (.bool true)∧Ext w9 w'):=oh (λw9 kv9 hm hO=>sameTextsY (F:=F8) (G:=F8) (.slice ka nk kc) kv9 (ps.map (·.1)) (HSK8.out.ext (hd.trans hm)) (hO.slF (λk hk=>HS8.out.env.lt k hk) encS_ok.len (by rw[List.length_map];omega)));clear hG8 hN8 hS8 hRB8 hd hns t0 t1 t2;go_wp2_with fail;go_region_held3 (λw'=>w'.cell? ⟨w5.heap.size,0,none⟩=some (.slice ra np rc)∧w'.cell? ⟨w5.heap.size,1,none⟩=some (.slice ka nk kc))
  (first|(with_reducible exact⟨y0,y1⟩)|(with_reducible exact⟨c0,c1⟩)|(with_reducible exact⟨d0,d1⟩)|go_keep)
  (first
   | (go_at_call 20;(with_reducible refine (HKY.out).mono ?_);rintro x w9 ⟨kv9,rfl,hO9,hm9⟩;have c0:=cellE (w:=w8.drew) hm9 y0;have c1:=cellE (w:=w8.drew) hm9 y1)
   | (go_at_call 19;(with_reducible refine (HSTX.out _ _ hm9 hO9).mono ?_);rintro x w10 ⟨rfl,hm10⟩;have d0:=cellE hm10 c0;have d1:=cellE hm10 c1)
   | fail)
 have HXA:=oh (((Mods.refl (λ_=>False) w8).drew.trans hm9).trans hm10);have hS10:=HS8.out.ext HXA.out;have b0:=hS10.c0;have b1:=hS10.c1;have b2:_=some (Value.int .u64 5):=hS10.c2;have HS10:=oh hS10;have HSP10:=oh (HSP8.out.ext HXA.out);have HGV10:=oh (HGV8.out.ext HXA.out);have HNV10:=oh (HNV.out.ext HXA.out);have HSL10:=oh (HSL8.out.ext HXA.out);have hd:=(Mods.refl (λ_=>False) w10).drew;have HD:=oh hd;have HFB:=oh (λk (hk:F8 k)=>HS10.out.env.lt k hk);have HSM:=oh (same12P_any (w:=w10.drew) ps (.slice ga ps.length gc) (.slice va ps.length vc) (HGV10.out.ext hd) (HSL10.out.ext hd) (by omega));have HLF:=oh (λW (hm:Ext w10.drew W)=>leaves15_any (w:=W) ps (.slice va ps.length vc) 256 ((HSL10.out.ext hd).ext hm) HSH.out (by omega) (by omega));rw[show (256:Int)-24=232 from rfl,← HNS.out] at HLF;have HSI1:=oh (λ(W1 W2:World) (u:Value) (hm1:Ext w10.drew W1) (hO:Own NoF W2 W1.heap.size 3 1 encI u ns) (hm2:Ext W1 W2)=>sameIntsY (F:=F8) (G:=F8) (w:=W2) (.slice na ns.length nc) u ns (((HNV10.out.ext hd).ext hm1).ext hm2) (hO.slF (λk hk=>Nat.lt_of_lt_of_le (HFB.out k hk) hm1.size) encI_ok.len HNL.out));have HUS:=oh (λW (hm:Ext w10.drew W)=>pgUsed (w:=W) ((HS10.out.pg.at hd).at hm));rw[lay_used (n:=250) (HLA.out.ctx.len.trans HLA.out.blk) HLA.out.lay] at HUS;have HU13:=oh (λW (hm:Ext w10.drew W)=>Used13_any (w:=W) (iL pgs) (.slice ra np rc) ((HSP10.out.ext hd).ext hm) 250 (by omega));rw[show ((250:Nat):Int)=250 from rfl] at HU13;have HSI2:=oh (λ(W1 W2 W3:World) (u1 u2:Value) (hm1:Ext w10.drew W1) (hO1:Own (λ_=>False) W2 W1.heap.size 3 1 encI u1 (usedP (iL pgs) 250)) (hm2:Ext W2 W3) (hO2:Own (λ_=>False) W3 W2.heap.size 3 1 encI u2 (usedP (iL pgs) 250)) (hm3:Ext W1 W2)=>sameIntsY (F:=F8) (G:=F8) (w:=W3) u1 u2 (usedP (iL pgs) 250) ((hO1.slF (λk hk=>Nat.lt_of_lt_of_le (HFB.out k hk) hm1.size) encI_ok.len (by have:=usedP_len (iL pgs) 250;omega)).ext hm2) (hO2.slF (λk hk=>Nat.lt_of_lt_of_le (HFB.out k hk) (Nat.le_trans hm1.size hm3.size)) encI_ok.len (by have:=usedP_len (iL pgs) 250;omega)));have HAW:=oh (λW (hm:Ext w10.drew W)=>awake15_any (w:=W) (((HLE.out.mods HS10.out.ext0.ext).mods hd.ext).mods hm.ext));have HXX:=oh ((HXE.out.trans HS10.out.ext0).trans hd);clear hS10 hm9 hm10 hO9 y0 y1 c0 c1 hd;go_wp2_with fail;go_region_held3 (λw'=>w'.cell? ⟨w3.heap.size,0,none⟩=some (.pointer (some ⟨c,0,none⟩))∧w'.cell? ⟨w3.heap.size,1,none⟩=some (.pointer (some ⟨s,0,none⟩))∧w'.cell? ⟨w3.heap.size,2,none⟩=some (.int .u64 5)∧w'.cell? ⟨w5.heap.size,0,none⟩=some (.slice ra np rc))
  (first|(with_reducible exact⟨b0,b1,b2,d0⟩)|(with_reducible exact⟨x0,x1,x2,x3⟩)|(with_reducible exact⟨y0,y1,y2,y3⟩)|(with_reducible exact⟨z0,z1,z2,z3⟩)|(with_reducible exact⟨a0,a1,a2,a3⟩)|(with_reducible exact⟨e0,e1,e2,e3⟩)|(with_reducible exact⟨f0,f1,f2,f3⟩)|(with_reducible exact⟨g0,g1,g2,g3⟩)|go_keep)
  (first
   | (go_at_call 21;(with_reducible refine (HSM.out).mono ?_);rintro x w11 ⟨rfl,hm11⟩;have x0:=cellE (w:=w10.drew) hm11 b0;have x1:=cellE (w:=w10.drew) hm11 b1;have x2:=cellE (w:=w10.drew) hm11 b2;have x3:=cellE (w:=w10.drew) hm11 d0)
   | (go_at_call 23;(with_reducible refine (HLF.out _ hm11).mono ?_);rintro x w12 ⟨u12,rfl,hO12,hm12⟩;have y0:=cellE hm12 x0;have y1:=cellE hm12 x1;have y2:=cellE hm12 x2;have y3:=cellE hm12 x3)
   | (go_at_call 24;(with_reducible refine (HUS.out _ ((hm11.trans hm12).trans hm13)).mono ?_);rintro x w14 ⟨u14,rfl,hO14,hm14⟩;have a0:=cellE hm14 z0;have a1:=cellE hm14 z1;have a2:=cellE hm14 z2;have a3:=cellE hm14 z3)
   | (go_at_call 25;(with_reducible refine (HU13.out _ (((hm11.trans hm12).trans hm13).trans hm14)).mono ?_);rintro x w15 ⟨u15,rfl,hO15,hm15⟩;have e0:=cellE hm15 a0;have e1:=cellE hm15 a1;have e2:=cellE hm15 a2;have e3:=cellE hm15 a3)
   | (go_at_call 22;(with_reducible refine (HSI2.out _ _ _ _ _ ((hm11.trans hm12).trans hm13) hO14 hm15 hO15 hm14).mono ?_);rintro x w16 ⟨rfl,hm16⟩;have f0:=cellE hm16 e0;have f1:=cellE hm16 e1;have f2:=cellE hm16 e2;have f3:=cellE hm16 e3)
   | (go_at_call 22;(with_reducible refine (HSI1.out _ _ _ hm11 hO12 hm12).mono ?_);rintro x w13 ⟨rfl,hm13⟩;have z0:=cellE hm13 y0;have z1:=cellE hm13 y1;have z2:=cellE hm13 y2;have z3:=cellE hm13 y3)
   | (go_at_call 9;(with_reducible refine (HAW.out _ (((((hm11.trans hm12).trans hm13).trans hm14).trans hm15).trans hm16)).mono ?_);rintro x w17 ⟨rfl,hm17⟩;have g0:=cellE hm17 f0;have g1:=cellE hm17 f1;have g2:=cellE hm17 f2;have g3:=cellE hm17 f3)
   | fail)
 go_wp2_with fail;go_ret;exact⟨rfl,((((((HXX.out.trans hm11).trans hm12).trans hm13).trans hm14).trans hm15).trans hm16).trans hm17⟩
end Go.Proofs.YtchklfmggpconaaGreatDoor
