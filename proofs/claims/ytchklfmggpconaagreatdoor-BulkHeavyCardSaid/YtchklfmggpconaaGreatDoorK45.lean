import Derived.Test.YtchklfmggpconaaGreatDoorK29
import Derived.Test.YtchklfmggpconaaGreatDoorK44
import Derived.Test.YtchklfmggpconaaGreatDoorK42
import Derived.Test.YtchklfmggpconaaGreatDoorK39
import Derived.Test.YtchklfmggpconaaGreatDoorK30
import Derived.IntWalk
import Derived.Test.YtchklfmggpconaaGreatDoorK18
import Derived.Test.YtchklfmggpconaaGreatDoorK24
import Derived.Test.YtchklfmggpconaaGreatDoorK41
import Derived.BigQuiet
namespace Go.Proofs.YtchklfmggpconaaGreatDoor
set_option maxRecDepth 100000
open Go.RowKit
attribute [local go_sem ↓] Go.wp_at_zero Go.wp_at_succ
section
variable {G:GA}{gen:Nat}
theorem Kids.eachT{T:TreeT}{lo:ByteArray}{hi:Option ByteArray}{kk:List ByteArray}{cc:List Int}{ps:List PairS}{q:List Nat}(h:Kids T lo hi kk cc ps q):∀k∈cc,∃lo' hi' l' q',T lo' hi' k.toNat l' q':=λk hk=>by
 obtain⟨n,lo',hi',l',q',rfl,t,_⟩:=h.each k hk
 exact⟨lo',hi',l',q',by rw[Int.toNat_natCast];exact t⟩
theorem TrD.trE:∀(d:Nat) (lo:ByteArray) (hi:Option ByteArray) (id:Nat) (l:List PairS) (q:List Nat),TrD G gen d lo hi id l q→TrE G.node id d
 | 0,_,_,_,_,_,h=>h.elim
 | d+1,lo,hi,id,l,q,h=>by
  obtain⟨n,q,hp,hr,rfl,h⟩:=h
  have hn:=pgn_node hp
  rcases h with ⟨hl,rfl,hne,he,_⟩|⟨hl,hk⟩
  ·exact .leaf hn hl (λe=>by
    have:=he.len
    rw[e] at this
    exact hne (List.length_eq_zero_iff.1 (by simpa using this.symm)))
  ·exact .inner hn hl (λk hk'=>by
    obtain⟨lo',hi',l',q',t⟩:=hk.eachT k hk'
    exact TrD.trE d _ _ _ _ _ t)
theorem leafs_few:∀(d:Nat) (lo:ByteArray) (hi:Option ByteArray) (id:Nat) (l:List PairS) (q:List Nat),TrD G gen d lo hi id l q→(leafsG G d id).length≤q.length
 | 0,_,_,_,_,_,h=>h.elim
 | d+1,lo,hi,id,l,q,h=>by
  obtain⟨n,q,hp,hr,rfl,h⟩:=h
  have hn:=pgn_node hp
  rcases h with ⟨hl,_⟩|⟨hl,hk⟩
  ·rw[leafs_leaf hn hl];simp
  ·rw[leafs_inner hn hl]
   have key:∀{lo hi kk cc ps q},Kids (TrD G gen d) lo hi kk cc ps q→(cc.flatMap λk=>leafsG G d k.toNat).length≤q.length:=by
    intro lo hi kk cc ps q hk
    induction hk with
    | one h=>have:=leafs_few d _ _ _ _ _ h;simpa using this
    | cons h1 _ _ ih =>
     have:=leafs_few d _ _ _ _ _ h1
     rw[List.flatMap_cons,List.length_append,List.length_append,Int.toNat_natCast]
     omega
   have:=key hk
   simp only[List.length_cons];omega
theorem flat_bound{α β γ:Type}(f:α→List β):∀(cc:List α) (p:List (List γ)),p.length=cc.length→(∀(i:Nat) (c:α) (x:List γ),cc[i]? = some c→p[i]? = some x→(f c).length≤x.length)→∀(k:Nat) (c:α) (x:List γ),cc[k]? = some c→p[k]? = some x→((cc.take k).flatMap f).length+x.length≤p.flatten.length
 | [],_,_,_,k,c,x,h1,_=>by simp at h1
 | c0 :: cc,[],h,_,_,_,_,_,_=>by simp at h
 | c0 :: cc,x0 :: p,h,hf,0,c,x,h1,h2=>by
  simp at h2
  subst h2
  simp
 | c0 :: cc,x0 :: p,h,hf,k+1,c,x,h1,h2=>by
  have:=flat_bound f cc p (by simpa using h) (λi c x a b=>hf (i+1) c x (by simpa using a) (by simpa using b)) k c x (by simpa using h1) (by simpa using h2)
  have h0:=hf 0 c0 x0 rfl rfl
  rw[List.take_succ_cons,List.flatMap_cons,List.length_append,List.flatten_cons,List.length_append]
  omega
theorem TD.treeE{root d:Nat}{ps:List PairS}{pgs:List Nat}(h:TD G gen root d ps pgs)(hs:256≤G.size)(hb:G.blocks≤256):TreeE G root d ps:=by
 refine⟨h.treeG hs hb,λhr=>?_⟩
 rcases h.tree with ⟨h0,_,_,_⟩|⟨_,hT⟩
 ·exact absurd h0 hr
 ·exact TrD.trE _ _ _ _ _ _ hT
theorem upP_all:∀(l:List PairS) (m:Nat),l.length≤m→upP e0 l m=l
 | [],m,_=>by cases m <;> rfl
 | x :: l,0,h=>by simp at h
 | x :: l,m+1,h=>by
  rw[upP,if_pos (by simp[belowB]),upP_all l m (by simpa using h)]
theorem ltS_e0(k:ByteArray):ltS k e0=false:=by
 cases h:ltS k e0 with
 | false=>rfl
 | true =>
  unfold ltS at h
  rw[show e0.toList=[] from by simp[ByteArray.toList_eq]] at h
  cases hk:k.toList <;> rw[hk] at h <;> simp[Op.bytesLess] at h
theorem seekP_e0(l:List PairS):seekP e0 l=0:=by
 cases l with
 | nil=>rfl
 | cons x l=>simp[seekP,ltS_e0,List.findIdx_cons]
end
section
variable {P P' F F':Nat→Prop}{ad:Nat→Addr}{w w':World}{c s:Nat}{G:GA}{l:List Nat}{gen root d:Nat}{ps:List PairS}{pgs:List Nat}
theorem rangeT_any(hL:Env F ad w)(hP:∀k,P k→F k)(h:PgR F w P c s G l)(g:Nat)(hT:TD G gen root d ps pgs)(hs:256≤G.size)(hb:G.blocks≤256)(hlen:ps.length≤1000) :
  Calls Tryz.prog 49 #[pgV c s g,.int .i64 (root:Int),.string e0,.string e0,.int .i64 65535] w (RangeD F P ad w c s G l ps):=by
 obtain⟨H,hl,ht,hH⟩:=h.tot
 have hT2:=hT.up hl
 have hs2:256≤H.size:=by rw[hl.size];exact hs
 have hb2:H.blocks≤256:=by rw[hl.blocks];exact hb
 have hd:=(hT2.few hb2).2
 have hR:=range_any hL hP hH hlen ht (by omega) (hT2.treeE hs2 hb2) g e0 e0 65535 (by unfold askB boundB;simp)
 rw[seekP_e0,List.drop_zero,upP_all ps _ (by show ps.length≤65535;omega)] at hR
 refine hR.mono ?_
 rintro e w' ⟨P',F',hG,hN,hr⟩
 exact⟨P',F',hG.le hl,hN,hr⟩
theorem dumpT_any(hL:Env F ad w)(hP:∀k,P k→F k)(h:PgR F w P c s G l)(g:Nat)(hT:TD G gen root d ps pgs)(hs:256≤G.size)(hb:G.blocks≤256)(hlen:ps.length≤1000) :
  Calls Tryz.prog 18 #[pgV c s g,.int .i64 (root:Int)] w (RangeD F P ad w c s G l ps):=by
 have m0:Ext w (w.alloc (.cells #[.pointer (some ⟨c,0,none⟩),.pointer (some ⟨s,0,none⟩),.int .u64 (g:Int)] 31)):=(Mods.refl _ w).alloc _
 have HB0:=Lib.hid (Blk.new w #[.pointer (some ⟨c,0,none⟩),.pointer (some ⟨s,0,none⟩),.int .u64 (g:Int)] 31)
 have HM0:=Lib.hid m0
 have HRD:=λW=>bready_ok (c:=c) (s:=s) (w:=W) ⟨#[98,117,108,107,46,68,117,109,112]⟩ g
 have HRG:=λW (m:Ext w W)=>rangeT_any (hL.mods m.ext) hP (h.at m) g hT hs hb hlen
 unfold pgV at HRD HRG ⊢
 have HRD:=Lib.hid HRD
 have HRG:=Lib.hid HRG
 have HNX:=Lib.hid (λW (m:Ext w W)=>Nxt.ext hL hP m)
 clear hL hP h m0
 go_enter Tryz.func18, Tryz.ntmps18
 go_wp2_with fail
 refine (HRD.out _).mono ?_
 rintro e w1 ⟨rfl,hm1⟩
 have HM1:=Lib.hid (HM0.out.trans hm1)
 have hB1:=HB0.out.ext hm1
 have b0:=hB1.cell (o:=0) (v:=.pointer (some ⟨c,0,none⟩)) rfl
 have b1:=hB1.cell (o:=1) (v:=.pointer (some ⟨s,0,none⟩)) rfl
 have b2:=hB1.cell (o:=2) (v:=.int .u64 (g:Int)) rfl
 clear hm1 hB1
 go_wp2_with fail
 refine (HRG.out _ HM1.out).mono ?_
 rintro e w2 ⟨P2,F2,hG2,hN2,v,rfl,hv⟩
 have HFIN:Hid (PgR F2 w2 P2 c s G l∧Nxt P P2 F F2 ad w w2∧Sl F2 w2 2 encP v ps):=Lib.hid ⟨hG2,(HNX.out _ HM1.out).trans hN2,hv⟩
 clear hG2 hN2 hv
 go_wp2_with fail
 refine (wrap_nil _ _).mono ?_
 rintro e w3 ⟨rfl,rfl⟩
 go_wp2_with fail
 refine bodyPost_ret (v:=.tuple #[v,.nilIface]) (by simp[results,Tryz.results18,go_sem]) rfl ?_
 exact⟨P2,F2,HFIN.out.1,HFIN.out.2.1,v,rfl,HFIN.out.2.2⟩
theorem LocR.appQ{α:Type}{w0:World}{e:TypeId}{sz:Nat}{enc:α→List Value}{v v':Value}{x x':List α}(hL:Env F ad w)(hP:∀k,P k→F k)(h:LocR w0 F P w e sz enc v x)(ho:Own (λ_=>False) w' w0.heap.size e sz enc v' x')(m:Mods (λk=>v.ownBlock=some k) w w'){K:Nat}(hat:v'.ownBlock=v.ownBlock∨v'.ownBlock=some K)(hK:w.heap.size≤K) :
  Nxt (λk=>P k∨v.ownBlock=some k) (λk=>P k∨v'.ownBlock=some k) F (plusV F v') ad w w'∧LocR w0 (plusV F v') P w' e sz enc v' x':=by
 have hb:∀k,v'.ownBlock=some k→k<w'.heap.size:=λk hk=>(ho.lt k hk).2
 have hold:∀k,k<w.heap.size→v'.ownBlock=some k→v.ownBlock=some k:=λk hk e=>by
  rcases hat with h1|h1
  ·rw[← h1];exact e
  ·rw[h1] at e;injection e with e;omega
 refine⟨⟨⟨m.mono (λk hk=>.inr hk),λk hk hp=>hp.imp id (hold k hk),λk hp=>hp.elim (λhp=>Nat.lt_of_lt_of_le (hL.lt k (hP k hp)) m.size) (hb k)⟩,λk hp=>hp.elim (λhp=>.inl (hP k hp)) .inr,λk hk=>.inl hk,λk hk hf=>hf.elim id (λhf=>(h.2 k (hold k hk hf)).1),?_⟩,ho,λg hg=>⟨.inr hg,λhp=>?_⟩⟩
 ·exact hL.step (m.mono (λk hk=>(h.2 k hk).1)) (λk hk hn hf=>hf.elim hn (λhf=>hn (h.2 k (hold k hk hf)).1)) (λk hf=>hf.elim (λhf=>Nat.lt_of_lt_of_le (hL.lt k hf) m.size) (hb k))
 ·have hlt:=hL.lt g (hP g hp)
  exact (h.2 g (hold g hlt hg)).2 hp
abbrev ctQ(P:Nat→Prop)(v:Value):Nat→Prop:=λk=>P k∨v.ownBlock=some k
structure CtS(w0:World)(ad:Nat→Addr)(c s:Nat)(G:GA)(l:List Nat)(F P:Nat→Prop)(w:World)(v:Value)(out:List Int):Prop where
 env:Env F ad w
 sub:∀k,P k→F k
 pg:PgR F w P c s G l
 row:LocR w0 F P w 3 1 encI v out
 le:w0.heap.size≤w.heap.size
section
variable {w0 w1:World}{P1 F1:Nat→Prop}{v v1:Value}{out out1:List Int}
theorem CtS.subQ(h:CtS w0 ad c s G l F P w v out):∀k,ctQ P v k→F k:=λk hk=>hk.elim (h.sub k) (λe=>(h.row.2 k e).1)
theorem CtS.ext(h:CtS w0 ad c s G l F P w v out)(m:Ext w w1):CtS w0 ad c s G l F P w1 v out∧Nxt (ctQ P v) (ctQ P v) F F ad w w1 :=
 ⟨⟨h.env.mods m.ext,h.sub,h.pg.at m,h.row.ext m,Nat.le_trans h.le m.size⟩,Nxt.ext h.env h.subQ m⟩
theorem CtS.step(h:CtS w0 ad c s G l F P w v out)(n:Nxt P P1 F F1 ad w w1)(g:PgR F1 w1 P1 c s G l):CtS w0 ad c s G l F1 P1 w1 v out∧Nxt (ctQ P v) (ctQ P1 v) F F1 ad w w1 :=
 ⟨⟨n.env,n.sub,g,h.row.nxt n,Nat.le_trans h.le n.size⟩,n.part (λk hk=>(h.row.2 k hk).1) h.env⟩
theorem CtS.app(h:CtS w0 ad c s G l F P w v out)(ho:Own (λ_=>False) w1 w0.heap.size 3 1 encI v1 out1)(m:Mods (λk=>v.ownBlock=some k) w w1)(hat:v1.ownBlock=v.ownBlock∨v1.ownBlock=some w.heap.size):CtS w0 ad c s G l (plusV F v1) P w1 v1 out1∧Nxt (ctQ P v) (ctQ P v1) F (plusV F v1) ad w w1:=by
 obtain⟨n,r⟩:=h.row.appQ h.env h.sub ho m hat (Nat.le_refl _)
 exact⟨⟨n.env,λk hk=>.inl (h.sub k hk),h.pg.app h.row m hat (Nat.le_refl _),r,Nat.le_trans h.le m.size⟩,n⟩
end
set_option maxHeartbeats 4000000 in
theorem count_any15{w0:World}(g:Nat):∀(d:Nat) {F P:Nat→Prop} {w:World} (lo:ByteArray) (hi:Option ByteArray) (id:Nat) (ps:List PairS) (q:List Nat) (dep:Nat) (ov:Value) (out:List Int),CtS w0 ad c s G l F P w ov out→TrD G gen d lo hi id ps q→q.length+out.length≤100000→1≤dep→dep+d≤17 →
  Calls Tryz.prog 40 #[pgV c s g,.int .i64 (id:Int),.int .i64 (dep:Int),ov] w λe w'=>∃P' F' v,e=.returned (.tuple #[v,.nilIface])∧CtS w0 ad c s G l F' P' w' v (out++(leafsG G d id).map (λn:Nat=>(n:Int)))∧Nxt (ctQ P ov) (ctQ P' v) F F' ad w w'
 | 0,_,_,_,_,_,_,_,_,_,_,_,_,h,_,_,_=>h.elim
 | d+1,F,P,w,lo,hi,id,ps,q,dep,ov,out,hC,hT,hfew,hdep1,hdep=>by
  obtain⟨n,q,hp,hr,rfl,hbody⟩:=hT
  obtain⟨hload,hnode⟩:=pg_load hp
  obtain⟨hkn,_⟩:=GA.node_load hnode
  obtain⟨X,hX⟩:∃X,X=w.heap.size:=⟨_,rfl⟩
  obtain⟨w1,hw1⟩:∃w1,w1=w.alloc (.cells #[.pointer (some ⟨c,0,none⟩),.pointer (some ⟨s,0,none⟩),.int .u64 (g:Int)] 31):=⟨_,rfl⟩
  have m0:Ext w w1:=by rw[hw1];exact (Mods.refl _ w).alloc _
  have hBX:Blk w1 X #[.pointer (some ⟨c,0,none⟩),.pointer (some ⟨s,0,none⟩),.int .u64 (g:Int)] 31:=by rw[hw1,hX];exact Blk.new w _ _
  have hPX:¬ ctQ P ov X:=λhp=>by have:=hC.env.lt X (hC.subQ X hp);omega
  obtain⟨hC1,hN1⟩:=hC.ext m0
  have HLD:=load_any hC1.env hC1.sub hC1.pg g (id:Int) hkn
  rw[hload] at HLD
  unfold pgV at HLD ⊢
  have HLD:=Lib.hid HLD
  have HC1:=Lib.hid hC1
  have HN1:=Lib.hid hN1
  have HBX:=Lib.hid hBX
  have HPX:=Lib.hid hPX
  have HW1:=Lib.hid hw1
  have HXX:=Lib.hid hX
  have b0:=hBX.cell (o:=0) (v:=.pointer (some ⟨c,0,none⟩)) rfl
  have b1:=hBX.cell (o:=1) (v:=.pointer (some ⟨s,0,none⟩)) rfl
  have b2:=hBX.cell (o:=2) (v:=.int .u64 (g:Int)) rfl
  rw[hw1] at b0 b1 b2
  obtain⟨oa,oc,rfl,o1,o2⟩:=hC.row.1.form
  have hd16:¬ (16:Int)<(dep:Int):=by omega
  have HDEP:=Lib.hid (And.intro hdep1 hdep)
  have HFEW:=Lib.hid hfew
  have HRN:=Lib.hid (rightN_sz hr)
  clear hC hC1 hp hload hkn hw1 m0 hBX hPX hN1 hX hdep hdep1 hfew hr
  go_enter Tryz.func40, Tryz.ntmps40
  go_wp2_with fail
  rw[← HW1.out,← HXX.out]
  refine HLD.out.mono ?_
  rintro e w2 ⟨P2,F2,hG2,hN2,ve,vk,vi,rfl,hve,hvk,hvi⟩
  obtain⟨w3,hw3⟩:∃w3,w3=w2.alloc (.cells #[.bool n.leaf,ve,vk,vi] 118):=⟨_,rfl⟩
  have m3:Ext w2 w3:=by rw[hw3];exact (Mods.refl _ w2).alloc _
  obtain⟨hC2,hQ2⟩:=HC1.out.step hN2 hG2
  obtain⟨hC3,hQ3⟩:=hC2.ext m3
  have HC3:=Lib.hid hC3
  have HN3:=Lib.hid ((HN1.out.trans hQ2).trans hQ3)
  have HB3:=Lib.hid ((hQ2.blk HBX.out HPX.out).ext m3)
  have HP3:=Lib.hid (hQ2.not HBX.out.lt HPX.out)
  have HVI:=Lib.hid (hvi.ext m3)
  obtain⟨ea,ec,rfl,e1,e2,e3, -⟩:=hve
  obtain⟨ka,kc,rfl, -, -, -, -⟩:=hvk
  obtain⟨ia,ic,rfl,i1,i2,i3, -⟩:=hvi
  unfold maxLen at e2 i2
  have HW3:=Lib.hid hw3
  have H3S:Hid (w3.heap.size=w2.heap.size+1):=Lib.hid (by rw[hw3];simp)
  obtain⟨lf,hlf⟩:∃lf,lf=n.leaf:=⟨_,rfl⟩
  rw[← hlf] at HW3 ⊢
  have HLF:=Lib.hid hlf
  clear hG2 hN2 hw3 m3 hlf hC2 hQ2 hC3 hQ3
  cases lf with
  | true =>
   have HLS:Hid (leafsG G (d+1) id=[n.entries.length]):=Lib.hid (leafs_leaf hnode HLF.out.symm)
   clear hbody
   obtain⟨wz,hwz⟩:∃wz,wz=w3.alloc (.cells #[.int .i64 (n.entries.length:Int)] 3):=⟨_,rfl⟩
   have h3z:Ext w3 wz:=by rw[hwz];exact (Mods.refl _ _).alloc _
   have HLB:Hid (Blk wz w3.heap.size #[.int .i64 (n.entries.length:Int)] 3):=Lib.hid (by rw[hwz];exact Blk.new w3 _ _)
   obtain⟨hCz,hNz⟩:=HC3.out.ext h3z
   have HCZ:=Lib.hid hCz
   have HNZ:=Lib.hid (HN3.out.trans hNz)
   have HWZ:=Lib.hid hwz
   clear h3z hwz hCz hNz
   go_wp2_with (at_builtin;rw[← HW3.out,← H3S.out,← HWZ.out];refine wpl_app2 Tryz.elI encI_ok rfl _ _ rfl w0.heap.size _ _ out [(n.entries.length:Int)] rfl rfl HCZ.out.row.1 (Sl.one (F:=λ_=>False) (x:=(n.entries.length:Int)) (enc:=encI) (sz:=1) HLB.out (λf=>f)) (by have:=HFEW.out;simp only[List.length_cons,List.length_nil] at this ⊢;omega) HCZ.out.le (λf=>f) ?_;simp only[List.length_cons,List.length_nil,Nat.zero_add];intro a6 c6 w6 hO6 hm6 hat6)
   obtain⟨hC6,hN6⟩:=HCZ.out.app hO6 hm6 hat6
   have HFIN:Hid (CtS w0 ad c s G l (plusV F2 (.slice a6 (out.length+1) c6)) P2 w6 (.slice a6 (out.length+1) c6) (out++(leafsG G (d+1) id).map (λn:Nat=>(n:Int)))∧Nxt (ctQ P (.slice oa out.length oc)) (ctQ P2 (.slice a6 (out.length+1) c6)) F (plusV F2 (.slice a6 (out.length+1) c6)) ad w w6):=Lib.hid ⟨by rw[HLS.out];exact hC6,HNZ.out.trans hN6⟩
   clear hO6 hm6 hat6 hC6 hN6
   go_wp2_with fail
   refine bodyPost_ret (v:=.tuple #[.slice a6 (out.length+1) c6,.nilIface]) (by simp[results,Tryz.results40,go_sem]) rfl ?_
   exact⟨P2,_,_,rfl,HFIN.out.1,HFIN.out.2⟩
  | false =>
   have HLS:Hid (leafsG G (d+1) id=n.kids.flatMap λk=>leafsG G d k.toNat):=Lib.hid (leafs_inner hnode HLF.out.symm)
   obtain⟨hkids,hqn⟩:∃(hk:Kids (TrD G gen d) lo hi n.keys n.kids ps q),True:=by
    rcases hbody with ⟨a1,_⟩|⟨_,a2⟩
    ·rw[← HLF.out] at a1;cases a1
    ·exact⟨a2,trivial⟩
   obtain⟨parts,hpl,hps,hpq,hpt⟩:=hkids.parts
   have HPT:Hid (∀(k:Nat) (kd:Int),n.kids[k]? = some kd→∃(cn:Nat) (lo':ByteArray) (hi':Option ByteArray) (l':List PairS) (q':List Nat),kd=(cn:Int)∧TrD G gen d lo' hi' cn l' q'∧((n.kids.take k).flatMap λk=>leafsG G d k.toNat).length+q'.length≤q.length):=Lib.hid (λk kd hk=>by
    have hkl:=(List.getElem?_eq_some_iff.1 hk).1
    obtain⟨pp,hpp⟩:∃pp,parts[k]? = some pp:=⟨_,List.getElem?_eq_getElem (by omega)⟩
    obtain⟨cn,hcn,hTn⟩:=hpt k kd pp hk hpp
    refine⟨cn,_,_,pp.1,pp.2,hcn,hTn,?_⟩
    rw[hpq]
    exact flat_bound (λk:Int=>leafsG G d k.toNat) n.kids (parts.map (·.2)) (by simp[hpl]) (λi c x h1 h2=>by
     rw[List.getElem?_map,Option.map_eq_some_iff] at h2
     obtain⟨y,hy,rfl⟩:=h2
     obtain⟨c',hc',hT'⟩:=hpt i c y h1 hy
     rw[hc',Int.toNat_natCast]
     exact leafs_few d _ _ _ _ _ hT') k kd pp.2 hk (by rw[List.getElem?_map,hpp];rfl))
   clear hbody hkids hpl hps hpq hpt
   have HKL:=Lib.hid HRN.out.2.1
   have hkn3:n.kids.length≤256:=HRN.out.2.1
   go_wp2_with fail
   rw[← HW3.out]
   go_loopg [3,39] n.kids.length (λm v3 v39 wr=>∃(k:Nat) (v:Value),k+m=n.kids.length∧v=v3∧v39=.int .i64 (k:Int)∧Hid (∃(P1 F1:Nat→Prop),CtS w0 ad c s G l F1 P1 wr v (out++((n.kids.take k).flatMap λk=>leafsG G d k.toNat).map (λn:Nat=>(n:Int)))∧Nxt (ctQ P (.slice oa out.length oc)) (ctQ P1 v) F F1 ad w wr∧Blk wr X #[.pointer (some ⟨c,0,none⟩),.pointer (some ⟨s,0,none⟩),.int .u64 (g:Int)] 31 ∧ ¬ ctQ P1 v X∧Sl F1 wr 1 encI (.slice ia n.kids.length ic) n.kids))
   case atStart=>exact⟨0,_,by omega,rfl,rfl,Lib.hid ⟨P2,F2,by simpa using HC3.out,HN3.out,HB3.out,HP3.out,HVI.out⟩⟩
   case round =>
    obtain⟨k,v,hkm,rfl,rfl,HS⟩:=hrel
    by_cases hlt:k<n.kids.length
    ·obtain⟨P1,F1,hC4,hN4,hB4,hP4,hK4⟩:=HS.out
     obtain⟨kd,hkd⟩:∃kd,kd=n.kids[k]:=⟨_,rfl⟩
     have hkq:n.kids[k]? = some kd:=by rw[List.getElem?_eq_getElem hlt,hkd]
     obtain⟨cn,lo',hi',l',q',rfl,hT',hq'⟩:=HPT.out k kd hkq
     obtain⟨qb,qoff,hqa,hqF,hcc⟩:=hK4.elemF hlt
     rw[← hkd] at hcc
     have d0:=hcc 0 (.int .i64 (cn:Int)) rfl
     simp only[Nat.add_zero,Nat.mul_one] at d0
     subst hqa
     have b0:=hB4.cell (o:=0) (v:=.pointer (some ⟨c,0,none⟩)) rfl
     have b1:=hB4.cell (o:=1) (v:=.pointer (some ⟨s,0,none⟩)) rfl
     have b2:=hB4.cell (o:=2) (v:=.int .u64 (g:Int)) rfl
     have hIH:=count_any15 g d lo' hi' cn l' q' (dep+1) v _ hC4 hT' (by have:=HFEW.out;simp only[List.length_cons,List.length_append,List.length_map] at this ⊢;omega) (by omega) (by have:=HDEP.out.2;omega)
     rw[show ((dep+1:Nat):Int)=(dep:Int)+1 from by omega] at hIH
     unfold pgV at hIH
     have HIH:=Lib.hid hIH
     have HN4:=Lib.hid hN4
     have HB4:=Lib.hid hB4
     have HP4:=Lib.hid hP4
     have HK4:=Lib.hid hK4
     have HQS:=Lib.hid hC4.subQ
     have HLT:Hid (((n.kids.take (k+1)).flatMap λk=>leafsG G d k.toNat)=((n.kids.take k).flatMap λk=>leafsG G d k.toNat)++leafsG G d cn):=Lib.hid (by
      rw[take_one n.kids k _ hkq,List.flatMap_append]
      simp)
     have z1:(0:Int)≤(k:Int):=by omega
     have z2:(k:Int)<(n.kids.length:Int):=by omega
     have z3:IntKind.i64.wrap ((dep:Int)+1)=(dep:Int)+1:=IntWalk.i64_in _ (by have:=HDEP.out.2;omega)
     clear hC4 hN4 hB4 hP4 hK4 hkd hkq hT' hq' hcc hqF hIH
     go_wp2_with fail
     refine HIH.out.mono ?_
     rintro e5 w5 ⟨P5,F5,v5,rfl,hC5,hN5⟩
     have HS5:Hid (∃(P1 F1:Nat→Prop),CtS w0 ad c s G l F1 P1 w5 v5 (out++((n.kids.take (k+1)).flatMap λk=>leafsG G d k.toNat).map (λn:Nat=>(n:Int)))∧Nxt (ctQ P (.slice oa out.length oc)) (ctQ P1 v5) F F1 ad w w5∧Blk w5 X #[.pointer (some ⟨c,0,none⟩),.pointer (some ⟨s,0,none⟩),.int .u64 (g:Int)] 31 ∧ ¬ ctQ P1 v5 X∧Sl F1 w5 1 encI (.slice (some ⟨qb,qoff,none⟩) n.kids.length ic) n.kids):=Lib.hid ⟨P5,F5,by rw[HLT.out,List.map_append,← List.append_assoc];exact hC5,HN4.out.trans hN5,hN5.blk HB4.out HP4.out,hN5.not HB4.out.lt HP4.out,hN5.sl HQS.out HK4.out⟩
     clear hC5 hN5
     go_wp2_with fail
     go_roundg (gk-1)
     case measure=>omega
     case rel=>exact⟨k+1,_,by omega,rfl,by go_num,HS5⟩
    ·have hk:k=n.kids.length:=by omega
     obtain⟨P1,F1,hC4,hN4,hB4,hP4,hK4⟩:=HS.out
     have HFIN:Hid (CtS w0 ad c s G l F1 P1 wr v (out++(leafsG G (d+1) id).map (λn:Nat=>(n:Int)))∧Nxt (ctQ P (.slice oa out.length oc)) (ctQ P1 v) F F1 ad w wr):=Lib.hid ⟨by rw[HLS.out];rw[hk,List.take_length] at hC4;exact hC4,hN4⟩
     clear hC4 hN4 hB4 hP4 hK4
     go_wp2_with fail
     refine bodyPost_ret (v:=.tuple #[v,.nilIface]) (by simp[results,Tryz.results40,go_sem]) rfl ?_
     exact⟨P1,_,_,rfl,HFIN.out.1,HFIN.out.2⟩
set_option maxHeartbeats 1000000 in
theorem leavesT_any(hL:Env F ad w)(hP:∀k,P k→F k)(h:PgR F w P c s G l)(g:Nat)(hT:TD G gen root d ps pgs)(hb:G.blocks≤256) :
  Calls Tryz.prog 12 #[pgV c s g,.int .i64 (root:Int)] w (PgDone F P ad w c s G l (λF' w' e=>∃v,e=.returned (.tuple #[v,.nilIface])∧Sl F' w' 1 encI v ((leafsG G d root).map (λn:Nat=>(n:Int))))):=by
 have m0:Ext w (w.alloc (.cells #[.pointer (some ⟨c,0,none⟩),.pointer (some ⟨s,0,none⟩),.int .u64 (g:Int)] 31)):=(Mods.refl _ w).alloc _
 have HB0:=Lib.hid (Blk.new w #[.pointer (some ⟨c,0,none⟩),.pointer (some ⟨s,0,none⟩),.int .u64 (g:Int)] 31)
 have HM0:=Lib.hid m0
 have HRD:=λW=>bready_ok (c:=c) (s:=s) (w:=W) ⟨#[98,117,108,107,46,76,101,97,118,101,115]⟩ g
 have HNX:=Lib.hid (λW (m:Ext w W)=>Nxt.ext hL hP m)
 have HGX:=Lib.hid (λW (m:Ext w W)=>h.at m)
 have HENV:=Lib.hid hL
 have hfew:=hT.few hb
 unfold pgV at HRD ⊢
 have HRD:=Lib.hid HRD
 rcases hT.tree with ⟨rfl,rfl,_,_⟩|⟨hd,hTr⟩
 ·clear hL hP h m0 hfew
  go_enter Tryz.func12, Tryz.ntmps12
  go_wp2_with fail
  refine (HRD.out _).mono ?_
  rintro e w1 ⟨rfl,hm1⟩
  have HM1:=Lib.hid (HM0.out.trans hm1)
  clear hm1
  go_wp2_with fail
  refine bodyPost_ret (v:=.tuple #[.slice none 0 0,.nilIface]) (by simp[results,Tryz.results12,go_sem]) rfl ?_
  exact⟨P,F,HGX.out _ HM1.out,HNX.out _ HM1.out,_,rfl,Sl.nil _ _ _ _⟩
 ·have hr0:¬ (root:Int)=0:=by
   obtain⟨r,hr⟩:=TrD.head _ _ _ _ _ _ hTr
   have:=hT.lt root (by rw[hr];simp)
   omega
  have HCT:=Lib.hid (λW (m:Ext w W)=>count_any15 (w0:=w) g d e0 none root ps pgs 1 (.slice none 0 0) [] (⟨hL.mods m.ext,hP,h.at m,LocR.nil _ _ _ _ _ _ _,m.size⟩:CtS w ad c s G l F P W (.slice none 0 0) []) hTr (by simp;omega) (by omega) (by omega))
  unfold pgV at HCT
  rw[show ((1:Nat):Int)=1 from rfl] at HCT
  have HFW:=Lib.hid (leafs_few d _ _ _ _ _ hTr)
  have HFEW:=Lib.hid hfew
  clear hL hP h m0 hfew
  go_enter Tryz.func12, Tryz.ntmps12
  go_wp2_with fail
  refine (HRD.out _).mono ?_
  rintro e w1 ⟨rfl,hm1⟩
  have HM1:=Lib.hid (HM0.out.trans hm1)
  have hB1:=HB0.out.ext hm1
  have b0:=hB1.cell (o:=0) (v:=.pointer (some ⟨c,0,none⟩)) rfl
  have b1:=hB1.cell (o:=1) (v:=.pointer (some ⟨s,0,none⟩)) rfl
  have b2:=hB1.cell (o:=2) (v:=.int .u64 (g:Int)) rfl
  clear hm1 hB1
  go_wp2_with fail
  refine (HCT.out _ HM1.out).mono ?_
  rintro e w2 ⟨P2,F2,v,rfl,hC2,hN2⟩
  rw[List.nil_append] at hC2
  have hN2':Nxt P P2 F (λk=>F k∨P2 k) ad w w2:=by
   have n:=(((HNX.out _ HM1.out).part (Q:=λk=>(Value.slice none 0 0).ownBlock=some k) (λk hk=>by simp[Value.ownBlock] at hk) HENV.out).trans hN2).shrink (P2:=P2) (λk hk=>.inl hk)
   have n2:=n.least
   exact⟨⟨n2.stp.mods.mono (λk hk=>hk.elim id (λe=>by simp[Value.ownBlock] at e)),λk hk hp=>(n2.stp.old k hk hp).elim id (λe=>by simp[Value.ownBlock] at e),n2.stp.bd⟩,n2.sub,n2.grow,n2.oldF,n2.env⟩
  have HFIN:Hid (PgR (λk=>F k∨P2 k) w2 P2 c s G l∧Nxt P P2 F (λk=>F k∨P2 k) ad w w2∧Sl (λk=>F k∨P2 k) w2 1 encI v ((leafsG G d root).map (λn:Nat=>(n:Int)))):=Lib.hid ⟨hC2.pg.anti (λk hk=>hk.elim (hN2.grow k) (hC2.sub k)),hN2',Own.sl (F:=λk=>F k∨P2 k) ⟨hC2.row.1.1,λg hg hf=>hf.elim (λhf=>by have h1:=(hC2.row.1.lt g hg).1;have h2:=HENV.out.lt g hf;omega) (λhp=>(hC2.row.2 g hg).2 hp)⟩ encI_ok.len (by rw[List.length_map];have:=HFW.out;have:=HFEW.out.1;omega)⟩
  clear hC2 hN2 hN2'
  go_wp2_with fail
  refine (wrap_nil _ _).mono ?_
  rintro e w3 ⟨rfl,rfl⟩
  go_wp2_with fail
  refine bodyPost_ret (v:=.tuple #[v,.nilIface]) (by simp[results,Tryz.results12,go_sem]) rfl ?_
  exact⟨P2,_,HFIN.out.1,HFIN.out.2.1,v,rfl,HFIN.out.2.2⟩
end
def awP:List PairS:=[(⟨#[97]⟩,⟨#[120]⟩),(⟨#[98]⟩,⟨#[]⟩)]
theorem awP_ok:SortedP awP∧PairsOk awP:=by
 constructor
 ·exact List.pairwise_cons.2 ⟨by decide +kernel,List.pairwise_cons.2 ⟨by simp,List.Pairwise.nil⟩⟩
 ·intro x hx
  simp only[awP,List.mem_cons,List.not_mem_nil,or_false] at hx
  rcases hx with rfl|rfl <;> decide +kernel
set_option maxHeartbeats 2000000 in
theorem awake15_any{ad:Nat→Addr}{w:World}(hL:Env NoB ad w) : Calls Tryz.prog 9 #[] w λe w'=>e=.returned (.bool true)∧Ext w w':=by
 have HL:=Lib.hid hL
 obtain⟨G',l',root,d,pgs,hld,hlaid⟩:=laid15 awP_ok.1 awP_ok.2 (by decide) (by intro x hx;simp only[awP,List.mem_cons,List.not_mem_nil,or_false] at hx;rcases hx with rfl|rfl <;> decide)
 have HLD:=Lib.hid hld
 have HLA:=Lib.hid hlaid
 clear hL hld hlaid
 go_enter Tryz.func9, Tryz.ntmps9
 go_wp2_with fail
 refine (pager15_any HL.out).mono ?_
 rintro e w1 ⟨c,s,P,F,rfl,hG,hN⟩
 have hS:=LG.startZ (gen:=5) hG hN 5 rfl
 obtain⟨wb,hwb⟩:∃wb,wb=w1.alloc (.cells #[.pointer (some ⟨c,0,none⟩),.pointer (some ⟨s,0,none⟩),.int .u64 5] 31):=⟨_,rfl⟩
 rw[← hwb] at hS
 obtain⟨wl,hwl⟩:∃wl,wl=wb.alloc (.cells #[.string ⟨#[97]⟩,.string ⟨#[120]⟩,.string ⟨#[98]⟩,.string ⟨#[]⟩] 25):=⟨_,rfl⟩
 have hbl:Ext wb wl:=by rw[hwl];exact (Mods.refl _ _).alloc _
 have hSl:=hS.ext hbl
 have hlt:Blk wl wb.heap.size #[.string ⟨#[97]⟩,.string ⟨#[120]⟩,.string ⟨#[98]⟩,.string ⟨#[]⟩] 25:=by rw[hwl];exact Blk.new wb _ _
 have hrow:Sl F wl 2 encP (.slice (some ⟨wb.heap.size,0,none⟩) 2 2) awP:=Sl.duo (x:=((⟨#[97]⟩,⟨#[120]⟩):PairS)) (y:=((⟨#[98]⟩,⟨#[]⟩):PairS)) hlt rfl (λf=>by have:=hS.env.lt _ f;omega)
 have HLO:=Load15_any hSl.env hSl.sub hSl.pg 5 (by omega) new250.1 awP _ hrow awP_ok.1 awP_ok.2 (by decide) (by show 0≤800000;omega) root HLD.out
 rw[pgV5] at HLO ⊢
 have HLO:=Lib.hid HLO
 have hsz:wb.heap.size=w1.heap.size+1:=by rw[hwb];simp
 have t0:=hS.c0
 have t1:=hS.c1
 have t2:_=some (Value.int .u64 5):=hS.c2
 have t0:=cell_alloc t0 (.cells #[.string ⟨#[97]⟩,.string ⟨#[120]⟩,.string ⟨#[98]⟩,.string ⟨#[]⟩] 25)
 rw[hwb] at t0 t1 t2
 have HWB:=Lib.hid hwb
 have HWL:=Lib.hid hwl
 have HSZ:=Lib.hid hsz
 have HSL:=Lib.hid hSl
 clear hG hN hS hbl hSl hlt hrow hwb hwl hsz t0
 have t0:(w1.alloc (.cells #[.pointer (some ⟨c,0,none⟩),.pointer (some ⟨s,0,none⟩),.int .u64 5] 31)).cell? ⟨w1.heap.size,0,none⟩=some (.pointer (some ⟨c,0,none⟩)):=(Blk.new w1 _ _).cell (o:=0) rfl
 go_wp2_with fail
 rw[← HWB.out,← HSZ.out,← HWL.out]
 refine HLO.out.mono ?_
 rintro e w2 ⟨P2,F2,hG2,hN2,rfl⟩
 have hS2:=HSL.out.step hN2 hG2
 have t0:=hS2.c0
 have t1:=hS2.c1
 have t2:_=some (Value.int .u64 5):=hS2.c2
 have HDU:=dumpT_any hS2.env hS2.sub hS2.pg 5 HLA.out.td (by rw[HLA.out.size];omega) (by rw[HLA.out.blk];omega) (by decide)
 rw[pgV5] at HDU
 have HDU:=Lib.hid HDU
 have HS2:=Lib.hid hS2
 clear hG2 hN2 hS2
 go_wp2_with fail
 refine HDU.out.mono ?_
 rintro e w3 hd
 obtain⟨P3,F3,hS3,v,rfl,hv⟩:=HS2.out.done hd
 have HX:=Lib.hid hS3.ext0
 obtain⟨va,vc,rfl,h1,h2,h3, -⟩:=id hv
 obtain⟨qb,qoff,hqa,hqF,hcc⟩:=hv.elemF (k:=0) (by decide)
 have d1:=hcc 1 (.string ⟨#[120]⟩) rfl
 simp only[Nat.zero_mul,Nat.add_zero] at d1
 subst hqa
 have hal:awP.length=2:=rfl
 rw[hal]
 clear hd hS3 hv hcc hqF t0 t1 t2 h1 h3 hal
 go_wp2_with fail
 go_ret
 exact⟨rfl,HX.out⟩
theorem sum_take_succ{ns:List Nat}{i n:Nat}(h:ns[i]? = some n):(ns.take (i+1)).sum=(ns.take i).sum+n:=by
 rw[take_one ns i n h];simp
theorem sum_take_le(ns:List Nat)(i:Nat):(ns.take i).sum≤ns.sum:=by
 conv=>rhs;rw[← List.take_append_drop i ns]
 rw[List.sum_append];omega
set_option maxHeartbeats 8000000 in
theorem BulkHeavy_any{ad:Nat→Addr}{w:World}(hL:Env NoB ad w)(m:List PairS)(mv:Value)(hm:Sl NoB w 2 encP mv m) :
  Calls Tryz.prog 3 #[mv] w λe w'=>e=.returned (.bool true)∧Ext w w':=by
 have HL:=Lib.hid hL
 have HTM:=Lib.hid (tame15_any m mv hm)
 obtain⟨p0,hp0⟩:∃p0,p0=tameP 200 m:=⟨_,rfl⟩
 have hT:=tameP_ok 200 m
 rw[← hp0] at HTM hT
 have HT:=Lib.hid hT
 have hp24:=hT.len
 obtain⟨ma,mc,rfl, -, -, -, -⟩:=hm
 clear hL hp0 hT
 go_enter Tryz.func3, Tryz.ntmps3
 go_wp2_with fail
 refine HTM.out.mono ?_
 rintro e w1 ⟨v,rfl,hO,hm1⟩
 obtain⟨va,vc,rfl,hv1,hv2⟩:=hO.form
 unfold maxLen at hv2
 have HS1:Hid (Own NoF w1 w.heap.size 25 2 encP (.slice va p0.length vc) (cutK 12 0 p0)∧Ext w w1∧∀x∈p0.take 0,x.1.size≤20):=Lib.hid ⟨by rw[cutK_zero];exact hO,hm1,by simp⟩
 clear hO hm1
 go_wp2_with fail
 go_loopg [4] p0.length (λm v4 wr=>∃(k:Nat),k+m=p0.length∧v4=.int .i64 (k:Int)∧Hid (Own NoF wr w.heap.size 25 2 encP (.slice va p0.length vc) (cutK 12 k p0)∧Ext w wr∧∀x∈p0.take k,x.1.size≤20))
 case atStart=>exact⟨0,by omega,rfl,HS1⟩
 case round =>
  obtain⟨k,hkm,rfl,HS⟩:=hrel
  by_cases hlt:k<p0.length
  ·obtain⟨g,c',hgs, -, -,hg3,hg4,hgf⟩:=HS.out.1.some (by intro e;have:=congrArg List.length e;rw[cutK_len,List.length_nil] at this;omega)
   injection hgs with hgs hgn hgc
   subst hgs hgc
   clear hgn
   obtain⟨x,hx⟩:∃x,p0[k]? = some x:=⟨_,List.getElem?_eq_getElem hlt⟩
   have HX:=Lib.hid hx
   obtain⟨xk,xv⟩:=x
   have hsl:=HS.out.1.sl encP_ok.len (by rw[cutK_len];omega)
   have c0:=hsl.cellsAt (cutK_at (n:=12) hx) 0 _ rfl
   have c1:=hsl.cellsAt (cutK_at (n:=12) hx) 1 _ rfl
   simp only[Nat.zero_add,Nat.add_zero] at c0 c1
   have i1:(0:Int)≤(k:Int):=by omega
   have i2:(k:Int)<(p0.length:Int):=by omega
   by_cases hlong:20<xk.size
   ·have hl2:(20:Int)<(xk.size:Int):=by omega
    have HAW:=Lib.hid (awake15_any (HL.out.mods HS.out.2.1.ext))
    have HXE:=Lib.hid HS.out.2.1
    clear hsl hx hgf
    go_wp2_with fail
    refine HAW.out.mono ?_
    rintro e w3 ⟨rfl,hm3⟩
    have HM3:=Lib.hid hm3
    clear hm3
    go_wp2_with fail
    go_ret
    exact⟨rfl,HXE.out.trans HM3.out⟩
   ·have hl2:¬ (20:Int)<(xk.size:Int):=by omega
    obtain⟨z,hz⟩:∃z,z=min xv.size 12:=⟨_,rfl⟩
    have hmin:min (xv.size:Int) 12=(z:Int):=by omega
    have hz1:(0:Int)≤(z:Int):=by omega
    have hz2:(z:Int)≤(xv.size:Int):=by omega
    have hzf:=hgf (k * 2+1)
    have hzd:wr.drew.frozen? ⟨g,k * 2+1,none⟩=false:=hzf
    have HZ:Hid (cutS 12 xv=xv.extract 0 z):=Lib.hid (by unfold cutS;rw[hz])
    have HS4:Hid (Own NoF (wr.drew.setCell ⟨g,k * 2+1,none⟩ (.string (xv.extract 0 z))) w.heap.size 25 2 encP (.slice (some ⟨g,0,none⟩) p0.length vc) (cutK 12 (k+1) p0)∧Ext w (wr.drew.setCell ⟨g,k * 2+1,none⟩ (.string (xv.extract 0 z)))∧∀x∈p0.take (k+1),x.1.size≤20):=Lib.hid (by
     obtain⟨k1,k4,k5⟩:=HS.out
     refine⟨?_,k4.drew.setCell (.inl (by show w.heap.size≤g;have:=(k1.lt g rfl).1;omega)) _,λx hx=>?_⟩
     ·rw[← cutK_set HX.out,HZ.out]
      exact (k1.ext (Mods.refl _ wr).drew).set encP_ok.len (cutK_at (n:=12) HX.out) (j:=1) (by omega) rfl
     ·rw[take_one p0 k _ HX.out] at hx
      rcases List.mem_append.1 hx with hx|hx
      ·exact k5 x hx
      ·rw[List.mem_singleton.1 hx];show xk.size≤20;omega)
    clear hsl hx hz hgf
    go_wp2_with fail
    go_region_law (fail)
    all_goals
     go_wp2_with fail
     go_roundg (gk-1)
     case measure=>omega
     case rel=>exact⟨k+1,by omega,by go_num,HS4⟩
  ·have hk:k=p0.length:=by omega
   obtain⟨ps,hps⟩:∃ps,ps=cutP 12 p0:=⟨_,rfl⟩
   have hpl:ps.length=p0.length:=by rw[hps];simp[cutP]
   have hcut:=cutP_ok (n:=12) HT.out.sorted HT.out.ok
   rw[← hps] at hcut
   obtain⟨q1,q2,q3,q4⟩:=hcut
   have hkeys:∀x∈ps,x.1.size≤20:=λx hx=>by
    rw[hps] at hx
    obtain⟨y,hy,rfl⟩:=List.mem_map.1 hx
    exact HS.out.2.2 y (by rw[hk,List.take_length];exact hy)
   obtain⟨G',l',root,d,pgs,hld,hla⟩:=laid15 q1 q2 (by omega) (λx hx=>by have:=q4 x hx;omega)
   have HHV:=Lib.hid (heavy15 q1 (λx hx=>⟨(q2 x hx).1,hkeys x hx,q4 x hx⟩) (by omega))
   have hown:=HS.out.1
   rw[hk,cutK_all,← hps] at hown
   have HSR:Hid (Sl NoB wr 2 encP (.slice va p0.length vc) ps):=Lib.hid (by have:=hown.sl encP_ok.len (by omega);exact this)
   have HXE:=Lib.hid HS.out.2.1
   have HLE:=Lib.hid (HL.out.mods HS.out.2.1.ext)
   have HLD:=Lib.hid hld
   have HLA:=Lib.hid hla
   have HPS:=Lib.hid (And.intro q1 (And.intro q2 (And.intro hpl q4)))
   obtain⟨w2,rfl⟩:∃w2:World,w2=wr:=⟨_,rfl⟩
   clear hown hld hla q1 q2 q3 q4 hkeys hps hk hpl HS
   go_wp2_with fail
   refine (pager15_any HLE.out).mono ?_
   rintro e w3 ⟨c,s,P,F,rfl,hG,hN⟩
   have hS:=LG.startZ (gen:=5) hG hN 5 rfl
   have t0:=hS.c0
   have t1:=hS.c1
   have t2:_=some (Value.int .u64 5):=hS.c2
   have HLO:=Load15_any hS.env hS.sub hS.pg 5 (by omega) new250.1 ps _ (hS.sl HSR.out) HPS.out.1 HPS.out.2.1 (by have:=HPS.out.2.2.1;omega) (by show 0≤800000;omega) root HLD.out
   rw[pgV5] at HLO ⊢
   have HLO:=Lib.hid HLO
   have HS:=Lib.hid hS
   clear hG hN hS
   go_wp2_with fail
   refine HLO.out.mono ?_
   rintro e w4 ⟨P4,F4,hG4,hN4,rfl⟩
   have hS4:=HS.out.step hN4 hG4
   have t0:=hS4.c0
   have t1:=hS4.c1
   have t2:_=some (Value.int .u64 5):=hS4.c2
   have HLV:=leavesT_any hS4.env hS4.sub hS4.pg 5 HLA.out.td (by rw[HLA.out.blk];omega)
   rw[pgV5,HLA.out.leafs] at HLV
   have HLV:=Lib.hid HLV
   have HS4:=Lib.hid hS4
   clear hG4 hN4 hS4
   go_wp2_with fail
   refine HLV.out.mono ?_
   rintro e w5 hd
   obtain⟨P5,F5,hS5,nv,rfl,hnv⟩:=HS4.out.done hd
   obtain⟨ns,hns⟩:∃ns,ns=leavesW 232 (wtsP ps):=⟨_,rfl⟩
   rw[← hns] at hnv HHV
   have HNV:=Lib.hid hnv
   obtain⟨na,nc,rfl,n1,n2,n3, -⟩:=hnv
   unfold maxLen at n2
   rw[List.length_map] at n1 n3 HNV ⊢
   have HSL5:=Lib.hid (hS5.sl HSR.out)
   have HX5:=Lib.hid (HXE.out.trans hS5.ext0)
   have HE5:=Lib.hid (HLE.out.mods hS5.ext0.ext)
   have hwl:(wtsP ps).length=p0.length:=by unfold wtsP;rw[List.length_map];exact HPS.out.2.2.1
   have HWL:=Lib.hid hwl
   obtain⟨w6,rfl⟩:∃w6:World,w6=w5:=⟨_,rfl⟩
   clear hd hS5 t0 t1 t2 hns hwl
   go_wp2_with fail
   go_loopg [11,12] ns.length (λm v11 v12 wr=>∃(i from_:Nat),i+m=ns.length∧v11=.int .i64 (from_:Int)∧v12=.int .i64 (i:Int)∧from_≤p0.length∧Hid (from_=(ns.take i).sum∧Ext w6 wr))
   case atStart=>exact⟨0,0,by omega,rfl,rfl,by omega,Lib.hid ⟨rfl,Mods.refl _ _⟩⟩
   case round =>
    obtain⟨i,from_,him,rfl,rfl,hfr,HR⟩:=hrel
    by_cases hi:i<ns.length
    ·obtain⟨n,hn⟩:∃n,ns[i]? = some n:=⟨_,List.getElem?_eq_getElem hi⟩
     have hnm:(ns.map (λn:Nat=>(n:Int)))[i]? = some (n:Int):=by rw[List.getElem?_map,hn];rfl
     obtain⟨qb,qoff,hqa,hcn⟩:=HNV.out.elem (k:=i) (by rw[List.length_map];exact hi) HR.out.2
     have hel:(ns.map (λn:Nat=>(n:Int)))[i]'(by rw[List.length_map];exact hi)=(n:Int):=by
      have:=hnm
      rw[List.getElem?_eq_getElem (by rw[List.length_map];exact hi)] at this
      injection this
     rw[hel] at hcn
     have N0:=Lib.hid (hcn 0 (.int .i64 (n:Int)) rfl)
     simp only[Nat.mul_one,Nat.add_zero] at N0
     subst hqa
     have hnle:from_+n≤p0.length:=by
      have h1:=sum_take_le ns (i+1)
      rw[sum_take_succ hn,← HR.out.1,HHV.out.sum,HWL.out] at h1
      exact h1
     have HNX:Hid (from_+n=(ns.take (i+1)).sum):=Lib.hid (by rw[sum_take_succ hn,← HR.out.1])
     have HHI:Hid (2≤ns.length→232≤3 * (2+addW (((wtsP ps).drop from_).take n))):=Lib.hid (λh2=>by have:=HHV.out.heavy h2 i n hn;rw[← HR.out.1] at this;exact this)
     have z1:(0:Int)≤(i:Int):=by omega
     have z2:(i:Int)<(ns.length:Int):=by omega
     obtain⟨wo,rfl⟩:∃wo:World,wo=wr:=⟨_,rfl⟩
     obtain⟨gi,hgi⟩:∃gi,gi=gk:=⟨_,rfl⟩
     rw[← hgi] at him
     clear hcn hnm hel hn
     go_wp2_with fail
     go_loopg [11,13,14] n (λm v11 v13 v14 wr=>∃(k:Nat) (B:Int),k+m=n∧v11=.int .i64 ((from_+k:Nat):Int)∧v13=.int .i64 B∧v14=.int .i64 (k:Int)∧0≤B∧B≤2+40000 * (k:Int)∧Hid (B=2+addW (((wtsP ps).drop from_).take k)∧Ext wo wr))
     case atStart=>exact⟨0,2,by omega,by simp,rfl,rfl,by omega,by omega,Lib.hid ⟨by simp[addW],Mods.refl _ _⟩⟩
     case round =>
      obtain⟨k2,B,hkm2,rfl,rfl,rfl,hB0,hB1,HR2⟩:=hrel
      have n0:=cellE HR2.out.2 N0.out
      by_cases hk2:k2<n
      ·obtain⟨y,hy⟩:∃y,ps[from_+k2]? = some y:=⟨_,List.getElem?_eq_getElem (by have:=HPS.out.2.2.1;omega)⟩
       obtain⟨yk,yv⟩:=y
       have hyo:=HPS.out.2.1 (yk,yv) (List.mem_of_getElem? hy)
       have hyv:=HPS.out.2.2.2 (yk,yv) (List.mem_of_getElem? hy)
       have hks:=(keyB_iff yk).1 hyo.1
       simp only at hyv
       obtain⟨rb,roff,hra,hcr⟩:=HSL5.out.elem (k:=from_+k2) (by have:=HPS.out.2.2.1;omega) (HR.out.2.trans HR2.out.2)
       have hey:ps[from_+k2]'(by have:=HPS.out.2.2.1;omega)=(yk,yv):=by
        rw[List.getElem?_eq_getElem (by have:=HPS.out.2.2.1;omega)] at hy
        injection hy
       rw[hey] at hcr
       have d0:=hcr 0 (.string yk) rfl
       have d1:=hcr 1 (.string yv) rfl
       simp only[Nat.add_zero] at d0
       subst hra
       have HAD:Hid (B+3+(yk.size:Int)+(yv.size:Int)=2+addW (((wtsP ps).drop from_).take (k2+1))):=Lib.hid (by
        have hwy:((wtsP ps).drop from_)[k2]? = some (wtP (yk,yv)):=by
         rw[List.getElem?_drop];unfold wtsP;rw[List.getElem?_map,hy];rfl
        rw[take_one _ k2 _ hwy,addW_append,HR2.out.1]
        simp only[addW]
        unfold wtP
        rw[if_neg (by simp only;omega)]
        simp only
        omega)
       have e1:IntKind.i64.wrap (B+3)=B+3:=IntWalk.i64_in _ (by omega)
       have e2:IntKind.i64.wrap (B+3+(yk.size:Int))=B+3+(yk.size:Int):=IntWalk.i64_in _ (by omega)
       have e3:IntKind.i64.wrap (B+3+(yk.size:Int)+(yv.size:Int))=B+3+(yk.size:Int)+(yv.size:Int):=IntWalk.i64_in _ (by omega)
       have u1:(0:Int)≤((from_+k2:Nat):Int):=by omega
       have u2:((from_+k2:Nat):Int)<(p0.length:Int):=by omega
       have u3:(k2:Int)<(n:Int):=by omega
       obtain⟨fk,hfk⟩:∃fk,fk=from_+k2:=⟨_,rfl⟩
       rw[← hfk] at u1 u2 d0 d1 ⊢
       have HFK:=Lib.hid hfk
       clear hy hyo hcr hey hfk
       go_wp2_with fail
       go_quiet (fail)
       go_wp2_with fail
       go_roundg (gk-1)
       case measure=>omega
       case rel=>exact⟨k2+1,B+3+(yk.size:Int)+(yv.size:Int),by omega,by have:=HFK.out;go_num,rfl,by go_num,by omega,by omega,Lib.hid ⟨HAD.out,HR2.out.2.trans (by first|exact (Mods.refl _ _).drewN _|exact (Mods.refl _ _).drew|exact Mods.refl _ _)⟩⟩
      ·have hke:k2=n:=by omega
       subst hke
       have HXO:Hid (Ext w6 wr):=Lib.hid (HR.out.2.trans HR2.out.2)
       have u3:¬ (k2:Int)<(k2:Int):=by omega
       have HBE:=Lib.hid HR2.out.1
       by_cases h2:2≤ns.length
       ·have hg1:(1:Int)<(ns.length:Int):=by omega
        have hg2:¬ 3 * B<232:=by have:=HHI.out h2;rw[← HBE.out] at this;omega
        go_wp2_with fail
        go_roundg (gi-1)
        case measure=>omega
        case rel=>exact⟨i+1,from_+k2,by omega,rfl,by go_num,hnle,Lib.hid ⟨HNX.out,HXO.out⟩⟩
       ·have hg1:¬ (1:Int)<(ns.length:Int):=by omega
        go_wp2_with fail
        go_roundg (gi-1)
        case measure=>omega
        case rel=>exact⟨i+1,from_+k2,by omega,rfl,by go_num,hnle,Lib.hid ⟨HNX.out,HXO.out⟩⟩
    ·have hie:i=ns.length:=by omega
     have hfe:from_=p0.length:=by have h1:=HR.out.1;rw[hie,List.take_length,HHV.out.sum,HWL.out] at h1;exact h1
     subst hfe
     have HAW:=Lib.hid (awake15_any (HE5.out.mods HR.out.2.ext))
     have HXX:=Lib.hid (HX5.out.trans HR.out.2)
     go_wp2_with fail
     refine HAW.out.mono ?_
     rintro e w7 ⟨rfl,hm7⟩
     have HM7:=Lib.hid hm7
     clear hm7
     go_wp2_with fail
     go_ret
     exact⟨rfl,HXX.out.trans HM7.out⟩
end Go.Proofs.YtchklfmggpconaaGreatDoor
