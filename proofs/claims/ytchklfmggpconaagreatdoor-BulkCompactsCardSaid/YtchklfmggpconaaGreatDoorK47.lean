import Derived.Test.YtchklfmggpconaaGreatDoorK46
import Derived.Test.YtchklfmggpconaaGreatDoorK44
import Derived.IntWalk
import Derived.Test.YtchklfmggpconaaGreatDoorK42
import Derived.Deep.RegionHeld3
namespace Go.Proofs.YtchklfmggpconaaGreatDoor
open Lib renaming hid->oh
set_option maxHeartbeats 8000000
set_option maxRecDepth 100000
open Go.RowKit
attribute [local go_sem ↓] Go.wp_at_zero Go.wp_at_succ
section
variable {G:GA}{gen:Nat}
theorem qF.eachT{T:zEJ}{lo:ByteArray}{hi:Option ByteArray}{kk:List ByteArray}{cc:List Int}{ps:List zE}{q:List Nat}(h:qF T lo hi kk cc ps q):∀k∈cc,∃lo' hi' l' q',T lo' hi' k.toNat l' q':=λk hk=>by
 obtain⟨n,lo',hi',l',q',rfl,t,_⟩:=h.each k hk;exact⟨lo',hi',l',q',by rw[uL];exact t⟩
theorem vJ.trE:∀(d:Nat) (lo:ByteArray) (hi:Option ByteArray) (id:Nat) (l:List zE) (q:List Nat),vJ G gen d lo hi id l q->TrE G.node id d
 | 0,_,_,_,_,_,h=>h.elim
 | d+1,lo,hi,id,l,q,h=>by
  obtain⟨n,q,hp,hr,rfl,h⟩:=h;have hn:=zHw hp;rcases h with ⟨hl,rfl,hne,he,_⟩|⟨hl,hk⟩
  .exact .leaf hn hl (λe=>by
    have:=he.len;rw[e] at this;exact hne (wL.1 (by simpa using this.symm)))
  .exact .inner hn hl (λk hk'=>by
    obtain⟨lo',hi',l',q',t⟩:=hk.eachT k hk';exact vJ.trE d _ _ _ _ _ t)
theorem zEk:∀(d:Nat) (lo:ByteArray) (hi:Option ByteArray) (id:Nat) (l:List zE) (q:List Nat),vJ G gen d lo hi id l q->(yK G d id).length<=q.length
 | 0,_,_,_,_,_,h=>h.elim
 | d+1,lo,hi,id,l,q,h=>by
  obtain⟨n,q,hp,hr,rfl,h⟩:=h;have hn:=zHw hp;rcases h with ⟨hl,_⟩|⟨hl,hk⟩
  .rw[zDq hn hl];simp
  .rw[zCy hn hl];have key:∀{lo hi kk cc ps q},qF (vJ G gen d) lo hi kk cc ps q->(cc.flatMap λk=>yK G d k.toNat).length<=q.length:=by
    intro lo hi kk cc ps q hk;induction hk with
    | one h=>have:=zEk d _ _ _ _ _ h;simpa using this
    | cons h1 _ _ ih =>
     have:=zEk d _ _ _ _ _ h1;rw[wI,uC,uC,uL];omega
   have:=key hk;simp only[uD];omega
theorem zIE{α β γ:Type}(f:α->List β):∀(cc:List α) (p:List (List γ)),p.length=cc.length->(∀(i:Nat) (c:α) (x:List γ),cc[i]? = some c->p[i]? = some x->(f c).length<=x.length)->∀(k:Nat) (c:α) (x:List γ),cc[k]? = some c->p[k]? = some x->((cc.take k).flatMap f).length+x.length<=p.flatten.length
 | [],_,_,_,k,c,x,h1,_=>by simp at h1
 | c0 :: cc,[],h,_,_,_,_,_,_=>by simp at h
 | c0 :: cc,x0 :: p,h,hf,0,c,x,h1,h2=>by
  simp at h2;subst h2;simp
 | c0 :: cc,x0 :: p,h,hf,k+1,c,x,h1,h2=>by
  have:=zIE f cc p (by simpa using h) (λi c x a b=>hf (i+1) c x (by simpa using a) (by simpa using b)) k c x (by simpa using h1) (by simpa using h2);have h0:=hf 0 c0 x0 rfl rfl;rw[rY,wI,uC,wT,uC];omega
theorem TD.treeE{root d:Nat}{ps:List zE}{pgs:List Nat}(h:TD G gen root d ps pgs)(hs:256<=G.size)(hb:G.blocks<=256):zLB G root d ps:=by
 refine⟨h.treeG hs hb,λhr=>?_⟩;rcases h.tree with ⟨h0,_,_,_⟩|⟨_,hT⟩
 .exact absurd h0 hr
 .exact vJ.trE _ _ _ _ _ _ hT
theorem zN7:∀(l:List zE) (m:Nat),l.length<=m->upP e0 l m=l
 | [],m,_=>by cases m <;> rfl
 | x :: l,0,h=>by simp at h
 | x :: l,m+1,h=>by
  rw[upP,if_pos (by simp[zFR]),zN7 l m (by simpa using h)]
theorem zRp(k:ByteArray):qJ k e0=false:=by
 cases h:qJ k e0 with
 | false=>rfl
 | true =>
  unfold qJ at h;rw[show e0.toList=[] from by simp[ByteArray.toList_eq]] at h;cases hk:k.toList <;> rw[hk] at h <;> simp[Op.bytesLess] at h
theorem zQc(l:List zE):zFl e0 l=0:=by
 cases l with
 | nil=>rfl
 | cons x l=>simp[zFl,zRp,pD]
end
section
variable {P P' F F':Nat->Prop}{ad:Nat->Addr}{w w':World}{c s:Nat}{G:GA}{l:List Nat}{gen root d:Nat}{ps:List zE}{pgs:List Nat}
theorem zNN(hL:yW F ad w)(hP:∀k,P k->F k)(h:yS F w P c s G l)(g:Nat)(hT:TD G gen root d ps pgs)(hs:256<=G.size)(hb:G.blocks<=256)(hlen:ps.length<=1000) :
  Calls Tryz.prog 49 #[qR c s g,.int .i64 (root:Int),.string e0,.string e0,.int .i64 65535] w (zNL F P ad w c s G l ps):=by
 obtain⟨H,hl,ht,hH⟩:=h.tot;have hT2:=hT.up hl;have hs2:256<=H.size:=by rw[hl.size];exact hs
 have hb2:H.blocks<=256:=by rw[hl.blocks];exact hb
 have hd:=(hT2.few hb2).2;have hR:=zPN hL hP hH hlen ht (by omega) (hT2.treeE hs2 hb2) g e0 e0 65535 (by unfold zG3 zB2;simp);rw[zQc,pX,zN7 ps _ (by show ps.length<=65535;omega)] at hR;refine hR.mono ?_;rintro e w' ⟨P',F',hG,hN,hr⟩;exact⟨P',F',hG.le hl,hN,hr⟩
theorem zEl(hL:yW F ad w)(hP:∀k,P k->F k)(h:yS F w P c s G l)(g:Nat)(hT:TD G gen root d ps pgs)(hs:256<=G.size)(hb:G.blocks<=256)(hlen:ps.length<=1000) :
  Calls Tryz.prog 18 #[qR c s g,.int .i64 (root:Int)] w (zNL F P ad w c s G l ps):=by
 have m0:zJ w (w.alloc (gP c s g)):=(zA.refl _ w).alloc _;have HB0:=oh (zL.new w (gP c s g) 31);have HM0:=oh m0;have HRD:=λW=>zGU (c:=c) (s:=s) (w:=W) ⟨#[98,117,108,107,46,68,117,109,112]⟩ g
 have HRG:=λW (m:zJ w W)=>zNN (hL.mods m.ext) hP (h.at m) g hT hs hb hlen
 unfold qR at HRD HRG ⊢;have HRD:=oh HRD;have HRG:=oh HRG;have HNX:=oh (λW (m:zJ w W)=>zR.ext hL hP m);clear hL hP h m0
 go_enter Tryz.func18, Tryz.ntmps18
 go_wp2_with fail;refine (HRD.out _).mono ?_;rintro e w1 ⟨rfl,hm1⟩;have HM1:=oh (HM0.out.trans hm1);have hB1:=HB0.out.ext hm1;have b0:=hB1.cell (o:=0) (v:=.pointer (some ⟨c,0,none⟩)) rfl;have b1:=hB1.cell (o:=1) (v:=.pointer (some ⟨s,0,none⟩)) rfl;have b2:=hB1.cell (o:=2) (v:=.int .u64 (g:Int)) rfl;clear hm1 hB1;go_wp2_with fail;refine (HRG.out _ HM1.out).mono ?_;rintro e w2 ⟨P2,F2,hG2,hN2,v,rfl,hv⟩;have HFIN:Hid (yS F2 w2 P2 c s G l/\zR P P2 F F2 ad w w2/\Sl F2 w2 2 zAL v ps):=oh ⟨hG2,(HNX.out _ HM1.out).trans hN2,hv⟩;clear hG2 hN2 hv;go_wp2_with fail;refine (wrap_nil _ _).mono ?_;rintro e w3 ⟨rfl,rfl⟩;go_wp2_with fail;refine bodyPost_ret (v:=.tuple #[v,.nilIface]) (by simp[results,Tryz.results18,go_sem]) rfl ?_;exact⟨P2,F2,HFIN.out.1,HFIN.out.2.1,v,rfl,HFIN.out.2.2⟩
theorem zBI.appQ{α:Type}{w0:World}{e:TypeId}{sz:Nat}{enc:α->List Value}{v v':Value}{x x':List α}(hL:yW F ad w)(hP:∀k,P k->F k)(h:zBI w0 F P w e sz enc v x)(ho:zU (λ_=>False) w' w0.heap.size e sz enc v' x')(m:zA (λk=>v.ownBlock=some k) w w'){K:Nat}(hat:v'.ownBlock=v.ownBlock\/v'.ownBlock=some K)(hK:w.heap.size<=K) :
  zR (λk=>P k\/v.ownBlock=some k) (λk=>P k\/v'.ownBlock=some k) F (zAA F v') ad w w'/\zBI w0 (zAA F v') P w' e sz enc v' x':=by
 have hb:∀k,v'.ownBlock=some k->k<w'.heap.size:=λk hk=>(ho.lt k hk).2
 have hold:∀k,k<w.heap.size->v'.ownBlock=some k->v.ownBlock=some k:=λk hk e=>by
  rcases hat with h1|h1
  .rw[<- h1];exact e
  .rw[h1] at e;injection e with e;omega
 refine⟨⟨⟨m.mono (λk hk=>.inr hk),λk hk hp=>hp.imp id (hold k hk),λk hp=>hp.elim (λhp=>uH (hL.lt k (hP k hp)) m.size) (hb k)⟩,λk hp=>hp.elim (λhp=>.inl (hP k hp)) .inr,λk hk=>.inl hk,λk hk hf=>hf.elim id (λhf=>(h.2 k (hold k hk hf)).1),?_⟩,ho,λg hg=>⟨.inr hg,λhp=>?_⟩⟩
 .exact hL.step (m.mono (λk hk=>(h.2 k hk).1)) (λk hk hn hf=>hf.elim hn (λhf=>hn (h.2 k (hold k hk hf)).1)) (λk hf=>hf.elim (λhf=>uH (hL.lt k hf) m.size) (hb k))
 .have hlt:=hL.lt g (hP g hp);exact (h.2 g (hold g hlt hg)).2 hp
abbrev ctQ(P:Nat->Prop)(v:Value):Nat->Prop:=λk=>P k\/v.ownBlock=some k
structure CtS(w0:World)(ad:Nat->Addr)(c s:Nat)(G:GA)(l:List Nat)(F P:Nat->Prop)(w:World)(v:Value)(out:List Int):Prop where
 env:yW F ad w
 sub:∀k,P k->F k
 pg:yS F w P c s G l
 row:zBI w0 F P w 3 1 yB v out
 le:w0.heap.size<=w.heap.size
section
variable {w0 w1:World}{P1 F1:Nat->Prop}{v v1:Value}{out out1:List Int}
theorem CtS.subQ(h:CtS w0 ad c s G l F P w v out):∀k,ctQ P v k->F k:=λk hk=>hk.elim (h.sub k) (λe=>(h.row.2 k e).1)
theorem CtS.ext(h:CtS w0 ad c s G l F P w v out)(m:zJ w w1):CtS w0 ad c s G l F P w1 v out/\zR (ctQ P v) (ctQ P v) F F ad w w1 :=
 ⟨⟨h.env.mods m.ext,h.sub,h.pg.at m,h.row.ext m,uM h.le m.size⟩,zR.ext h.env h.subQ m⟩
theorem CtS.step(h:CtS w0 ad c s G l F P w v out)(n:zR P P1 F F1 ad w w1)(g:yS F1 w1 P1 c s G l):CtS w0 ad c s G l F1 P1 w1 v out/\zR (ctQ P v) (ctQ P1 v) F F1 ad w w1 :=
 ⟨⟨n.env,n.sub,g,h.row.nxt n,uM h.le n.size⟩,n.part (λk hk=>(h.row.2 k hk).1) h.env⟩
theorem CtS.app(h:CtS w0 ad c s G l F P w v out)(ho:zU (λ_=>False) w1 w0.heap.size 3 1 yB v1 out1)(m:zA (λk=>v.ownBlock=some k) w w1)(hat:v1.ownBlock=v.ownBlock\/v1.ownBlock=some w.heap.size):CtS w0 ad c s G l (zAA F v1) P w1 v1 out1/\zR (ctQ P v) (ctQ P v1) F (zAA F v1) ad w w1:=by
 obtain⟨n,r⟩:=h.row.appQ h.env h.sub ho m hat (uJ _);exact⟨⟨n.env,λk hk=>.inl (h.sub k hk),h.pg.app h.row m hat (uJ _),r,uM h.le m.size⟩,n⟩
end
theorem zGu{w0:World}(g:Nat):∀(d:Nat) {F P:Nat->Prop} {w:World} (lo:ByteArray) (hi:Option ByteArray) (id:Nat) (ps:List zE) (q:List Nat) (dep:Nat) (ov:Value) (out:List Int),CtS w0 ad c s G l F P w ov out->vJ G gen d lo hi id ps q->q.length+out.length<=100000->1<=dep->dep+d<=17 ->
  Calls Tryz.prog 40 #[qR c s g,.int .i64 (id:Int),.int .i64 (dep:Int),ov] w λe w'=>∃P' F' v,e=.returned (.tuple #[v,.nilIface])/\CtS w0 ad c s G l F' P' w' v (out++(yK G d id).map (λn:Nat=>(n:Int)))/\zR (ctQ P ov) (ctQ P' v) F F' ad w w'
 | 0,_,_,_,_,_,_,_,_,_,_,_,_,h,_,_,_=>h.elim
 | d+1,F,P,w,lo,hi,id,ps,q,dep,ov,out,hC,hT,hfew,hdep1,hdep=>by
  obtain⟨n,q,hp,hr,rfl,hbody⟩:=hT;obtain⟨hload,hnode⟩:=zFt hp;obtain⟨hkn,_⟩:=GA.node_load hnode;obtain⟨X,hX⟩:∃X,X=w.heap.size:=⟨_,rfl⟩;obtain⟨w1,hw1⟩:∃w1,w1=w.alloc (gP c s g):=⟨_,rfl⟩;have m0:zJ w w1:=by rw[hw1];exact (zA.refl _ w).alloc _
  have hBX:zL w1 X (gP c s g) 31:=by rw[hw1,hX];exact zL.new w _ _
  have hPX:¬ ctQ P ov X:=λhp=>by have:=hC.env.lt X (hC.subQ X hp);omega
  obtain⟨hC1,hN1⟩:=hC.ext m0;have HLD:=zHl hC1.env hC1.sub hC1.pg g (id:Int) hkn;rw[hload] at HLD;unfold qR at HLD ⊢;have HLD:=oh HLD;have HC1:=oh hC1;have HN1:=oh hN1;have HBX:=oh hBX;have HPX:=oh hPX;have HW1:=oh hw1;have HXX:=oh hX;have b0:=hBX.cell (o:=0) (v:=.pointer (some ⟨c,0,none⟩)) rfl;have b1:=hBX.cell (o:=1) (v:=.pointer (some ⟨s,0,none⟩)) rfl;have b2:=hBX.cell (o:=2) (v:=.int .u64 (g:Int)) rfl;rw[hw1] at b0 b1 b2;obtain⟨oa,oc,rfl,o1,o2⟩:=hC.row.1.form;have hd16:¬ (16:Int)<(dep:Int):=by omega
  have HDEP:=oh (And.intro hdep1 hdep);have HFEW:=oh hfew;have HRN:=oh (zDM hr);clear hC hC1 hp hload hkn hw1 m0 hBX hPX hN1 hX hdep hdep1 hfew hr
  go_enter Tryz.func40, Tryz.ntmps40
  go_wp2_with fail;rw[<- HW1.out,<- HXX.out];refine HLD.out.mono ?_;rintro e w2 ⟨P2,F2,hG2,hN2,ve,vk,vi,rfl,hve,hvk,hvi⟩;obtain⟨w3,hw3⟩:∃w3,w3=w2.alloc (.cells #[.bool n.leaf,ve,vk,vi] 118):=⟨_,rfl⟩;have m3:zJ w2 w3:=by rw[hw3];exact (zA.refl _ w2).alloc _
  obtain⟨hC2,hQ2⟩:=HC1.out.step hN2 hG2;obtain⟨hC3,hQ3⟩:=hC2.ext m3;have HC3:=oh hC3;have HN3:=oh ((HN1.out.trans hQ2).trans hQ3);have HB3:=oh ((hQ2.blk HBX.out HPX.out).ext m3);have HP3:=oh (hQ2.not HBX.out.lt HPX.out);have HVI:=oh (hvi.ext m3);obtain⟨ea,ec,rfl,e1,e2,e3, -⟩:=hve;obtain⟨ka,kc,rfl, -, -, -, -⟩:=hvk;obtain⟨ia,ic,rfl,i1,i2,i3, -⟩:=hvi;unfold maxLen at e2 i2;have HW3:=oh hw3;have H3S:Hid (w3.heap.size=w2.heap.size+1):=oh (by rw[hw3];simp);obtain⟨lf,hlf⟩:∃lf,lf=n.leaf:=⟨_,rfl⟩;rw[<- hlf] at HW3 ⊢;have HLF:=oh hlf;clear hG2 hN2 hw3 m3 hlf hC2 hQ2 hC3 hQ3;cases lf with
  | true =>
   have HLS:Hid (yK G (d+1) id=[n.entries.length]):=oh (zDq hnode HLF.out.symm);clear hbody;obtain⟨wz,hwz⟩:∃wz,wz=w3.alloc (.cells #[.int .i64 (n.entries.length:Int)] 3):=⟨_,rfl⟩;have h3z:zJ w3 wz:=by rw[hwz];exact (zA.refl _ _).alloc _
   have HLB:Hid (zL wz w3.heap.size #[.int .i64 (n.entries.length:Int)] 3):=oh (by rw[hwz];exact zL.new w3 _ _);obtain⟨hCz,hNz⟩:=HC3.out.ext h3z;have HCZ:=oh hCz;have HNZ:=oh (HN3.out.trans hNz);have HWZ:=oh hwz;clear h3z hwz hCz hNz;go_wp2_with (at_builtin;rw[<- HW3.out,<- H3S.out,<- HWZ.out];refine yH Tryz.elI yG rfl _ _ rfl w0.heap.size _ _ out [(n.entries.length:Int)] rfl rfl HCZ.out.row.1 (Sl.one (F:=λ_=>False) (x:=(n.entries.length:Int)) (enc:=yB) (sz:=1) HLB.out (λf=>f)) (by have:=HFEW.out;simp only[uD,uE] at this ⊢;omega) HCZ.out.le (λf=>f) ?_;simp only[uD,uE,uR];intro a6 c6 w6 hO6 hm6 hat6);obtain⟨hC6,hN6⟩:=HCZ.out.app hO6 hm6 hat6;have HFIN:Hid (CtS w0 ad c s G l (zAA F2 (.slice a6 (out.length+1) c6)) P2 w6 (.slice a6 (out.length+1) c6) (out++(yK G (d+1) id).map (λn:Nat=>(n:Int)))/\zR (ctQ P (.slice oa out.length oc)) (ctQ P2 (.slice a6 (out.length+1) c6)) F (zAA F2 (.slice a6 (out.length+1) c6)) ad w w6):=oh ⟨by rw[HLS.out];exact hC6,HNZ.out.trans hN6⟩;clear hO6 hm6 hat6 hC6 hN6;go_wp2_with fail;refine bodyPost_ret (v:=.tuple #[.slice a6 (out.length+1) c6,.nilIface]) (by simp[results,Tryz.results40,go_sem]) rfl ?_;exact⟨P2,_,_,rfl,HFIN.out.1,HFIN.out.2⟩
  | false =>
   have HLS:Hid (yK G (d+1) id=n.kids.flatMap λk=>yK G d k.toNat):=oh (zCy hnode HLF.out.symm);obtain⟨hkids,hqn⟩:∃(hk:qF (vJ G gen d) lo hi n.keys n.kids ps q),True:=by
    rcases hbody with ⟨a1,_⟩|⟨_,a2⟩
    .rw[<- HLF.out] at a1;cases a1
    .exact⟨a2,trivial⟩
   obtain⟨parts,hpl,hps,hpq,hpt⟩:=hkids.parts;have HPT:Hid (∀(k:Nat) (kd:Int),n.kids[k]? = some kd->∃(cn:Nat) (lo':ByteArray) (hi':Option ByteArray) (l':List zE) (q':List Nat),kd=(cn:Int)/\vJ G gen d lo' hi' cn l' q'/\((n.kids.take k).flatMap λk=>yK G d k.toNat).length+q'.length<=q.length):=oh (λk kd hk=>by
    have hkl:=(uB.1 hk).1;obtain⟨pp,hpp⟩:∃pp,parts[k]? = some pp:=⟨_,uA (by omega)⟩;obtain⟨cn,hcn,hTn⟩:=hpt k kd pp hk hpp;refine⟨cn,_,_,pp.1,pp.2,hcn,hTn,?_⟩;rw[hpq];exact zIE (λk:Int=>yK G d k.toNat) n.kids (parts.map (·.2)) (by simp[hpl]) (λi c x h1 h2=>by
     rw[pE,rO] at h2;obtain⟨y,hy,rfl⟩:=h2;obtain⟨c',hc',hT'⟩:=hpt i c y h1 hy;rw[hc',uL];exact zEk d _ _ _ _ _ hT') k kd pp.2 hk (by rw[pE,hpp];rfl))
   clear hbody hkids hpl hps hpq hpt;have HKL:=oh HRN.out.2.1;have hkn3:n.kids.length<=256:=HRN.out.2.1;go_wp2_with fail;rw[<- HW3.out];go_loopg [3,39] n.kids.length (λm v3 v39 wr=>∃(k:Nat) (v:Value),k+m=n.kids.length/\v=v3/\v39=.int .i64 (k:Int)/\Hid (∃(P1 F1:Nat->Prop),CtS w0 ad c s G l F1 P1 wr v (out++((n.kids.take k).flatMap λk=>yK G d k.toNat).map (λn:Nat=>(n:Int)))/\zR (ctQ P (.slice oa out.length oc)) (ctQ P1 v) F F1 ad w wr/\zL wr X (gP c s g) 31 /\ ¬ ctQ P1 v X/\Sl F1 wr 1 yB (.slice ia n.kids.length ic) n.kids))
   case atStart=>exact⟨0,_,by omega,rfl,rfl,oh ⟨P2,F2,by simpa using HC3.out,HN3.out,HB3.out,HP3.out,HVI.out⟩⟩
   case round =>
    obtain⟨k,v,hkm,rfl,rfl,HS⟩:=hrel;by_cases hlt:k<n.kids.length
    .obtain⟨P1,F1,hC4,hN4,hB4,hP4,hK4⟩:=HS.out;obtain⟨kd,hkd⟩:∃kd,kd=n.kids[k]:=⟨_,rfl⟩;have hkq:n.kids[k]? = some kd:=by rw[uA hlt,hkd]
     obtain⟨cn,lo',hi',l',q',rfl,hT',hq'⟩:=HPT.out k kd hkq;obtain⟨qb,qoff,hqa,hqF,hcc⟩:=hK4.elemF hlt;rw[<- hkd] at hcc;have d0:=hcc 0 (.int .i64 (cn:Int)) rfl;simp only[uO,wK] at d0;subst hqa;have b0:=hB4.cell (o:=0) (v:=.pointer (some ⟨c,0,none⟩)) rfl;have b1:=hB4.cell (o:=1) (v:=.pointer (some ⟨s,0,none⟩)) rfl;have b2:=hB4.cell (o:=2) (v:=.int .u64 (g:Int)) rfl;have hIH:=zGu g d lo' hi' cn l' q' (dep+1) v _ hC4 hT' (by have:=HFEW.out;simp only[uD,uC,uU] at this ⊢;omega) (by omega) (by have:=HDEP.out.2;omega);rw[show ((dep+1:Nat):Int)=(dep:Int)+1 from by omega] at hIH;unfold qR at hIH;have HIH:=oh hIH;have HN4:=oh hN4;have HB4:=oh hB4;have HP4:=oh hP4;have HK4:=oh hK4;have HQS:=oh hC4.subQ;have HLT:Hid (((n.kids.take (k+1)).flatMap λk=>yK G d k.toNat)=((n.kids.take k).flatMap λk=>yK G d k.toNat)++yK G d cn):=oh (by
      rw[yJ n.kids k _ hkq,tJ];simp)
     have z1:(0:Int)<=(k:Int):=by omega
     have z2:(k:Int)<(n.kids.length:Int):=by omega
     have z3:IntKind.i64.wrap ((dep:Int)+1)=(dep:Int)+1:=IntWalk.i64_in _ (by have:=HDEP.out.2;omega);clear hC4 hN4 hB4 hP4 hK4 hkd hkq hT' hq' hcc hqF hIH;go_wp2_with fail;refine HIH.out.mono ?_;rintro e5 w5 ⟨P5,F5,v5,rfl,hC5,hN5⟩;have HS5:Hid (∃(P1 F1:Nat->Prop),CtS w0 ad c s G l F1 P1 w5 v5 (out++((n.kids.take (k+1)).flatMap λk=>yK G d k.toNat).map (λn:Nat=>(n:Int)))/\zR (ctQ P (.slice oa out.length oc)) (ctQ P1 v5) F F1 ad w w5/\zL w5 X (gP c s g) 31 /\ ¬ ctQ P1 v5 X/\Sl F1 w5 1 yB (.slice (some ⟨qb,qoff,none⟩) n.kids.length ic) n.kids):=oh ⟨P5,F5,by rw[HLT.out,wF,<- uS];exact hC5,HN4.out.trans hN5,hN5.blk HB4.out HP4.out,hN5.not HB4.out.lt HP4.out,hN5.sl HQS.out HK4.out⟩;clear hC5 hN5;go_wp2_with fail;go_roundg (gk-1)
     case measure=>omega
     case rel=>exact⟨k+1,_,by omega,rfl,by go_num,HS5⟩
    .have hk:k=n.kids.length:=by omega
     obtain⟨P1,F1,hC4,hN4,hB4,hP4,hK4⟩:=HS.out;have HFIN:Hid (CtS w0 ad c s G l F1 P1 wr v (out++(yK G (d+1) id).map (λn:Nat=>(n:Int)))/\zR (ctQ P (.slice oa out.length oc)) (ctQ P1 v) F F1 ad w wr):=oh ⟨by rw[HLS.out];rw[hk,wU] at hC4;exact hC4,hN4⟩;clear hC4 hN4 hB4 hP4 hK4;go_wp2_with fail;refine bodyPost_ret (v:=.tuple #[v,.nilIface]) (by simp[results,Tryz.results40,go_sem]) rfl ?_;exact⟨P1,_,_,rfl,HFIN.out.1,HFIN.out.2⟩
theorem zGv(hL:yW F ad w)(hP:∀k,P k->F k)(h:yS F w P c s G l)(g:Nat)(hT:TD G gen root d ps pgs)(hb:G.blocks<=256) :
  Calls Tryz.prog 12 #[qR c s g,.int .i64 (root:Int)] w (jL F P ad w c s G l (λF' w' e=>∃v,e=.returned (.tuple #[v,.nilIface])/\Sl F' w' 1 yB v ((yK G d root).map (λn:Nat=>(n:Int))))):=by
 have m0:zJ w (w.alloc (gP c s g)):=(zA.refl _ w).alloc _;have HB0:=oh (zL.new w (gP c s g) 31);have HM0:=oh m0;have HRD:=λW=>zGU (c:=c) (s:=s) (w:=W) ⟨#[98,117,108,107,46,76,101,97,118,101,115]⟩ g
 have HNX:=oh (λW (m:zJ w W)=>zR.ext hL hP m);have HGX:=oh (λW (m:zJ w W)=>h.at m);have HENV:=oh hL;have hfew:=hT.few hb;unfold qR at HRD ⊢;have HRD:=oh HRD;rcases hT.tree with ⟨rfl,rfl,_,_⟩|⟨hd,hTr⟩
 .clear hL hP h m0 hfew
  go_enter Tryz.func12, Tryz.ntmps12
  go_wp2_with fail;refine (HRD.out _).mono ?_;rintro e w1 ⟨rfl,hm1⟩;have HM1:=oh (HM0.out.trans hm1);clear hm1;go_wp2_with fail;refine bodyPost_ret (v:=.tuple #[.slice none 0 0,.nilIface]) (by simp[results,Tryz.results12,go_sem]) rfl ?_;exact⟨P,F,HGX.out _ HM1.out,HNX.out _ HM1.out,_,rfl,Sl.nil _ _ _ _⟩
 .have hr0:¬ (root:Int)=0:=by
   obtain⟨r,hr⟩:=vJ.head _ _ _ _ _ _ hTr;have:=hT.lt root (by rw[hr];simp);omega
  have HCT:=oh (λW (m:zJ w W)=>zGu (w0:=w) g d e0 none root ps pgs 1 (.slice none 0 0) [] (⟨hL.mods m.ext,hP,h.at m,zBI.nil _ _ _ _ _ _ _,m.size⟩:CtS w ad c s G l F P W (.slice none 0 0) []) hTr (by simp;omega) (by omega) (by omega));unfold qR at HCT;rw[show ((1:Nat):Int)=1 from rfl] at HCT;have HFW:=oh (zEk d _ _ _ _ _ hTr);have HFEW:=oh hfew;clear hL hP h m0 hfew
  go_enter Tryz.func12, Tryz.ntmps12
  go_wp2_with fail;refine (HRD.out _).mono ?_;rintro e w1 ⟨rfl,hm1⟩;have HM1:=oh (HM0.out.trans hm1);have hB1:=HB0.out.ext hm1;have b0:=hB1.cell (o:=0) (v:=.pointer (some ⟨c,0,none⟩)) rfl;have b1:=hB1.cell (o:=1) (v:=.pointer (some ⟨s,0,none⟩)) rfl;have b2:=hB1.cell (o:=2) (v:=.int .u64 (g:Int)) rfl;clear hm1 hB1;go_wp2_with fail;refine (HCT.out _ HM1.out).mono ?_;rintro e w2 ⟨P2,F2,v,rfl,hC2,hN2⟩;rw[uT] at hC2;have hN2':zR P P2 F (λk=>F k\/P2 k) ad w w2:=by
   have n:=(((HNX.out _ HM1.out).part (Q:=λk=>(Value.slice none 0 0).ownBlock=some k) (λk hk=>by simp[Value.ownBlock] at hk) HENV.out).trans hN2).shrink (P2:=P2) (λk hk=>.inl hk);have n2:=n.least;exact⟨⟨n2.stp.mods.mono (λk hk=>hk.elim id (λe=>by simp[Value.ownBlock] at e)),λk hk hp=>(n2.stp.old k hk hp).elim id (λe=>by simp[Value.ownBlock] at e),n2.stp.bd⟩,n2.sub,n2.grow,n2.oldF,n2.env⟩
  have HFIN:Hid (yS (λk=>F k\/P2 k) w2 P2 c s G l/\zR P P2 F (λk=>F k\/P2 k) ad w w2/\Sl (λk=>F k\/P2 k) w2 1 yB v ((yK G d root).map (λn:Nat=>(n:Int)))):=oh ⟨hC2.pg.anti (λk hk=>hk.elim (hN2.grow k) (hC2.sub k)),hN2',zU.sl (F:=λk=>F k\/P2 k) ⟨hC2.row.1.1,λg hg hf=>hf.elim (λhf=>by have h1:=(hC2.row.1.lt g hg).1;have h2:=HENV.out.lt g hf;omega) (λhp=>(hC2.row.2 g hg).2 hp)⟩ yG.len (by rw[uU];have:=HFW.out;have:=HFEW.out.1;omega)⟩;clear hC2 hN2 hN2';go_wp2_with fail;refine (wrap_nil _ _).mono ?_;rintro e w3 ⟨rfl,rfl⟩;go_wp2_with fail;refine bodyPost_ret (v:=.tuple #[v,.nilIface]) (by simp[results,Tryz.results12,go_sem]) rfl ?_;exact⟨P2,_,HFIN.out.1,HFIN.out.2.1,v,rfl,HFIN.out.2.2⟩
end
def awP:List zE:=[(⟨#[97]⟩,⟨#[120]⟩),(⟨#[98]⟩,⟨#[]⟩)]
theorem zKH:yZ awP/\zA6 awP:=by
 constructor
 .exact wV.2 ⟨by decide +kernel,wV.2 ⟨by simp,List.Pairwise.nil⟩⟩
 .intro x hx;simp only[awP,uN,tX,or_false] at hx;rcases hx with rfl|rfl <;> decide +kernel
theorem zL2{ad:Nat->Addr}{w:World}(hL:yW NoB ad w) : Calls Tryz.prog 9 #[] w λe w'=>e=.returned (.bool true)/\zJ w w':=by
 have HL:=oh hL;obtain⟨G',l',root,d,pgs,hld,hlaid⟩:=zRc zKH.1 zKH.2 (by decide) (by intro x hx;simp only[awP,uN,tX,or_false] at hx;rcases hx with rfl|rfl <;> decide);have HLD:=oh hld;have HLA:=oh hlaid;clear hL hld hlaid
 go_enter Tryz.func9, Tryz.ntmps9
 go_wp2_with fail;refine (zGm HL.out).mono ?_;rintro e w1 ⟨c,s,P,F,rfl,hG,hN⟩;have hS:=LG.startZ (gen:=5) hG hN 5 rfl;obtain⟨wb,hwb⟩:∃wb,wb=w1.alloc (.cells #[.pointer (some ⟨c,0,none⟩),.pointer (some ⟨s,0,none⟩),.int .u64 5] 31):=⟨_,rfl⟩;rw[<- hwb] at hS;obtain⟨wl,hwl⟩:∃wl,wl=wb.alloc (.cells #[.string ⟨#[97]⟩,.string ⟨#[120]⟩,.string ⟨#[98]⟩,.string ⟨#[]⟩] 25):=⟨_,rfl⟩;have hbl:zJ wb wl:=by rw[hwl];exact (zA.refl _ _).alloc _
 have hSl:=hS.ext hbl;have hlt:zL wl wb.heap.size #[.string ⟨#[97]⟩,.string ⟨#[120]⟩,.string ⟨#[98]⟩,.string ⟨#[]⟩] 25:=by rw[hwl];exact zL.new wb _ _
 have hrow:Sl F wl 2 zAL (.slice (some ⟨wb.heap.size,0,none⟩) 2 2) awP:=Sl.duo (x:=((⟨#[97]⟩,⟨#[120]⟩):zE)) (y:=((⟨#[98]⟩,⟨#[]⟩):zE)) hlt rfl (λf=>by have:=hS.env.lt _ f;omega);have HLO:=zH5 hSl.env hSl.sub hSl.pg 5 (by omega) zQH.1 awP _ hrow zKH.1 zKH.2 (by decide) (by show 0<=800000;omega) root HLD.out;rw[zIY] at HLO ⊢;have HLO:=oh HLO;have hsz:wb.heap.size=w1.heap.size+1:=by rw[hwb];simp
 have t0:=hS.c0;have t1:=hS.c1;have t2:_=some (Value.int .u64 5):=hS.c2;have t0:=zH t0 (.cells #[.string ⟨#[97]⟩,.string ⟨#[120]⟩,.string ⟨#[98]⟩,.string ⟨#[]⟩] 25);rw[hwb] at t0 t1 t2;have HWB:=oh hwb;have HWL:=oh hwl;have HSZ:=oh hsz;have HSL:=oh hSl;clear hG hN hS hbl hSl hlt hrow hwb hwl hsz t0;have t0:(w1.alloc (.cells #[.pointer (some ⟨c,0,none⟩),.pointer (some ⟨s,0,none⟩),.int .u64 5] 31)).cell? ⟨w1.heap.size,0,none⟩=some (.pointer (some ⟨c,0,none⟩)):=(zL.new w1 _ _).cell (o:=0) rfl;go_wp2_with fail;rw[<- HWB.out,<- HSZ.out,<- HWL.out];refine HLO.out.mono ?_;rintro e w2 ⟨P2,F2,hG2,hN2,rfl⟩;have hS2:=HSL.out.step hN2 hG2;have t0:=hS2.c0;have t1:=hS2.c1;have t2:_=some (Value.int .u64 5):=hS2.c2;have HDU:=zEl hS2.env hS2.sub hS2.pg 5 HLA.out.td (by rw[HLA.out.size];omega) (by rw[HLA.out.blk];omega) (by decide);rw[zIY] at HDU;have HDU:=oh HDU;have HS2:=oh hS2;clear hG2 hN2 hS2;go_wp2_with fail;refine HDU.out.mono ?_;rintro e w3 hd;obtain⟨P3,F3,hS3,v,rfl,hv⟩:=HS2.out.done hd;have HX:=oh hS3.ext0;obtain⟨va,vc,rfl,h1,h2,h3, -⟩:=id hv;obtain⟨qb,qoff,hqa,hqF,hcc⟩:=hv.elemF (k:=0) (by decide);have d1:=hcc 1 (.string ⟨#[120]⟩) rfl;simp only[pW,uO] at d1;subst hqa;have hal:awP.length=2:=rfl;rw[hal];clear hd hS3 hv hcc hqF t0 t1 t2 h1 h3 hal;go_wp2_with fail;go_ret;exact⟨rfl,HX.out⟩
theorem zRr{k g n:Nat}(h1:k<n)(h2:k+g=n):k+1+(g-1)=n:=by omega
section
variable {P P' F F':Nat->Prop}{ad:Nat->Addr}{w w':World}{c s gen root d:Nat}{G:GA}{l:List Nat}{ps:List zE}{pgs:List Nat}
theorem zQd(hL:yW F ad w)(hP:∀k,P k->F k)(h:yS F w P c s G l)(g id:Nat)(hok:(yR l (id:Int)).2=none) :
  Calls Tryz.prog 101 #[qR c s g,.int .i64 (id:Int)] w (jL F P ad w c s (G.drop id) (yR l (id:Int)).1 (λ_ _ e=>e=.returned .nilIface)):=by
 have m0:zJ w (w.alloc (gP c s g)):=(zA.refl _ w).alloc _;have HN0:=oh (zR.ext hL hP m0);have HB0:=oh (zL.new w (gP c s g) 31);have HNP:Hid (¬ P w.heap.size):=oh (λhp=>by have:=hL.lt _ (hP _ hp);omega);have HDR:=oh (zMK HN0.out.env HN0.out.sub (h.at m0) id);have HOK:=oh hok;have c0:=HB0.out.cell (o:=0) (v:=.pointer (some ⟨c,0,none⟩)) rfl;clear hL hP h m0 hok;unfold qR
 go_enter Tryz.func101, Tryz.ntmps101
 go_wp2_with fail;refine HDR.out.mono ?_;rintro e w1 ⟨P1,F1,hG1,hN1,b,rfl⟩;have hB1:=hN1.blk HB0.out HNP.out;have d1:=hB1.cell (o:=1) (v:=.pointer (some ⟨s,0,none⟩)) rfl;have HGV:=oh (zMM hN1.env hN1.sub hG1 (id:Int));have HN1:=oh (HN0.out.trans hN1);clear hG1 hN1 hB1 c0;go_wp2_with fail;refine HGV.out.mono ?_;rintro e w2 ⟨P2,F2,hG2,hN2,ev,rfl,he⟩;rw[HOK.out] at he;obtain rfl:ev=.nilIface:=he;have HFIN:Hid (yS F2 w2 P2 c s (G.drop id) (yR l (id:Int)).1/\zR P P2 F F2 ad w w2):=oh ⟨hG2,HN1.out.trans hN2⟩;clear hG2 hN2;go_wp2_with fail;go_ret;exact⟨P2,F2,HFIN.out.1,HFIN.out.2,rfl⟩
theorem zPO(hL:yW F ad w)(hP:∀k,P k->F k)(h:yS F w P c s G l)(g:Nat)(hT:TD G gen root d ps pgs)(hg:gen<=g)(hs:256<=G.size)(hb:G.blocks<=256)(hok:zBM l pgs) :
  Calls Tryz.prog 56 #[qR c s g,.int .i64 (root:Int)] w (jL F P ad w c s (qM G pgs) (qU l pgs) (λ_ _ e=>e=.returned (.tuple #[.int .i64 (pgs.length:Int),.nilIface]))):=by
 have m0:zJ w (w.alloc (gP c s g)):=(zA.refl _ w).alloc _;have HN0:=oh (zR.ext hL hP m0);have HB0:=oh (zL.new w (gP c s g) 31);have HNP:Hid (¬ P w.heap.size):=oh (λhp=>by have:=hL.lt _ (hP _ hp);omega);have hWK:=zJS HN0.out.env HN0.out.sub (h.at m0) g hT hg hs hb;have HOK:=oh hok;have hfew:=(hT.few hb).1;have HFW:=oh hfew;have c0:=HB0.out.cell (o:=0) (v:=.pointer (some ⟨c,0,none⟩)) rfl;have c1:=HB0.out.cell (o:=1) (v:=.pointer (some ⟨s,0,none⟩)) rfl;have c2:=HB0.out.cell (o:=2) (v:=.int .u64 (g:Int)) rfl;unfold qR at hWK;have HWK:=oh hWK;clear hL hP h m0 hok hT hWK hs hb hg;unfold qR
 go_enter Tryz.func56, Tryz.ntmps56
 go_wp2_with fail;refine HWK.out.mono ?_;rintro e w1 ⟨P1,F1,hG1,hN1,kpv,kkv,rfl,hsp,hsk⟩;have HSP:=oh hsp;obtain⟨ra,rc,rfl, -, -, -, -⟩:=hsp;obtain⟨ka,kc,rfl, -, -, -, -⟩:=hsk;simp only at HSP ⊢;obtain⟨np,hnp⟩:∃np,np=(iL pgs).length:=⟨_,rfl⟩;obtain⟨nk,hnk⟩:∃nk,nk=(ps.map (·.1)).length:=⟨_,rfl⟩;rw[<- hnp] at HSP ⊢;rw[<- hnk];have hnp2:np=pgs.length:=by rw[hnp];simp[iL]
 obtain⟨w2,hw2⟩:∃w2,w2=w1.alloc (.cells #[.slice ra np rc,.slice ka nk kc,.int .i64 (d:Int)] 52):=⟨_,rfl⟩;have m2:zJ w1 w2:=by rw[hw2];exact (zA.refl _ w1).alloc _
 have HB2:=oh ((hN1.blk HB0.out HNP.out).ext m2);have HRB:Hid (zL w2 w1.heap.size #[.slice ra np rc,.slice ka nk kc,.int .i64 (d:Int)] 52):=oh (by rw[hw2];exact zL.new w1 _ _);have HN2:=oh ((HN0.out.trans hN1).trans (zR.ext hN1.env hN1.sub m2));have HG2:=oh (hG1.at m2);have HSP2:=oh (HSP.out.ext m2);have HNP2:=oh (hN1.not HB0.out.lt HNP.out);have HRP:Hid (¬ P1 w1.heap.size):=oh (λhp=>by have:=hN1.stp.bd _ hp;omega);have HW2:=oh hw2;have HNE:=oh hnp2;have hr0:=HRB.out.cell (o:=0) (v:=.slice ra np rc) rfl;rw[hw2] at hr0;clear hG1 hN1 m2 hw2 hnp hnp2 hnk c0 c1 c2 hfew;go_wp2_with fail;go_loopg [24] np (λm v24 wr=>∃(k:Nat) (Pr Fr:Nat->Prop),k+m=np/\v24=.int .i64 (k:Int)/\Hid (yS Fr wr Pr c s (qM G (pgs.take k)) (qU l (pgs.take k))/\zR P Pr F Fr ad w wr/\zL wr w.heap.size (gP c s g) 31 /\ zL wr w1.heap.size #[.slice ra np rc,.slice ka nk kc,.int .i64 (d:Int)] 52 /\ ¬ Pr w.heap.size/\¬ Pr w1.heap.size/\Sl Fr wr 1 yB (.slice ra np rc) (iL pgs)))
 case atStart =>
  refine⟨0,P1,F1,by omega,rfl,oh ?_⟩;rw[<- HW2.out];exact⟨HG2.out,HN2.out,HB2.out,HRB.out,HNP2.out,HRP.out,HSP2.out⟩
 case round =>
  obtain⟨k,Pr,Fr,hk,rfl,HR⟩:=hrel;have x0:=HR.out.2.2.1.cell (o:=0) (v:=.pointer (some ⟨c,0,none⟩)) rfl;have x1:=HR.out.2.2.1.cell (o:=1) (v:=.pointer (some ⟨s,0,none⟩)) rfl;have x2:=HR.out.2.2.1.cell (o:=2) (v:=.int .u64 (g:Int)) rfl;have z0:=HR.out.2.2.2.1.cell (o:=0) (v:=.slice ra np rc) rfl;by_cases hlt:k<np
  .have hkp:k<pgs.length:=by rw[<- HNE.out];exact hlt
   obtain⟨id,hid⟩:∃id,id=pgs[k]:=⟨_,rfl⟩;have hki:k<(iL pgs).length:=by simp[iL];exact hkp
   obtain⟨qb,qoff,hqa,hc⟩:=HR.out.2.2.2.2.2.2.elem hki (zA.refl _ _);have d0:=hc 0 (.int .i64 (id:Int)) (by rw[hid];simp[iL,yB]);simp only[uO,wK] at d0;have hgo:=zGB pgs l k id HOK.out (by rw[hid];exact uA hkp);have HGN:=oh (zQd HR.out.2.1.env HR.out.2.1.sub HR.out.1 g id hgo);have HTK:Hid (qM G (pgs.take (k+1))=(qM G (pgs.take k)).drop id/\qU l (pgs.take (k+1))=(yR (qU l (pgs.take k)) id).1):=oh (by
    rw[yJ _ _ _ (uA hkp),<- hid,zE5,zDa];exact⟨rfl,rfl⟩)
   have i3:np<=300:=by have h1:=HNE.out;have h2:=HFW.out;omega
   have i1:(0:Int)<=(k:Int):=by omega
   have i2:(k:Int)<(np:Int):=by omega
   have HLT:=oh hlt;have HKM:=oh hk;subst hqa;unfold qR at HGN;clear hc hid hki hgo hkp hlt z0;go_wp2_with fail;refine HGN.out.mono ?_;rintro e w5 ⟨P5,F5,hG5,hN5,rfl⟩;have HF5:=oh (show yS F5 w5 P5 c s (qM G (pgs.take (k+1))) (qU l (pgs.take (k+1)))/\zR P P5 F F5 ad w w5/\zL w5 w.heap.size (gP c s g) 31 /\ zL w5 w1.heap.size #[.slice (some ⟨qb,qoff,none⟩) np rc,.slice ka nk kc,.int .i64 (d:Int)] 52 /\ ¬ P5 w.heap.size/\¬ P5 w1.heap.size/\Sl F5 w5 1 yB (.slice (some ⟨qb,qoff,none⟩) np rc) (iL pgs) from by
    obtain⟨q1,q2,q3,q4,q5,q6,q7⟩:=HR.out;rw[HTK.out.1,HTK.out.2];exact⟨hG5,q2.trans hN5,hN5.blk q3 q5,hN5.blk q4 q6,hN5.not q3.lt q5,hN5.not q4.lt q6,hN5.sl q2.sub q7⟩)
   clear hG5 hN5 x0 x1 x2;go_wp2_with fail;go_roundg (gk-1)
   case measure=>have:=HLT.out;omega
   case rel=>exact⟨k+1,P5,F5,zRr HLT.out HKM.out,by go_num,HF5⟩
  .have hkq:k=np:=by omega
   have HFIN:Hid (yS Fr wr Pr c s (qM G pgs) (qU l pgs)/\zR P Pr F Fr ad w wr):=oh (by
    have h1:=HR.out.1;rw[show pgs.take k=pgs by rw[hkq,HNE.out];exact wU] at h1;exact⟨h1,HR.out.2.1⟩)
   clear x0 x1 x2 hlt;go_wp2_with fail;refine bodyPost_ret (v:=.tuple #[.int .i64 (np:Int),.nilIface]) (by simp[results,Tryz.results56,go_sem]) rfl ?_;exact⟨Pr,Fr,HFIN.out.1,HFIN.out.2,by rw[HNE.out]⟩
end
section
variable {P P' F F':Nat->Prop}{ad:Nat->Addr}{w w':World}{c s gen root d:Nat}{G:GA}{l:List Nat}{ps:List zE}{pgs:List Nat}
theorem zL3{G':GA}{l':List Nat}{root':Nat}(hL:yW F ad w)(hP:∀k,P k->F k)(h:yS F w P c s G l)(gen:Nat)(hgen:gen<18446744073709551616)(hT:TD G gen root d ps pgs)(hs:256<=G.size)(hb:G.blocks<=256)(hlen:ps.length<=1000)(hok:zBM l pgs)
  (hc:zAK (qM G pgs) (qU l pgs)) (hso:yZ ps) (hpo:zA6 ps) (hco:(qM G pgs).cost<=800000) (hd:zEM gen (qM G pgs) (qU l pgs) ps=.inl (G',l',root')) :
  Calls Tryz.prog 27 #[qR c s gen,.int .i64 (root:Int)] w (jL F P ad w c s G' l' (λ_ _ e=>e=.returned (.tuple #[.int .i64 (root':Int),.nilIface]))):=by
 have m0:zJ w (w.alloc (gP c s gen)):=(zA.refl _ w).alloc _;have HN0:=oh (zR.ext hL hP m0);have HB0:=oh (zL.new w (gP c s gen) 31);have HNP:Hid (¬ P w.heap.size):=oh (λhp=>by have:=hL.lt _ (hP _ hp);omega);have hDU:=zEl HN0.out.env HN0.out.sub (h.at m0) gen hT hs hb hlen;have HTD:=oh hT;have HSB:=oh (And.intro hs hb);have HOK:=oh hok;have HCX:=oh hc;have HPS:=oh (And.intro hso (And.intro hpo hlen));have HCO:=oh hco;have HLD:=oh hd;have HGN:=oh hgen;have c0:=HB0.out.cell (o:=0) (v:=.pointer (some ⟨c,0,none⟩)) rfl;have c1:=HB0.out.cell (o:=1) (v:=.pointer (some ⟨s,0,none⟩)) rfl;have c2:=HB0.out.cell (o:=2) (v:=.int .u64 (gen:Int)) rfl;unfold qR at hDU;have HDU:=oh hDU;clear hL hP h m0 hok hT hDU hs hb hc hso hpo hco hd hlen hgen;unfold qR
 go_enter Tryz.func27, Tryz.ntmps27
 go_wp2_with fail;refine HDU.out.mono ?_;rintro e w1 ⟨P1,F1,hG1,hN1,gv,rfl,hgv⟩;have hB1:=hN1.blk HB0.out HNP.out;have d0:=hB1.cell (o:=0) (v:=.pointer (some ⟨c,0,none⟩)) rfl;have d1:=hB1.cell (o:=1) (v:=.pointer (some ⟨s,0,none⟩)) rfl;have d2:=hB1.cell (o:=2) (v:=.int .u64 (gen:Int)) rfl;have hCL:=zPO hN1.env hN1.sub hG1 gen HTD.out (uJ _) HSB.out.1 HSB.out.2 HOK.out;unfold qR at hCL;have HCL:=oh hCL;have HB1:=oh hB1;have HNP1:=oh (hN1.not HB0.out.lt HNP.out);have HGV:=oh hgv;have HSU:=oh hN1.sub;have HN1:=oh (HN0.out.trans hN1);clear hG1 hN1 hB1 c0 c1 c2 hCL hgv;go_wp2_with fail;refine HCL.out.mono ?_;rintro e w2 ⟨P2,F2,hG2,hN2,rfl⟩;have hB2:=hN2.blk HB1.out HNP1.out;have e0:=hB2.cell (o:=0) (v:=.pointer (some ⟨c,0,none⟩)) rfl;have e1:=hB2.cell (o:=1) (v:=.pointer (some ⟨s,0,none⟩)) rfl;have e2:=hB2.cell (o:=2) (v:=.int .u64 (gen:Int)) rfl;have hLO:=zH5 hN2.env hN2.sub hG2 gen HGN.out HCX.out ps gv (hN2.sl HSU.out HGV.out) HPS.out.1 HPS.out.2.1 HPS.out.2.2 HCO.out root' HLD.out;unfold qR at hLO;have HLO:=oh hLO;have HN2:=oh (HN1.out.trans hN2);clear hG2 hN2 hB2 d0 d1 d2 hLO;go_wp2_with fail;refine HLO.out.mono ?_;rintro e w3 ⟨P3,F3,hG3,hN3,rfl⟩;have HFIN:Hid (yS F3 w3 P3 c s G' l'/\zR P P3 F F3 ad w w3):=oh ⟨hG3,HN2.out.trans hN3⟩;clear hG3 hN3 e0 e1 e2;go_wp2_with fail;refine (wrap_nil _ _).mono ?_;rintro e w4 ⟨rfl,rfl⟩;go_wp2_with fail;refine bodyPost_ret (v:=.tuple #[.int .i64 (root':Int),.nilIface]) (by simp[results,Tryz.results27,go_sem]) rfl ?_;exact⟨P3,F3,HFIN.out.1,HFIN.out.2,rfl⟩
end
theorem zPP{F G:Nat->Prop}{w:World}(av bv:Value)(l:List Int)(ha:Sl F w 1 yB av l)(hb:Sl G w 1 yB bv l) :
  Calls Tryz.prog 22 #[av,bv] w λe w'=>e=.returned (.bool true)/\zJ w w':=by
 have:=zJl av bv l l ha hb;rw[wC rfl] at this;exact this
theorem zSO{k n:Nat}(hn:0<n):∃j,j<n/\((k:Int) * 7).tmod (n:Int)=(j:Int):=by
 refine⟨k * 7 % n,nX _ hn,?_⟩;rw[Int.tmod_eq_emod_of_nonneg (by omega),show (k:Int) * 7=((k * 7:Nat):Int) by omega];exact (Int.natCast_emod (k * 7) n).symm
def CoS(ad:Nat->Addr)(w wr:World)(B c s k root:Nat)(av:Value)(pa:List zE):Prop :=
 ∃(P F:Nat->Prop) (G:GA) (l:List Nat) (d:Nat) (ps:List zE) (pgs:List Nat),LG ad w wr B c s 5 P F G l/\zG2 250 G l root d ps pgs/\G.cost<=61 * k/\ps.length<=k/\(∀x∈ps,qC x.1=true/\x.2.size<=200)/\Sl F wr 2 zAL av pa
theorem zGY{ad:Nat->Addr}{w:World}(hL:yW NoB ad w)(m:List zE)(mv:Value)(hm:Sl NoB w 2 zAL mv m) :
  Calls Tryz.prog 6 #[mv] w λe w'=>e=.returned (.bool true)/\zJ w w':=by
 have HL:=oh hL;have HTM:=oh (λW (x:zJ w W)=>zNH (w:=W) m mv (hm.ext x));obtain⟨pa,hp0⟩:∃pa,pa=zKt 200 m:=⟨_,rfl⟩;have hT:=zPv 200 m;rw[<- hp0] at HTM hT;have HT:=oh hT;have hp24:=hT.len;have HP24:=oh hp24;clear hL hp0 hT hm
 go_enter Tryz.func6, Tryz.ntmps6
 go_wp2_with fail;refine (zGm HL.out).mono ?_;rintro e w1 ⟨c,s,P,F,rfl,hG,hN⟩;have hS:=LG.startZ (gen:=5) hG hN 5 rfl;have HS:=oh hS;have HN1:=oh hN.stp.mods;rw[zIY];obtain⟨wb,hwb⟩:∃wb,wb=w1.alloc (.cells #[.pointer (some ⟨c,0,none⟩),.pointer (some ⟨s,0,none⟩),.int .u64 5] 31):=⟨_,rfl⟩;rw[<- hwb] at HS;have HWB:=oh hwb;clear hG hN hS hwb;go_wp2_with fail;rw[<- HWB.out];refine (HTM.out wb (HS.out.ext0)).mono ?_;rintro e w2 ⟨v,rfl,hO,hm2⟩;obtain⟨va,vc,rfl,hv1,hv2⟩:=hO.form;unfold maxLen at hv2;have HSR:Hid (Sl F w2 2 zAL (.slice va pa.length vc) pa):=oh (hO.slF (λk hk=>HS.out.env.lt k hk) zAX.len (by omega));have HS2:=oh (HS.out.ext hm2);clear hO hm2;go_wp2_with fail;go_loopg [6,7] pa.length (λz v6 v7 wr=>∃(k root:Nat),k+z=pa.length/\v6=.int .i64 (root:Int)/\v7=.int .i64 (k:Int)/\Hid (CoS ad w wr w1.heap.size c s k root (.slice va pa.length vc) pa))
 case atStart=>exact⟨0,0,by omega,rfl,rfl,oh ⟨P,F,_,_,0,[],[],HS2.out,zG2.new 250 (.inl rfl),by show (0:Nat)<=_;omega,by simp,λx hx=>by simp at hx,HSR.out⟩⟩
 case round =>
  obtain⟨k,root,hk,rfl,rfl,HP⟩:=hrel;have HKM:=oh hk;by_cases hlt:k<pa.length
  .obtain⟨j,hj,hjt⟩:=zSO (k:=k) (n:=pa.length) (by omega);obtain⟨P1,F1,G1,l1,d1,ps1,pgs1,hS1,hW1,hc1,hl1,hq1,hr1⟩:=HP.out;obtain⟨x,hx⟩:∃x,x=pa[j]:=⟨_,rfl⟩;obtain⟨qb,qoff,hqa,hc⟩:=hr1.elem hj (zA.refl _ _);have e0:=hc 0 (.string x.1) (by rw[hx];rfl);have e1:=hc 1 (.string x.2) (by rw[hx];rfl);simp only[uO] at e0;have HXM:Hid (x∈pa):=oh (by rw[hx];exact wH hj);have u1:IntKind.i64.wrap ((k:Int) * 7)=(k:Int) * 7:=IntWalk.i64_in _ (by omega);have i1:(0:Int)<=(j:Int):=by omega
   have i2:(j:Int)<(pa.length:Int):=by omega
   have i3:(k:Int)<(pa.length:Int):=by omega
   have i4:¬ (pa.length:Int)=0:=by omega
   subst hqa;obtain⟨key,v⟩:=x;simp only at e0 e1;have HOKX:Hid (qC key=true/\v.size<=200):=oh ⟨(HT.out.ok _ HXM.out).1,HT.out.small _ HXM.out⟩;have b0:=zH hS1.c0 (.cells #[.string key,.string v] 25);have b1:=zH hS1.c1 (.cells #[.string key,.string v] 25);have b2:=zH (show _=some (Value.int .u64 5) from hS1.c2) (.cells #[.string key,.string v] 25);have hS3:=hS1.ext ((zA.refl _ wr).alloc (.cells #[.string key,.string v] 25));have HS3:=oh hS3;have HR3:=oh (hr1.ext ((zA.refl _ wr).alloc (.cells #[.string key,.string v] 25)));obtain⟨G2,l2,root2,d2,pgs2,hpr,hlw2,hco2,hr2⟩:=hW1.fits (key:=key) (v:=v) (by omega) HOKX.out.1 (by have:=HOKX.out.2;omega);have HPT:=zLs (v:=v) (gen:=5) (w:=wr.alloc (.cells #[.string key,.string v] 25)) HS3.out.env HS3.out.sub HS3.out.pg (by omega) hW1.ctx hW1.td hW1.use HOKX.out.1 (by have:=HOKX.out.2;omega) (by omega);rw[hpr,zIY] at HPT;have HPT:=oh HPT;have HLW2:=oh hlw2;have HCO2:Hid (G2.cost<=61 * (k+1)):=oh (by omega);have HLN2:Hid ((qL key v true ps1).length<=k+1):=oh (by have:=zGE key v true ps1;omega);have HQ2:Hid (∀x∈qL key v true ps1,qC x.1=true/\x.2.size<=200):=oh (λx hx=>by
    rcases zDE hx with rfl|hx
    .exact HOKX.out
    .exact hq1 x hx)
   have HLT:=oh hlt;clear hS1 hW1 hc1 hl1 hq1 hr1 hc hx hS3 hpr hlw2 hco2 hr2 hj hlt hk;go_wp2_with fail;refine HPT.out.mono ?_;rintro e w4 ⟨P4,F4,G4,l4,hG4,hN4,⟨i4',nw4,hr4,rfl⟩|⟨k4,f4,el4,hr4,_⟩⟩
   .simp only[Sum.inl.injEq,Prod.mk.injEq] at hr4;obtain⟨rfl,rfl,rfl,rfl⟩:=hr4;have HS4:=oh (HS3.out.step hN4 hG4);have HSB4:=oh (hN4.sl HS3.out.sub HR3.out);clear hG4;clear hN4;go_wp2_with fail;go_roundg (gk-1)
    case measure=>have:=HLT.out;have:=HKM.out;omega
    case rel=>exact⟨k+1,root2,by have:=HLT.out;have:=HKM.out;omega,rfl,by go_num,oh ⟨P4,F4,G2,l2,d2,qL key v true ps1,pgs2,HS4.out,HLW2.out,HCO2.out,HLN2.out,HQ2.out,HSB4.out⟩⟩
   .cases hr4
  .have hkq:k=pa.length:=by omega
   obtain⟨P1,F1,G1,l1,d1,ps,pgs1,hS1,hW1,hc1,hl1,hq1, -⟩:=HP.out;have hln:ps.length<=24:=by omega
   obtain⟨G3,l3,root3,d3,pgs3,hcp⟩:=zPH hW1.ctx hW1.td hW1.size hW1.blk hW1.lay (by have:=hW1.room;omega) (λx hx=>⟨(hq1 x hx).1,by have:=(hq1 x hx).2;omega⟩) (by omega) (λx hx=>by have:=(hq1 x hx).2;omega);have HCP:=oh hcp;have HTD:=oh hW1.td;have HFW:=oh (zQS hW1.td hW1.size);have HZ1:Hid (256<=G1.size/\G1.blocks<=256):=oh ⟨by rw[hW1.size];exact uJ _,by rw[hW1.blk];omega⟩;have HZ3:Hid (256<=G3.size/\G3.blocks<=256):=oh ⟨by rw[hcp.size];exact uJ _,by rw[hcp.blk];omega⟩;have HLN:=oh hln;have HPO:Hid (zA6 ps):=oh (λx hx=>⟨(hq1 x hx).1,by have:=(hq1 x hx).2;omega⟩);have HC1:Hid (G1.cost<=1500):=oh (by omega);have t0:=hS1.c0;have t1:=hS1.c1;have t2:_=some (Value.int .u64 5):=hS1.c2;have HDU:=zEl hS1.env hS1.sub hS1.pg 5 hW1.td HZ1.out.1 HZ1.out.2 (by omega);rw[zIY] at HDU;have HDU:=oh HDU;have HS1:=oh hS1;have HXE:=oh hS1.ext0;clear hS1 hW1 hc1 hl1 hq1 hcp hln hkq hk HP;go_wp2_with fail;refine HDU.out.mono ?_;rintro e w5 ⟨P5,F5,hG5,hN5,gv,rfl,hgv⟩;have hS5:=HS1.out.step hN5 hG5;have t0:=hS5.c0;have t1:=hS5.c1;have t2:_=some (Value.int .u64 5):=hS5.c2;have HLV:=zGv hS5.env hS5.sub hS5.pg 5 HTD.out HZ1.out.2;rw[zIY] at HLV;have HLV:=oh HLV;have HS5:=oh hS5;have HGV:=oh hgv;clear hG5 hN5 hS5 hgv;go_wp2_with fail;refine HLV.out.mono ?_;rintro e w6 ⟨P6,F6,hG6,hN6,nv,rfl,hnv⟩;have hS6:=HS5.out.step hN6 hG6;have t0:=hS6.c0;have t1:=hS6.c1;have t2:_=some (Value.int .u64 5):=hS6.c2;have HCM:=zL3 hS6.env hS6.sub hS6.pg 5 (by omega) HTD.out HZ1.out.1 HZ1.out.2 (by have:=HLN.out;omega) HCP.out.ok HCP.out.ctx HTD.out.sorted HPO.out (by rw[HCP.out.cost];have:=HC1.out;omega) HCP.out.ld;rw[zIY] at HCM;have HCM:=oh HCM;have HS6:=oh hS6;have HGV:=oh (hN6.sl HS5.out.sub HGV.out);obtain⟨n1,hn1⟩:∃n1,n1=((yK G1 d1 root).map (λn:Nat=>(n:Int))).length:=⟨_,rfl⟩;have HN1L:Hid (n1=(yK G1 d1 root).length):=oh (by rw[hn1,uU]);obtain⟨na,nc,rfl, -, -, -, -⟩:=hnv;rw[<- hn1];clear hG6 hN6 hS6 hn1;go_wp2_with fail;refine HCM.out.mono ?_;rintro e w7 ⟨P7,F7,hG7,hN7,rfl⟩;have hS7:=HS6.out.step hN7 hG7;have t0:=hS7.c0;have t1:=hS7.c1;have t2:_=some (Value.int .u64 5):=hS7.c2;have HDU:=zEl hS7.env hS7.sub hS7.pg 5 HCP.out.td HZ3.out.1 HZ3.out.2 (by have:=HLN.out;omega);rw[zIY] at HDU;have HDU:=oh HDU;have HS7:=oh hS7;have HGV:=oh (hN7.sl HS6.out.sub HGV.out);clear hG7 hN7 hS7;go_wp2_with fail;refine HDU.out.mono ?_;rintro e w8 ⟨P8,F8,hG8,hN8,hv,rfl,hhv⟩;have hS8:=HS7.out.step hN8 hG8;have t0:=hS8.c0;have t1:=hS8.c1;have t2:_=some (Value.int .u64 5):=hS8.c2;have HLV:=zGv hS8.env hS8.sub hS8.pg 5 HCP.out.td HZ3.out.2;rw[zIY,HCP.out.leafs] at HLV;have HLV:=oh HLV;have HS8:=oh hS8;have HGV:=oh (hN8.sl HS7.out.sub HGV.out);have HHV:=oh hhv;clear hG8 hN8 hS8 hhv;go_wp2_with fail;refine HLV.out.mono ?_;rintro e w9 ⟨P9,F9,hG9,hN9,mv2,rfl,hmv⟩;have hS9:=HS8.out.step hN9 hG9;have t0:=hS9.c0;have t1:=hS9.c1;have t2:_=some (Value.int .u64 5):=hS9.c2;have HWK:=zJS hS9.env hS9.sub hS9.pg 5 HCP.out.td (uJ _) HZ3.out.1 HZ3.out.2;rw[zIY] at HWK;have HWK:=oh HWK;have HS9:=oh hS9;have HGV:=oh (hN9.sl HS8.out.sub HGV.out);have HHV:=oh (hN9.sl HS8.out.sub HHV.out);obtain⟨n2,hn2⟩:∃n2,n2=((zB6 232 (zFO ps)).map (λn:Nat=>(n:Int))).length:=⟨_,rfl⟩;have hle:n2<=n1:=by rw[hn2,uU,HN1L.out];exact HFW.out
   have hlei:(n2:Int)<=(n1:Int):=by omega
   obtain⟨ma',mc',rfl, -, -, -, -⟩:=hmv;rw[<- hn2];have hled:decide ((n2:Int)<=(n1:Int))=true:=wC hlei;clear hG9 hN9 hS9 hn2 hle;go_wp2_with fail;refine HWK.out.mono ?_;rintro e wA ⟨PA,FA,hGA,hNA,kpv,kkv,rfl,hsp,hsk⟩;have hSA:=HS9.out.step hNA hGA;have HGV:=oh (hNA.sl HS9.out.sub HGV.out);have HHV:=oh (hNA.sl HS9.out.sub HHV.out);have HSP:=oh hsp;obtain⟨ra,rc,rfl, -, -, -, -⟩:=hsp;obtain⟨ka,kc,rfl, -, -, -, -⟩:=hsk;simp only at HSP ⊢;obtain⟨np,hnp⟩:∃np,np=(iL pgs3).length:=⟨_,rfl⟩;obtain⟨nk,hnk⟩:∃nk,nk=(ps.map (·.1)).length:=⟨_,rfl⟩;rw[<- hnp] at HSP ⊢;rw[<- hnk];obtain⟨wB,hwB⟩:∃wB,wB=wA.alloc (.cells #[.slice ra np rc,.slice ka nk kc,.int .i64 (d3:Int)] 52):=⟨_,rfl⟩;have mB:zJ wA wB:=by rw[hwB];exact (zA.refl _ wA).alloc _
   have hRB:zL wB wA.heap.size #[.slice ra np rc,.slice ka nk kc,.int .i64 (d3:Int)] 52:=by rw[hwB];exact zL.new wA _ _
   have hSB:=hSA.ext mB;have HSB:=oh hSB;have HGV:=oh (HGV.out.ext mB);have HHV:=oh (HHV.out.ext mB);have HSP:=oh (HSP.out.ext mB);have hd:=(zA.refl (λ_=>False) wB).drew;have HFB:=oh (λk (hk:FA k)=>HSB.out.env.lt k hk);have HSM:=oh (zL1 (w:=wB.drew) ps hv gv (HHV.out.ext hd) (HGV.out.ext hd) (by have:=HLN.out;omega));have HUS:=oh (λW (hm:zJ wB.drew W)=>zRU (w:=W) ((HSB.out.pg.at hd).at hm));rw[zQG (n:=250) (HCP.out.ctx'.len.trans HCP.out.blk) HCP.out.lay] at HUS;have HU13:=oh (λW (hm:zJ wB.drew W)=>zMW (w:=W) (iL pgs3) (.slice ra np rc) ((HSP.out.ext hd).ext hm) 250 (by omega));rw[show ((250:Nat):Int)=250 from rfl] at HU13;have HSI2:=oh (λ(W1 W2 W3:World) (u1 u2:Value) (hm1:zJ wB.drew W1) (hO1:zU (λ_=>False) W2 W1.heap.size 3 1 yB u1 (zBe (iL pgs3) 250)) (hm2:zJ W2 W3) (hO2:zU (λ_=>False) W3 W2.heap.size 3 1 yB u2 (zBe (iL pgs3) 250)) (hm3:zJ W1 W2)=>zPP (F:=FA) (G:=FA) (w:=W3) u1 u2 (zBe (iL pgs3) 250) ((hO1.slF (λk hk=>uH (HFB.out k hk) hm1.size) yG.len (by have:=zGG (iL pgs3) 250;omega)).ext hm2) (hO2.slF (λk hk=>uH (HFB.out k hk) (uM hm1.size hm3.size)) yG.len (by have:=zGG (iL pgs3) 250;omega)));have HAW:=oh (λW (hm:zJ wB.drew W)=>zL2 (w:=W) (((HL.out.mods HSB.out.ext0.ext).mods hd.ext).mods hm.ext));have HXX:=oh (HSB.out.ext0.trans hd);have b1:=hSB.c1;have r0:=hRB.cell (o:=0) (v:=.slice ra np rc) rfl;have HWBB:=oh hwB;clear hGA hNA hSA hSB hRB mB hd hnp hnk hwB t0 t1 t2;go_wp2_with fail;rw[<- HWBB.out];go_region_held3 (λw'=>w'.cell? ⟨w1.heap.size,1,none⟩=some (.pointer (some ⟨s,0,none⟩))/\w'.cell? ⟨wA.heap.size,0,none⟩=some (.slice ra np rc))
    (first|(with_reducible exact⟨b1,r0⟩)|(with_reducible exact⟨x1,x3⟩)|(with_reducible exact⟨a1,a3⟩)|(with_reducible exact⟨e1,e3⟩)|(with_reducible exact⟨f1,f3⟩)|(with_reducible exact⟨g1,g3⟩)|go_keep)
    (first
     | (go_at_call 21;(with_reducible refine (HSM.out).mono ?_);rintro x w11 ⟨rfl,hm11⟩;have x1:=zC (w:=wB.drew) hm11 b1;have x3:=zC (w:=wB.drew) hm11 r0)
     | (go_at_call 24;(with_reducible refine (HUS.out _ hm11).mono ?_);rintro x w14 ⟨u14,rfl,hO14,hm14⟩;have a1:=zC hm14 x1;have a3:=zC hm14 x3)
     | (go_at_call 25;(with_reducible refine (HU13.out _ (hm11.trans hm14)).mono ?_);rintro x w15 ⟨u15,rfl,hO15,hm15⟩;have e1:=zC hm15 a1;have e3:=zC hm15 a3)
     | (go_at_call 22;(with_reducible refine (HSI2.out _ _ _ _ _ hm11 hO14 hm15 hO15 hm14).mono ?_);rintro x w16 ⟨rfl,hm16⟩;have f1:=zC hm16 e1;have f3:=zC hm16 e3)
     | (go_at_call 9;(with_reducible refine (HAW.out _ (((hm11.trans hm14).trans hm15).trans hm16)).mono ?_);rintro x w17 ⟨rfl,hm17⟩;have g1:=zC hm17 f1;have g3:=zC hm17 f3)
     | fail)
   go_wp2_with fail;go_ret;exact⟨rfl,((((HXX.out.trans hm11).trans hm14).trans hm15).trans hm16).trans hm17⟩
end Go.Proofs.YtchklfmggpconaaGreatDoor
