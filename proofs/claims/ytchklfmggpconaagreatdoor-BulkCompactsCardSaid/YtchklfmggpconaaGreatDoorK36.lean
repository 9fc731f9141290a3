import Derived.Test.YtchklfmggpconaaGreatDoorK35
import Derived.Deep.RegionHeld3
namespace Go.Proofs.YtchklfmggpconaaGreatDoor
open Lib renaming hid->oh
set_option maxHeartbeats 8000000
set_option maxRecDepth 100000
section
open Go.RowKit
theorem zCK(gen:Nat):∀(a b:List PtA) (G:GA) (l:List Nat) {G':GA} {l':List Nat} {ks:List jQ},vB gen G l (a++b)=.inl (G',l',ks) ->
  ∃G1 l1 ks1 ks2,vB gen G l a=.inl (G1,l1,ks1)/\vB gen G1 l1 b=.inl (G',l',ks2)/\ks=ks1++ks2
 | [],b,G,l,G',l',ks,h=>⟨G,l,[],ks,rfl,h,rfl⟩
 | x :: a,b,G,l,G',l',ks,h=>by
  rw[wN,vB] at h;cases hd:qW G l 0 x.1 with
  | none=>rw[hd] at h;cases h
  | some i =>
   rw[hd] at h;simp only at h;cases hr:vB gen (yD G l gen 0 x.1) (yO G l 0 x.1) (a++b) with
   | inr k=>rw[hr] at h;cases h
   | inl y =>
    obtain⟨G2,l2,ks0⟩:=y;rw[hr] at h;injection h with h;injection h with h1 h2;injection h2 with h2 h3;subst h1 h2 h3;obtain⟨G1,l1,ks1,ks2,e1,e2,rfl⟩:=zCK gen a b _ _ hr;exact⟨G1,l1,(i,x.2) :: ks1,ks2,by rw[vB,hd];simp only;rw[e1],e2,rfl⟩
theorem zGR{gen:Nat}{G:GA}{l:List Nat}{x:PtA}{G':GA}{l':List Nat}{ks:List jQ}(h:vB gen G l [x]=.inl (G',l',ks)):∃i,qW G l 0 x.1=some i/\G'=yD G l gen 0 x.1/\l'=yO G l 0 x.1/\ks=[(i,x.2)]:=by
 rw[vB] at h;cases hd:qW G l 0 x.1 with
 | none=>rw[hd] at h;cases h
 | some i =>
  rw[hd] at h;simp only[vB] at h;injection h with h;injection h with h1 h2;injection h2 with h2 h3;exact⟨i,rfl,h1.symm,h2.symm,h3.symm⟩
theorem zPD(G:GA)(l:List Nat)(n:zF):(yO G l 0 n).length=l.length:=by
 unfold yO zAI;split
 .rw[if_pos rfl];unfold zAs;split <;> simp
 .rfl
theorem zDQ(gen:Nat):∀(a:List PtA) (G:GA) (l:List Nat) {G':GA} {l':List Nat} {ks:List jQ},vB gen G l a=.inl (G',l',ks)->G'.size=G.size/\G'.blocks=G.blocks/\l'.length=l.length/\G'.cost<=G.cost+a.length/\ks.length=a.length
 | [],G,l,G',l',ks,h=>by
  injection h with h;injection h with h1 h2;injection h2 with h2 h3;subst h1 h2 h3;exact⟨rfl,rfl,rfl,uJ _,rfl⟩
 | x :: a,G,l,G',l',ks,h=>by
  obtain⟨G1,l1,ks1,ks2,e1,e2,rfl⟩:=zCK gen [x] a G l h;obtain⟨i,_,rfl,rfl,rfl⟩:=zGR e1;obtain⟨h1,h2,h3,h4,h5⟩:=zDQ gen a _ _ e2;obtain⟨g1,g2,g3⟩:=zFL G l gen 0 x.1;refine⟨h1.trans g1,h2.trans g2,h3.trans (zPD G l x.1),?_,?_⟩
  .simp only[uD];omega
  .simp only[uD,uC,uE,h5];omega
end
section
open Go.RowKit
attribute [local go_sem ↓] Go.wp_at_zero Go.wp_at_succ
structure zGS(F:Nat->Prop)(w:World)(v:Value)(xs:List PtV)(L:List PtA):Prop where
 row:Sl F w 5 zCT v xs
 len:xs.length=L.length
 at_:∀(i:Nat) (x:PtV) (n:PtA),xs[i]? = some x->L[i]? = some n->x.lf=n.1.leaf/\x.s=n.2/\Sl F w 4 vA (zW x.e) n.1.entries/\Sl F w 1 qK (zW x.k) n.1.keys/\Sl F w 1 yB (zW x.i) n.1.kids
theorem Tryz.mkKd:(Tryz.prog.info? 151).map (λi=>(i.zero,i.size,i.bytes))=some (some (.agg #[.int .i64 0,.string ⟨#[]⟩]),2,24):=by kernel_rfl
theorem Tryz.elKd:ElT Tryz.prog 144 151 (.agg #[.int .i64 0,.string ⟨#[]⟩]) 2 24:=⟨Tryz.underlying144,Tryz.mkKd,rfl,by decide,by decide⟩
section
variable {P P' F F':Nat->Prop}{ad:Nat->Addr}{w w':World}{c s:Nat}{G G':GA}{l l':List Nat}{b0:Nat}{v:Value}{xs:List PtV}{L:List PtA}
theorem zB1.sl(h:zB1 w b0 v xs L)(hF:∀k,F k->k<b0)(hok:∀n∈L,zEm n)(hl:L.length<=100000):zGS F w v xs L :=
 ⟨h.row.slF hF jG.len (by rw[h.len];omega),h.len,λi x n h1 h2=>by
  have hp:=h.at_ i x n h1 h2;obtain⟨o1,o2,o3,_,_⟩:=hok n (wM h2);exact⟨hp.lf,hp.fst,hp.e.slF hF yU.len (by omega),hp.k.slF hF yV.len (by omega),hp.i.slF hF yG.len (by omega)⟩⟩
theorem zGS.nxt(h:zGS F w v xs L)(n:zR P P' F F' ad w w')(hP:∀k,P k->F k):zGS F' w' v xs L :=
 ⟨n.sl hP h.row,h.len,λi x m h1 h2=>by
  obtain⟨a,b,c,d,e⟩:=h.at_ i x m h1 h2;exact⟨a,b,n.sl hP c,n.sl hP d,n.sl hP e⟩⟩
theorem zGS.ext(h:zGS F w v xs L)(m:zJ w w'):zGS F w' v xs L :=
 ⟨h.row.ext m,h.len,λi x q h1 h2=>by
  obtain⟨a,b,c,d,e⟩:=h.at_ i x q h1 h2;exact⟨a,b,c.ext m,d.ext m,e.ext m⟩⟩
theorem zGS.step(h:zGS F w v xs L)(m:zA F w w')(hG:∀k,k<w.heap.size->¬ F k->¬ F' k):zGS F' w' v xs L :=
 ⟨h.row.step m hG,h.len,λi x q h1 h2=>by
  obtain⟨a,b,c,d,e⟩:=h.at_ i x q h1 h2;exact⟨a,b,c.step m hG,d.step m hG,e.step m hG⟩⟩
def DnS(F P:Nat->Prop)(ad:Nat->Addr)(w wr:World)(X c s gen:Nat)(v:Value)(xs:List PtV)(L:List PtA)(G1:GA)(l1:List Nat)(kv:Value)(ks:List jQ):Prop :=
 ∃(P1 F1:Nat->Prop),yS F1 wr P1 c s G1 l1/\zR P P1 F F1 ad w wr/\zGS F1 wr v xs L/\zL wr X (gP c s gen) 31 /\ ¬ P1 X/\zBI w F1 P1 wr 151 2 zEO kv ks
theorem zH2(hL:yW F ad w)(hP:∀k,P k->F k)(h:yS F w P c s G l)(gen:Nat)(hgen:gen<18446744073709551616)(hll:l.length<=G.blocks)(v:Value)(xs:List PtV)(L:List PtA)(hv:zGS F w v xs L)(hok:∀n∈L,zEm n)(hlen:L.length<=100000)(hco:G.cost+L.length<1000000)(ks:List jQ)(hd:vB gen G l L=.inl (G',l',ks)) :
  Calls Tryz.prog 67 #[qR c s gen,v] w (jL F P ad w c s G' l' (λF' w' e=>∃kv,e=.returned (.tuple #[kv,.nilIface])/\Sl F' w' 2 zEO kv ks)):=by
 obtain⟨X,hX⟩:∃X,X=w.heap.size:=⟨_,rfl⟩;obtain⟨w0,hw0⟩:∃w0,w0=w.alloc (gP c s gen):=⟨_,rfl⟩;have m0:zJ w w0:=by rw[hw0];exact (zA.refl _ w).alloc _
 have hN:=zR.ext hL hP m0;have hBX:zL w0 X (gP c s gen) 31:=by rw[hw0,hX];exact zL.new w _ _
 have HS0:Hid (DnS F P ad w w0 X c s gen v xs L G l (.slice none 0 0) []):=oh ⟨P,F,h.at m0,hN,hv.ext m0,hBX,λhp=>by have:=h.bd _ hp;omega,zBI.nil _ _ _ _ _ _ _⟩;have HD:=oh hd;have HOK:=oh hok;have HXX:=oh hX;have HW0:=oh hw0;have HLL:=oh hll;have HCO:=oh hco;have HXL:=oh hv.len;have HEV:=oh hL;obtain⟨va,vc,rfl,v1,v2,v3, -⟩:=hv.row;unfold maxLen at v2;clear hL hP h m0 hN hBX hd hok hX hw0 hll hco hv;unfold qR
 go_enter Tryz.func67, Tryz.ntmps67
 go_wp2_with fail;rw[<- HW0.out,<- HXX.out];go_loopg [6,13] xs.length (λm v6 v13 wr=>∃(k:Nat) (G1:GA) (l1:List Nat) (ks1:List jQ) (kv:Value),k+m=xs.length/\kv=v6/\v13=.int .i64 (k:Int)/\Hid (vB gen G l (L.take k)=.inl (G1,l1,ks1))/\Hid (DnS F P ad w wr X c s gen (.slice va xs.length vc) xs L G1 l1 kv ks1))
 case atStart=>exact⟨0,G,l,[],_,by omega,rfl,rfl,oh rfl,HS0⟩
 case round =>
  obtain⟨k,G1,l1,ks1,kv,hkm,rfl,rfl,HD1,HS⟩:=hrel;by_cases hlt:k<xs.length
  .obtain⟨P1,F1,hG1,hN1,hS1,hB1,hPX,hLR⟩:=HS.out;have hltL:k<L.length:=by have:=HXL.out;omega
   obtain⟨x,hx⟩:∃x,xs[k]? = some x:=⟨_,uA hlt⟩;obtain⟨n,hn⟩:∃n,L[k]? = some n:=⟨_,uA hltL⟩;obtain⟨hlf,hfs,hse,hsk,hsi⟩:=hS1.at_ k x n hx hn;obtain⟨qb,qoff,hqa,hqF,hc⟩:=hS1.row.elemF hlt;have hxk:xs[k]=x:=by rw[uA hlt] at hx;injection hx
   rw[hxk] at hc;have d0:=hc 0 (.bool x.lf) rfl;have d1:=hc 1 (zW x.e) rfl;have d2:=hc 2 (zW x.k) rfl;have d3:=hc 3 (zW x.i) rfl;have d4:=hc 4 (.string x.s) rfl;simp only[uO] at d0;subst hqa;obtain⟨kva,kvc,rfl,kv1,kv2⟩:=hLR.1.form;obtain⟨b,hb⟩:∃b,b=wr.heap.size:=⟨_,rfl⟩;obtain⟨wq,hwq⟩:∃wq,wq=wr.alloc (.cells #[.bool x.lf,zW x.e,zW x.k,zW x.i,.string x.s] 197):=⟨_,rfl⟩;have hrq:zJ wr wq:=by rw[hwq];exact (zA.refl _ _).alloc _
   have hbq:zL wq b #[.bool x.lf,zW x.e,zW x.k,zW x.i,.string x.s] 197:=by rw[hwq,hb];exact zL.new wr _ _
   have hnb:¬ P1 b:=λhp=>by have:=hN1.env.lt b (hN1.sub b hp);omega
   have b0':=(hB1.ext hrq).cell (o:=0) (v:=.pointer (some ⟨c,0,none⟩)) rfl;have b1':=(hB1.ext hrq).cell (o:=1) (v:=.pointer (some ⟨s,0,none⟩)) rfl;have b2':=(hB1.ext hrq).cell (o:=2) (v:=.int .u64 (gen:Int)) rfl;rw[hwq] at b0' b1' b2';have hst:L.take (k+1)++L.drop (k+1)=L:=uZ _ _;have htk:L.take (k+1)=L.take k++[n]:=yJ L k n hn;obtain⟨G2,l2,ka,kb,t1,t2,t3⟩:=zCK gen (L.take (k+1)) (L.drop (k+1)) G l (by rw[hst];exact HD.out);rw[htk] at t1;obtain⟨G3,l3,kc,kd,u1,u2,u3⟩:=zCK gen (L.take k) [n] G l t1;rw[HD1.out] at u1;injection u1 with u1;injection u1 with u1 u4;injection u4 with u4 u5;subst u1 u4 u5;obtain⟨i,i1,i2,i3,i4⟩:=zGR u2;have HDN:Hid (vB gen G l (L.take (k+1))=.inl (G2,l2,ks1++[(i,n.2)])):=oh (by rw[htk,t1,u3,i4]);obtain⟨g1,g2,g3,g4,g5⟩:=zDQ gen (L.take k) G l HD1.out;have hko:=HOK.out n (wM hn);have HKL:Hid (ks1.length<=100000):=oh (by rw[g5,uP];omega);have HDA:=zEF (hN1.env.mods hrq.ext) hN1.sub (hG1.at hrq) gen 0 hgen n.1 (zW x.e) (zW x.k) (zW x.i) (hse.ext hrq) (hsk.ext hrq) (hsi.ext hrq) (λhr=>by have:=vW (qD hr);have:=hko.2.2.2.1;omega) (.inl rfl) (.inl rfl) (by omega) (by rw[g3,g2];exact HLL.out) (by have:=HCO.out;rw[uP] at g4;omega);rw[<- i2,<- i3,i1,<- hlf] at HDA;unfold qR at HDA;rw[show ((0:Nat):Int)=0 from rfl] at HDA;have HDA:=oh HDA;have HNQ:=oh (hN1.trans (zR.ext hN1.env hN1.sub hrq));have HSQ:=oh (hS1.ext hrq);have HBQ:=oh (hB1.ext hrq);have HEQ:=oh hbq;have HNB:=oh (And.intro hPX hnb);have HLQ:=oh (hLR.ext hrq);have HWQ:=oh hwq;have HBB:=oh hb;have HFS:Hid (x.s=n.2):=oh hfs;have z1:(0:Int)<=(k:Int):=by omega
   have z2:(k:Int)<(xs.length:Int):=by omega
   clear hG1 hN1 hS1 hB1 hPX hLR hx hn hse hsk hsi hc hxk hrq hbq hnb hwq hb hst htk t1 t2 t3 u2 u3 i1 i2 i3 i4 g1 g2 g3 g4 g5 hko hqF hltL hlf hfs;go_wp2_with fail;rw[<- HWQ.out,<- HBB.out];refine HDA.out.mono ?_;rintro en w4 ⟨P4,F4,hG4,hN4,⟨i4,h4,rfl⟩|⟨h4,_⟩⟩
   .injection h4 with h4;subst h4;have hB4:=hN4.blk HEQ.out HNB.out.2;have f4:=hB4.cell (o:=4) (v:=.string x.s) rfl;have HG4:=oh hG4;have HN4:=oh (HNQ.out.trans hN4);have HS4:=oh (HSQ.out.nxt hN4 HNQ.out.sub);have HB4:=oh (hN4.blk HBQ.out HNB.out.1);have HP4:=oh (hN4.not HBQ.out.lt HNB.out.1);have HL4:=oh (HLQ.out.nxt hN4);have hl4:zL (w4.alloc (.cells #[.int .i64 (i:Int),.string x.s] 151)) w4.heap.size #[.int .i64 (i:Int),.string x.s] 151:=zL.new w4 _ _;have HLB:=oh hl4;have HMA:Hid (zJ w4 (w4.alloc (.cells #[.int .i64 (i:Int),.string x.s] 151))):=oh ((zA.refl _ w4).alloc _);clear hG4 hN4 hB4 hl4;go_wp2_with (at_builtin;refine yH Tryz.elKd zLb rfl _ _ rfl w.heap.size _ _ ks1 [(i,x.s)] rfl rfl (HL4.out.1.ext HMA.out) (Sl.one (F:=λ_=>False) (x:=((i,x.s):jQ)) (enc:=zEO) (sz:=2) HLB.out (λf=>f)) (by have:=HKL.out;simp only[uD,uE];omega) (by have:=HN4.out.size;have:=HMA.out.size;omega) (λf=>f) ?_;simp only[uD,uE,uR];intro a6 c6 w6 hO6 hm6 hat6);have hN5:=HN4.out.trans (zR.ext HN4.out.env HN4.out.sub HMA.out);have happ:=(HL4.out.ext HMA.out).app hN5 (by simpa using hO6) hm6 hat6 (uJ _);have HS6:Hid (DnS F P ad w w6 X c s gen (.slice (some ⟨qb,qoff,none⟩) xs.length vc) xs L G2 l2 (.slice a6 (ks1.length+1) c6) (ks1++[(i,n.2)])):=oh ⟨P4,zAA F4 (.slice a6 (ks1.length+1) c6),(HG4.out.at HMA.out).app (HL4.out.ext HMA.out) hm6 hat6 (uJ _),happ.1,by
      refine (HS4.out.ext HMA.out).step (hm6.mono (λk hk=>(HL4.out.2 k hk).1)) (λk hk hn hf=>?_);rcases hf with hf|hf
      .exact hn hf
      .rcases hat6 with e|e
       .exact hn (HL4.out.2 k (e ▸ hf)).1
       .rw[e] at hf;injection hf with hf;omega,(HB4.out.ext HMA.out).mods hm6 (λhk=>(HL4.out.1.ext HMA.out).notB (HB4.out.ext HMA.out) (by decide) _ hk rfl),HP4.out,by rw[<- HFS.out];exact happ.2⟩
    clear hO6 hm6 hat6 hN5 happ;go_wp2_with fail;go_roundg (gk-1)
    case measure=>omega
    case rel=>exact⟨k+1,G2,l2,ks1++[(i,n.2)],_,by omega,rfl,by go_num,HDN,HS6⟩
   .cases h4
  .have hk:k=xs.length:=by omega
   obtain⟨P1,F1,hG1,hN1,hS1,hB1,hPX,hLR⟩:=HS.out;have hall:L.take k=L:=by rw[hk,HXL.out,wU]
   have he:=HD1.out;rw[hall,HD.out] at he;injection he with he;injection he with e1 e2;injection e2 with e2 e3;subst e1 e2 e3;have hkl:=(zDQ gen L G l HD.out).2.2.2.2;have HFIN:Hid (yS F1 wr P1 c s G' l'/\zR P P1 F F1 ad w wr/\zU (λ_=>False) wr w.heap.size 151 2 zEO kv ks/\(∀g,kv.ownBlock=some g->F1 g/\¬ P1 g)):=oh ⟨hG1,hN1,hLR.1,hLR.2⟩;have HKL:Hid (ks.length<=100000):=oh (by omega);clear hG1 hN1 hS1 hB1 hPX hLR hall hkl;go_wp2_with fail;refine bodyPost_ret (v:=.tuple #[kv,.nilIface]) (by simp[results,Tryz.results67,go_sem]) rfl ?_;obtain⟨q1,q2,q3,q4⟩:=HFIN.out;exact⟨P1,λk=>F k\/P1 k,q1.anti (λk hk=>hk.elim (q2.grow k) (q2.sub k)),q2.least,kv,rfl,zU.sl (F:=λk=>F k\/P1 k) ⟨q3.1,λg hg hf=>hf.elim (λhf=>by have h1:=(q3.lt g hg).1;have h2:=HEV.out.lt g hf;omega) (λhp=>(q4 g hg).2 hp)⟩ zLb.len (by have:=HKL.out;omega)⟩
end
section
variable {P P' F F':Nat->Prop}{ad:Nat->Addr}{w w':World}{c s:Nat}{G:GA}{l:List Nat}
theorem zLc(gen:Nat)(key v:ByteArray)(hv:v.size<=24) :
  Calls Tryz.prog 66 #[qR c s gen,.agg #[.string key,.string v]] w λe w'=>e=.returned (.tuple #[.agg #[.string key,.string v,.int .i64 0,.int .i64 0],.nilIface])/\zJ w w':=by
 have hv2:(v.size:Int)<=24:=by omega
 have HB:Hid (zL (((w.alloc (gP c s gen)).alloc (.cells #[.string key,.string v] 25)).alloc (.cells #[.string key,.string v,.int .i64 0,.int .i64 0] 141)) (w.heap.size+1+1) #[.string key,.string v,.int .i64 0,.int .i64 0] 141):=oh (zK (by simp));have HM:Hid (zJ w (((w.alloc (gP c s gen)).alloc (.cells #[.string key,.string v] 25)).alloc (.cells #[.string key,.string v,.int .i64 0,.int .i64 0] 141))):=oh ((((zA.refl _ w).alloc _).alloc _).alloc _);clear hv;unfold qR
 go_enter Tryz.func66, Tryz.ntmps66
 go_wp2_with fail;refine bodyPost_ret (zG rfl _ _ (w.heap.size+1+1) 141 _ _ rfl HB.out Tryz.underlying141 rfl Tryz.entSz) rfl ?_;exact⟨rfl,HM.out⟩
theorem zLd(hL:yW F ad w)(hP:∀k,P k->F k)(h:yS F w P c s G l)(gen:Nat)(hgen:gen<18446744073709551616)(key v:ByteArray)(h25:25<=v.size)(h4096:v.size<=4096)(hlow:zGK l)(hlb:l.length=G.blocks)(hco:G.cost+100<=1000000) :
  Calls Tryz.prog 66 #[qR c s gen,.agg #[.string key,.string v]] w (zQ2 F P ad w c s G l (jF G l gen key v)):=by
 obtain⟨w1,hw1⟩:∃w1,w1=((w.alloc (gP c s gen)).alloc (.cells #[.string key,.string v] 25)).alloc (.cells zNp 141):=⟨_,rfl⟩;have m0:zJ w w1:=by rw[hw1];exact (((zA.refl _ w).alloc _).alloc _).alloc _
 have hz:w1.heap.size=w.heap.size+3:=by rw[hw1];simp
 have hN:zR P P F (λk=>F k\/(w.heap.size<=k/\k<w1.heap.size)) ad w w1:=zR.new hL hP (Q:=λk=>w.heap.size<=k/\k<w1.heap.size) m0 (λk hk=>hk.1) (λk hk=>hk.2);have HR:=oh (show jN (λk=>F k\/(w.heap.size<=k/\k<w1.heap.size)) P w w1 (w.heap.size+1+1) zNp 141 from ⟨by rw[hw1];exact zK (by simp),.inr ⟨by omega,by omega⟩,λhp=>by have:=h.bd _ hp;omega,by omega⟩);have hB:zL w1 w.heap.size (gP c s gen) 31:=by rw[hw1];exact ((zL.new w _ _).alloc _).alloc _
 have hBP:zL w1 (w.heap.size+1) #[.string key,.string v] 25:=by rw[hw1];exact zL.alloc (zK (by simp)) _
 have HBP:=oh hBP;have HNP:Hid (¬ P (w.heap.size+1)):=oh (λhp=>by have:=h.bd _ hp;omega);have q0:=hBP.cell (o:=0) rfl;have q1:=hBP.cell (o:=1) rfl;have HG:=oh (h.plusNew hP (Q:=λk=>w.heap.size<=k/\k<w1.heap.size) m0 (λk hk=>hk.1));have HN:=oh hN;have HWR:=oh (zGi hN.env hN.sub HG.out gen hgen v h25 h4096 hlow.ok hlb hco);have b0:=hB.cell (o:=0) rfl;have b1:=hB.cell (o:=1) rfl;have b2:=hB.cell (o:=2) rfl;have hvi:¬ (v.size:Int)<=24:=by omega
 have HEP:Hid (jF G l gen key v=match zAf (zCP v.size G.size).toNat l with
  | some (ids,l1)=>.inl (zAG gen v.data.toList (G.size-28) ids ids.length G,l1,⟨key,e0,((ids.getD 0 0:Nat):Int),(v.size:Int)⟩)
  | none=>.inr 3):=oh (by unfold jF;rw[if_neg (by omega)];rfl)
 have HW1:=oh hw1;clear hL hP h m0 hN hw1 hB hBP hlow hlb hco;unfold qR at HWR ⊢
 go_enter Tryz.func66, Tryz.ntmps66
 go_wp2_with fail;rw[<- HW1.out];refine HWR.out.mono ?_;rintro e w2 ⟨P2,F2,G2,l2,hG2,hN2,hr⟩;have hR2:=HR.out.nxt hN2;have hq2:=hN2.blk HBP.out HNP.out;have q0:=hq2.cell (o:=0) rfl;have q1:=hq2.cell (o:=1) rfl;have HG2:=oh hG2;have HN2:=oh (HN.out.trans hN2);have r0:=hR2.blk.cell (o:=0) rfl;have r1:=hR2.blk.cell (o:=1) rfl;have r2:=hR2.blk.cell (o:=2) rfl;have r3:=hR2.blk.cell (o:=3) rfl;have rf:=hR2.blk.frozen;have HR2:=oh hR2;clear hG2 hN2 hR2 hq2;rcases hr with ⟨ids,h1,_,_,rfl,rfl⟩|⟨a,f,h1,rfl,rfl,h4,rfl,hE⟩
 .have HS:=oh (HEP.out.trans (by rw[h1]));clear h1;go_wp2_with fail;have mR:=zA.set4 (F:=λk=>k=w.heap.size+1+1) (zA.refl _ w2) (R:=w.heap.size+1+1) (.inr rfl) (.string key) (.string ⟨#[]⟩) (.int .i64 ((ids.getD 0 0:Nat):Int)) (.int .i64 (v.size:Int));have bR:=HR2.out.blk.set4 (.string key) (.string ⟨#[]⟩) (.int .i64 ((ids.getD 0 0:Nat):Int)) (.int .i64 (v.size:Int));refine bodyPost_ret (zG rfl _ _ (w.heap.size+1+1) 141 _ _ rfl bR Tryz.underlying141 rfl Tryz.entSz) rfl ?_;exact⟨P2,F2,_,_,HG2.out.var HR2.out mR,HN2.out.var HR2.out mR,.inl ⟨_,HS.out,rfl⟩⟩
 .have HS:=oh (HEP.out.trans (by rw[h1]));have HFR:=oh (zEI a G _ h4);have HE:=oh hE;clear h1 h4 hE;go_wp2_with fail;have mR:=zA.set4 (F:=λk=>k=w.heap.size+1+1) (zA.refl _ w2) (R:=w.heap.size+1+1) (.inr rfl) (.string key) (.string ⟨#[]⟩) (.int .i64 0) (.int .i64 (v.size:Int));have bR:=HR2.out.blk.set4 (.string key) (.string ⟨#[]⟩) (.int .i64 0) (.int .i64 (v.size:Int));refine bodyPost_ret (zG rfl _ _ (w.heap.size+1+1) 141 _ _ rfl bR Tryz.underlying141 rfl Tryz.entSz) rfl ?_;exact⟨P2,F2,_,_,HG2.out.var HR2.out mR,HN2.out.var HR2.out mR,.inr ⟨3,⟨key,⟨#[]⟩,0,(v.size:Int)⟩,f,_,HS.out,HFR.out,by rw[(zBw a G).2.2.1];exact uJ _,rfl,HE.out.mods (HR2.out.mF mR)⟩⟩
theorem zM7(hL:yW F ad w)(hP:∀k,P k->F k)(h:yS F w P c s G l)(gen:Nat)(hgen:gen<18446744073709551616)(key v:ByteArray)(h4096:v.size<=4096)(hlow:zGK l)(hlb:l.length=G.blocks)(hco:G.cost+100<=1000000) :
  Calls Tryz.prog 66 #[qR c s gen,.agg #[.string key,.string v]] w (zQ2 F P ad w c s G l (jF G l gen key v)):=by
 by_cases h24:v.size<=24
 .refine (zLc gen key v h24).mono ?_;rintro e w' ⟨rfl,hm⟩;have hN:=zR.ext hL hP hm;refine⟨P,F,G,l,h.at hm,hN,.inl ⟨⟨key,v,0,0⟩,?_,rfl⟩⟩;unfold jF;rw[if_pos h24]
 .exact zLd hL hP h gen hgen key v (by omega) h4096 hlow hlb hco
end
end
section
open Go.RowKit
theorem zFQ(gen:Nat):∀(a b:List zE) (G:GA) (l:List Nat) {G':GA} {l':List Nat} {es:List zI},zBB gen G l (a++b)=.inl (G',l',es) ->
  ∃G1 l1 es1 es2,zBB gen G l a=.inl (G1,l1,es1)/\zBB gen G1 l1 b=.inl (G',l',es2)/\es=es1++es2
 | [],b,G,l,G',l',es,h=>⟨G,l,[],es,rfl,h,rfl⟩
 | x :: a,b,G,l,G',l',es,h=>by
  rw[wN,zBB] at h;cases hd:jF G l gen x.1 x.2 with
  | inr k=>rw[hd] at h;cases h
  | inl y =>
   obtain⟨G2,l2,e⟩:=y;rw[hd] at h;simp only at h;cases hr:zBB gen G2 l2 (a++b) with
   | inr k=>rw[hr] at h;cases h
   | inl y =>
    obtain⟨G3,l3,es0⟩:=y;rw[hr] at h;injection h with h;injection h with h1 h2;injection h2 with h2 h3;subst h1 h2 h3;obtain⟨G1,l1,es1,es2,e1,e2,rfl⟩:=zFQ gen a b _ _ hr;exact⟨G1,l1,e :: es1,es2,by rw[zBB,hd];simp only;rw[e1],e2,rfl⟩
theorem zQL{gen:Nat}{G:GA}{l:List Nat}{x:zE}{G':GA}{l':List Nat}{es:List zI}(h:zBB gen G l [x]=.inl (G',l',es)):∃e,jF G l gen x.1 x.2=.inl (G',l',e)/\es=[e]:=by
 rw[zBB] at h;cases hd:jF G l gen x.1 x.2 with
 | inr k=>rw[hd] at h;cases h
 | inl y =>
  obtain⟨G2,l2,e⟩:=y;rw[hd] at h;simp only[zBB] at h;injection h with h;injection h with h1 h2;injection h2 with h2 h3;subst h1 h2 h3;exact⟨e,rfl,rfl⟩
theorem zJH{gen:Nat}{G:GA}{l:List Nat}{ps:List zE}{G':GA}{l':List Nat}{es:List zI}(hc:zAK G l)(hp:∀x∈ps,zCN x)(h:zBB gen G l ps=.inl (G',l',es)) :
  zAK G' l'/\(∀e∈es,yC e=true)/\G'.size=G.size/\G'.cost<=G.cost+18 * ps.length/\es.length=ps.length:=by
 rcases zHA gen ps G l hc hp with ⟨a1,_⟩|⟨G1,l1,es1,q,a1,a2,a3,a4,a5,a6,a7,a8,a9⟩
 .rw[a1] at h;cases h
 .rw[a1] at h;injection h with h;injection h with h1 h2;injection h2 with h2 h3;subst h1 h2 h3;obtain⟨b1,b2,b3⟩:=zEe gen ps G l hc.s256 hc.s1024 (λx hx=>(hp x hx).2) a1;exact⟨a5,a8,b2,b1,b3⟩
theorem zGT(gen:Nat):∀(a:List PtA) (G:GA) (l:List Nat) {G':GA} {l':List Nat} {ks:List jQ},vB gen G l a=.inl (G',l',ks)->ks.map (·.2)=a.map (·.2)
 | [],G,l,G',l',ks,h=>by
  injection h with h;injection h with h1 h2;injection h2 with h2 h3;subst h3;rfl
 | x :: a,G,l,G',l',ks,h=>by
  obtain⟨G1,l1,ks1,ks2,e1,e2,rfl⟩:=zCK gen [x] a G l h;obtain⟨i,_,rfl,rfl,rfl⟩:=zGR e1;rw[wF,zGT gen a _ _ e2];rfl
section
variable {α:Type}(mk:List α->zF)(z:Int)
theorem zH3(l:List α):(zV mk z l).length<=l.length:=by
 have h:=zCf mk z l [];simp only[uE,uR] at h;unfold zV;rcases zBU mk (z:=z) (yP mk z [] l) with h1|⟨r,a,b,h1,_,⟨_,h2⟩|⟨_,k,_,h2⟩⟩
 .rw[h1];exact h
 .rw[h2];rw[h1] at h;simp only[uC,uD,uE] at h ⊢;omega
 .rw[h2];rw[h1] at h;simp only[uC,uD,uE] at h ⊢;omega
theorem zDr{l:List α}:∀g∈zV mk z l,∀x∈g,x∈l:=λg hg x hx=>by
 have:=zBW mk z l;rw[<- this];exact rG.2 ⟨g,hg,hx⟩
theorem zJI{M:Int}(A:α->Prop){l:List α}(hA:∀x∈l,A x)(h1:∀x,A x->zD (mk [x])<=z)(hz:z<=M)(happ:∀a b,(∀x∈a++b,A x)->a≠[]->zD (mk a)<=z->zD (mk b)<=z->zD (mk (a++b))<=M)
  (hcut:∀g k,zD (mk (g.take k))<=zD (mk g)/\zD (mk (g.drop k))<=zD (mk g)):∀g∈zV mk z l,zD (mk g)<=M:=by
 have hf:=zAl mk z A h1 l [] hA (by simp);have hne:=zA2 mk z l [] (by simp);have hfl:=vN mk z l [];unfold zV;rcases zBU mk (z:=z) (yP mk z [] l) with e1|⟨r,a,b,e1,_,⟨e2,e3⟩|⟨_,k,_,e3⟩⟩
 .rw[e1];exact λg hg=>nT (hf g hg) hz
 .rw[e3];intro g hg;rcases uG.1 hg with hg|hg
  .exact nT (hf g (by rw[e1];simp[hg])) hz
  .rw[wS.1 hg];omega
 .rw[e3];have hab:zD (mk (a++b))<=M:=happ a b (λx hx=>hA x (by
    rw[e1] at hfl;have:x∈(r++[a,b]).flatten:=by simp only[tQ,wT,tO,wR];exact wZ _ hx
    rw[hfl] at this;simpa using this)) (hne a (by rw[e1];simp)) (hf a (by rw[e1];simp)) (hf b (by rw[e1];simp))
  have hc:=hcut (a++b) k;intro g hg;rcases uG.1 hg with hg|hg
  .exact nT (hf g (by rw[e1];simp[hg])) hz
  .simp only[uN,tX,or_false] at hg;rcases hg with rfl|rfl <;> omega
end
theorem zM8{es:List zI}{z:Int}(hz:232<=z)(hz2:z<=1000)(h:∀e∈es,yC e=true):∀g∈zV jD z es,zD (jD g)<=3000 :=
 zJI jD z (λe=>yC e=true) h (λx hx=>by have:=zBS hx;rw[jM];simp only[zY];omega) (by omega) (λa b _ _ h1 h2=>by rw[jM] at *;rw[yM];omega)
  (λg k=>by have:=zHp g k;have:=vO (g.take k);have:=vO (g.drop k);rw[jM,jM,jM];omega)
theorem zM9{ks:List jQ}{z:Int}(hz:232<=z)(hz2:z<=1000)(h:∀k∈ks,qC k.2=true):∀g∈zV mkI z ks,zD (mkI g)<=3000 :=
 zJI mkI z (λk=>qC k.2=true) h (λx hx=>by rw[zBk];simp[yA];omega) (by omega) (λa b hA ha h1 h2=>by
   rw[zBk] at *;rw[zBV ha,wF,qI];cases b with
   | nil=>simp only[tW,yA] at *;omega
   | cons x b =>
    have:=(vC x.2).1 (hA x (by simp));simp only[uW,yA,pF] at *;omega)
  (λg k=>by
   rw[zBk,zBk,zBk,zFK,pP];have e:=zFG (g.tail.map (·.2)) (k-1);have n1:=qS ((g.tail.map (·.2)).take (k-1));have n2:=qS ((g.tail.map (·.2)).drop (k-1));have e2:=zFG (g.tail.map (·.2)) k;have n3:=qS ((g.tail.map (·.2)).take k);have:(g.drop k).tail.map (·.2)=(g.tail.map (·.2)).drop k:=by
    rw[List.tail_drop,<- List.drop_one,rX,rX,pY,pZ]
   rw[this];omega)
end
section
open Go.RowKit
attribute [local go_sem ↓] Go.wp_at_zero Go.wp_at_succ
section
variable {P P' F F':Nat->Prop}{ad:Nat->Addr}{w w':World}{c s:Nat}{G G':GA}{l l':List Nat}
def EnS(F P:Nat->Prop)(ad:Nat->Addr)(w wr:World)(X c s gen:Nat)(pv:Value)(ps:List zE)(G1:GA)(l1:List Nat)(ev:Value)(es:List zI):Prop :=
 ∃(P1 F1:Nat->Prop),yS F1 wr P1 c s G1 l1/\zR P P1 F F1 ad w wr/\Sl F1 wr 2 zAL pv ps/\zL wr X (gP c s gen) 31 /\ ¬ P1 X/\zBI w F1 P1 wr 141 4 vA ev es
def zRh(F P:Nat->Prop)(ad:Nat->Addr)(w wr:World)(X c s gen:Nat)(G1:GA)(l1:List Nat)(kv:Value)(ks:List jQ):Prop :=
 ∃(P1 F1:Nat->Prop),yS F1 wr P1 c s G1 l1/\zR P P1 F F1 ad w wr/\zL wr X (gP c s gen) 31 /\ ¬ P1 X/\Sl F1 wr 2 zEO kv ks
theorem zJJ{v:Value}{b o:Nat}(m:zA P w w')(h:w.cell? ⟨b,o,none⟩=some v)(hn:¬ P b):w'.cell? ⟨b,o,none⟩=some v:=(m.cell (qY h) hn).trans h
theorem zNv{w1 w2:World}{v:Value}{L:List PtA}(h:zC5 w2 w1.heap.size v L)(hL:yW F ad w1)(hok:∀n∈L,zEm n)(hl:L.length<=100000):∃xs,zGS F w2 v xs L:=by
 obtain⟨xs,hx⟩:=h;exact⟨xs,hx.sl (λk hk=>hL.lt k hk) hok hl⟩
theorem zNA{kk:List jQ}{z:Int}(_h2:2<=kk.length)(_hz:232<=z):∀g∈zV mkI z kk,g≠[]:=by
 have hkeys:=zA2 mkI z kk [] (by simp);intro g hg h0;subst h0;rcases zBU mkI (z:=z) (yP mkI z [] kk) with e1|⟨r,a,b,e1,_,⟨_,e3⟩|⟨_,k,ek,e3⟩⟩
 .unfold zV at hg;rw[e1] at hg;exact hkeys _ hg rfl
 .unfold zV at hg;rw[e3] at hg;rcases uG.1 hg with hg|hg
  .exact hkeys [] (by rw[e1];simp[hg]) rfl
  .have ha:=hkeys a (by rw[e1];simp);simp only[wS] at hg;exact ha (tY.1 hg.symm).1
 .unfold zV at hg;rw[e3] at hg;have hp:=zFz ek;have q1:qA (mkI (a++b))=2:=rfl;have q2:qZ (mkI (a++b))=((a++b).map λk=>(k.1:Int)).length-3:=rfl;rw[uU] at q2;rcases uG.1 hg with hg|hg
  .exact hkeys [] (by rw[e1];simp[hg]) rfl
  .simp only[uN,tX,or_false] at hg;rcases hg with hg|hg
   .have:=congrArg List.length hg;rw[uP] at this;simp at this;simp at q2;omega
   .have:=congrArg List.length hg;rw[u0] at this;simp at this;simp at q2;omega
theorem zNB(hL:yW F ad w)(hP:∀k,P k->F k)(h:yS F w P c s G l)(gen:Nat)(hgen:gen<18446744073709551616)(hc:zAK G l)(ps:List zE)(pv:Value)(hpv:Sl F w 2 zAL pv ps)(hp:∀x∈ps,zCN x)(hlen:ps.length<=1000)(hco:G.cost<=800000)(root:Nat)(hd:zEM gen G l ps=.inl (G',l',root)) :
  Calls Tryz.prog 37 #[qR c s gen,pv] w (jL F P ad w c s G' l' (λ_ _ e=>e=.returned (.tuple #[.int .i64 (root:Int),.nilIface]))):=by
 obtain⟨X,hX⟩:∃X,X=w.heap.size:=⟨_,rfl⟩;obtain⟨w0,hw0⟩:∃w0,w0=w.alloc (gP c s gen):=⟨_,rfl⟩;have m0:zJ w w0:=by rw[hw0];exact (zA.refl _ w).alloc _
 have hN:=zR.ext hL hP m0;have hBX:zL w0 X (gP c s gen) 31:=by rw[hw0,hX];exact zL.new w _ _
 have HS0:Hid (EnS F P ad w w0 X c s gen pv ps G l (.slice none 0 0) []):=oh ⟨P,F,h.at m0,hN,hpv.ext m0,hBX,λhp=>by have:=h.bd _ hp;omega,zBI.nil _ _ _ _ _ _ _⟩;have HOK:=oh hp;have HXX:=oh hX;have HW0:=oh hw0;have HCT:=oh hc;have HCO:=oh hco;have HEV:=oh hL;obtain⟨Ge,le,es,hes,hlv⟩:∃Ge le es,zBB gen G l ps=.inl (Ge,le,es)/\(match vB gen Ge le ((zV jD ((G.size:Int)-24) es).map ptL) with
   | .inr k=>.inr k
   | .inl (G2,l2,ks)=>zAR gen 64 G2 l2 ks)=(.inl (G',l',root):StA Nat):=by
  unfold zEM at hd;cases he:zBB gen G l ps with
  | inr k=>rw[he] at hd;cases hd
  | inl y =>
   obtain⟨G1,l1,es⟩:=y;rw[he] at hd;exact⟨G1,l1,es,rfl,hd⟩
 obtain⟨k1,k2,k3,k4,k5⟩:=zJH hc hp hes;have HKE:=oh (And.intro k1 (And.intro k2 (And.intro k3 (And.intro k4 k5))));have HES:=oh hes;obtain⟨Gd,ld,ks0,hdn,hlv2⟩:∃Gd ld ks,vB gen Ge le ((zV jD ((G.size:Int)-24) es).map ptL)=.inl (Gd,ld,ks)/\zAR gen 64 Gd ld ks=.inl (G',l',root):=by
  cases he:vB gen Ge le ((zV jD ((G.size:Int)-24) es).map ptL) with
  | inr k=>rw[he] at hlv;cases hlv
  | inl y =>
   obtain⟨G1,l1,ks⟩:=y;rw[he] at hlv;exact⟨G1,l1,ks,rfl,hlv⟩
 have hgl:((zV jD ((G.size:Int)-24) es).map ptL).length<=1000:=by rw[uU];exact uM (zH3 jD _ es) (by omega)
 have hgo:∀n∈(zV jD ((G.size:Int)-24) es).map ptL,zEm n:=λn hn=>by
  obtain⟨g,hg,rfl⟩:=wY.1 hn;have:=hc.s256;have:=hc.s1024;exact zM1 (λx hx=>k2 x (zDr jD _ g hg x hx)) (zM8 (by omega) (by omega) k2 g hg)
 have HGL:=oh (And.intro hgl hgo);have HDN:=oh hdn;have HLV:=oh hlv2;have hks0:(∀k∈ks0,qC k.2=true)/\ks0.length<=1000/\Gd.size=G.size/\ld.length<=Gd.blocks/\Gd.cost<=820000:=by
  obtain⟨g1,g2,g3,g4,g5⟩:=zDQ gen _ Ge le hdn;refine⟨λk hk=>?_,by omega,by omega,by rw[g3,g2];exact Nat.le_of_eq k1.len,by omega⟩;have hf:=zGT gen _ Ge le hdn;have:k.2∈((zV jD ((G.size:Int)-24) es).map ptL).map (·.2):=by rw[<- hf];exact tK hk
  rw[p7] at this;obtain⟨g,hg,he⟩:=wY.1 this;rw[<- he];show qC (yQ (·.key) g)=true;have hne:g≠[]:=by
   intro h0;subst h0;have hkeys:=zA2 jD ((G.size:Int)-24) es [] (by simp);rcases zBU jD (z:=(G.size:Int)-24) (yP jD ((G.size:Int)-24) [] es) with e1|⟨r,a,b,e1,_,⟨_,e3⟩|⟨_,k,ek,e3⟩⟩
   .unfold zV at hg;rw[e1] at hg;exact hkeys _ hg rfl
   .unfold zV at hg;rw[e3] at hg;rcases uG.1 hg with hg|hg
    .exact hkeys [] (by rw[e1];simp[hg]) rfl
    .have ha:=hkeys a (by rw[e1];simp);simp only[wS] at hg;exact ha (tY.1 hg.symm).1
   .unfold zV at hg;rw[e3] at hg;have hp:=zFz ek;have q1:qA (jD (a++b))=1:=rfl;have q2:qZ (jD (a++b))=(a++b).length-1:=rfl;rcases uG.1 hg with hg|hg
    .exact hkeys [] (by rw[e1];simp[hg]) rfl
    .simp only[uN,tX,or_false] at hg;rcases hg with hg|hg
     .have:=congrArg List.length hg;rw[uP] at this;simp at this;simp at q2;omega
     .have:=congrArg List.length hg;rw[u0] at this;simp at this;simp at q2;omega
  obtain⟨x,g,rfl⟩:=tM hne;have:=k2 x (zDr jD _ _ hg x uF);unfold yC at this;simp only[uK] at this;exact this.1
 have HK0:=oh hks0;have HSZ:Hid (232<=(G.size:Int)-24/\(G.size:Int)-24<=1000):=oh (by have:=hc.s256;have:=hc.s1024;omega);obtain⟨pa,pc,rfl,p1,p2,p3, -⟩:=hpv;unfold maxLen at p2;clear hL hP h m0 hN hBX hp hX hw0 hc hco hd hes hlv k1 k2 k3 k4 k5 hdn hlv2 hgl hgo hks0;unfold qR
 go_enter Tryz.func37, Tryz.ntmps37
 go_wp2_with fail;rw[<- HW0.out,<- HXX.out];go_loopg [6,15] ps.length (λm v6 v15 wr=>∃(k:Nat) (G1:GA) (l1:List Nat) (es1:List zI) (ev:Value),k+m=ps.length/\ev=v6/\v15=.int .i64 (k:Int)/\Hid (zBB gen G l (ps.take k)=.inl (G1,l1,es1))/\Hid (EnS F P ad w wr X c s gen (.slice pa ps.length pc) ps G1 l1 ev es1))
 case atStart=>exact⟨0,G,l,[],_,by omega,rfl,rfl,oh rfl,HS0⟩
 case round =>
  obtain⟨k,G1,l1,es1,ev,hkm,rfl,rfl,HD1,HS⟩:=hrel;by_cases hlt:k<ps.length
  .obtain⟨P1,F1,hG1,hN1,hS1,hB1,hPX,hLR⟩:=HS.out;obtain⟨x,hx⟩:∃x,x=ps[k]:=⟨_,rfl⟩;obtain⟨qb,qoff,hqa,hqF,hcc⟩:=hS1.elemF hlt;rw[<- hx] at hcc;have d0:=hcc 0 (.string x.1) rfl;have d1:=hcc 1 (.string x.2) rfl;simp only[uO] at d0;subst hqa;obtain⟨eva,evc,rfl,ev1,ev2⟩:=hLR.1.form;obtain⟨wq,hwq⟩:∃wq,wq=wr.alloc (.cells #[.string x.1,.string x.2] 25):=⟨_,rfl⟩;have hrq:zJ wr wq:=by rw[hwq];exact (zA.refl _ _).alloc _
   have b0':=(hB1.ext hrq).cell (o:=0) (v:=.pointer (some ⟨c,0,none⟩)) rfl;have b1':=(hB1.ext hrq).cell (o:=1) (v:=.pointer (some ⟨s,0,none⟩)) rfl;have b2':=(hB1.ext hrq).cell (o:=2) (v:=.int .u64 (gen:Int)) rfl;rw[hwq] at b0' b1' b2';have hpl:ps[k]? = some x:=by rw[uA hlt,hx]
   have htk:ps.take (k+1)=ps.take k++[x]:=yJ ps k x hpl;obtain⟨G2,l2,ea,eb,t1,t2,t3⟩:=zFQ gen (ps.take (k+1)) (ps.drop (k+1)) G l (by rw[uZ];exact HES.out);rw[htk] at t1;obtain⟨G3,l3,ec,ed,u1,u2,u3⟩:=zFQ gen (ps.take k) [x] G l t1;rw[HD1.out] at u1;injection u1 with u1;injection u1 with u1 u4;injection u4 with u4 u5;subst u1 u4 u5;obtain⟨en,i1,i4⟩:=zQL u2;have HDN1:Hid (zBB gen G l (ps.take (k+1))=.inl (G2,l2,es1++[en])):=oh (by rw[htk,t1,u3,i4]);obtain⟨g1,g2,g3,g4,g5⟩:=zJH HCT.out (λy hy=>HOK.out y (tC hy)) HD1.out;have hxo:=HOK.out x (wM hpl);have HKL:Hid (es1.length<=1000):=oh (by rw[g5,uP];omega);have HDA:=zM7 (hN1.env.mods hrq.ext) hN1.sub (hG1.at hrq) gen hgen x.1 x.2 hxo.2 g1.low g1.len (by have:=HCO.out;rw[uP] at g4;omega);rw[i1] at HDA;unfold qR at HDA;have HDA:=oh HDA;have HNQ:=oh (hN1.trans (zR.ext hN1.env hN1.sub hrq));have HSQ:=oh (hS1.ext hrq);have HBQ:=oh (hB1.ext hrq);have HNB:=oh hPX;have HLQ:=oh (hLR.ext hrq);have HWQ:=oh hwq;have z1:(0:Int)<=(k:Int):=by omega
   have z2:(k:Int)<(ps.length:Int):=by omega
   clear hG1 hN1 hS1 hB1 hPX hLR hx hcc hrq hwq hpl htk t1 t2 t3 u2 u3 i1 i4 g1 g2 g3 g4 g5 hxo hqF;go_wp2_with fail;rw[<- HWQ.out];refine HDA.out.mono ?_;rintro e4 w4 ⟨P4,F4,G4,l4,hG4,hN4,⟨en4,h4,rfl⟩|⟨_,_,_,_,h4,_⟩⟩
   .injection h4 with h4;injection h4 with h4 h5;injection h5 with h5 h6;subst h4 h5 h6;obtain⟨wz,hwz⟩:∃wz,wz=(w4.alloc (.cells #[.string en.key,.string en.value,.int .i64 en.chain,.int .i64 en.size] 141)).alloc (.cells #[.string en.key,.string en.value,.int .i64 en.chain,.int .i64 en.size] 141):=⟨_,rfl⟩;have h4z:zJ w4 wz:=by rw[hwz];exact ((zA.refl _ _).alloc _).alloc _
    have HN4:=oh ((HNQ.out.trans hN4).trans (zR.ext hN4.env hN4.sub h4z));have HG4:=oh (hG4.at h4z);have HS4:=oh ((hN4.sl HNQ.out.sub HSQ.out).ext h4z);have HB4:=oh ((hN4.blk HBQ.out HNB.out).ext h4z);have HP4:=oh (hN4.not HBQ.out.lt HNB.out);have HL4:=oh ((HLQ.out.nxt hN4).ext h4z);have HLB:Hid (zL wz (w4.heap.size+1) #[.string en.key,.string en.value,.int .i64 en.chain,.int .i64 en.size] 141):=oh (by rw[hwz];exact zK (by simp));have HWZ:=oh hwz;clear hG4 hN4 h4z hwz;go_wp2_with (at_builtin;rw[<- HWZ.out];refine yH Tryz.elE yU rfl _ _ rfl w.heap.size _ _ es1 [en] rfl rfl HL4.out.1 (Sl.one (F:=λ_=>False) (x:=en) (enc:=vA) (sz:=4) HLB.out (λf=>f)) (by have:=HKL.out;simp only[uD,uE];omega) (by have:=HN4.out.size;omega) (λf=>f) ?_;simp only[uD,uE,uR];intro a6 c6 w6 hO6 hm6 hat6);have happ:=HL4.out.app HN4.out (by simpa using hO6) hm6 hat6 (uJ _);have HS6:Hid (EnS F P ad w w6 X c s gen (.slice (some ⟨qb,qoff,none⟩) ps.length pc) ps G2 l2 (.slice a6 (es1.length+1) c6) (es1++[en])):=oh ⟨P4,zAA F4 (.slice a6 (es1.length+1) c6),HG4.out.app HL4.out hm6 hat6 (uJ _),happ.1,by
      refine HS4.out.step (hm6.mono (λk hk=>(HL4.out.2 k hk).1)) (λk hk hn hf=>?_);rcases hf with hf|hf
      .exact hn hf
      .rcases hat6 with e|e
       .exact hn (HL4.out.2 k (e ▸ hf)).1
       .rw[e] at hf;injection hf with hf;omega,HB4.out.mods hm6 (λhk=>HL4.out.1.notB HB4.out (by decide) _ hk rfl),HP4.out,happ.2⟩
    clear hO6 hm6 hat6 happ;go_wp2_with fail;go_roundg (gk-1)
    case measure=>omega
    case rel=>exact⟨k+1,G2,l2,es1++[en],_,by omega,rfl,by go_num,HDN1,HS6⟩
   .cases h4
  .have hk:k=ps.length:=by omega
   have hall:ps.take k=ps:=by rw[hk,wU]
   have he:=HD1.out;rw[hall,HES.out] at he;injection he with he;injection he with e1 e2;injection e2 with e2 e3;subst e1 e2 e3;clear hall hk HD1;obtain⟨P1,F1,hG1,hN1,hS1,hB1,hPX,hLR⟩:=HS.out;have hsub:∀k,(F k\/P1 k)->F1 k:=λk hk=>hk.elim (hN1.grow k) (hN1.sub k)
   have hE1:yW (λk=>F k\/P1 k) ad wr:=hN1.env.anti hsub;have hG2:=hG1.anti hsub;have hSE:Sl (λk=>F k\/P1 k) wr 4 vA ev es:=zU.sl (F:=λk=>F k\/P1 k) ⟨hLR.1.1,λg hg hf=>hf.elim (λhf=>by have h1:=(hLR.1.lt g hg).1;have h2:=HEV.out.lt g hf;omega) (λhp=>(hLR.2 g hg).2 hp)⟩ yU.len (by have:=HKE.out.2.2.2.2;omega);obtain⟨eva,evc,rfl,ev1,ev2⟩:=hLR.1.form;have HLV1:Hid (∀W,zJ wr W -> Calls Tryz.prog 68 #[qR c s gen,.slice eva es.length evc] W λe w'=>∃v,e=.returned v/\zC5 w' W.heap.size v ((zV jD ((G.size:Int)-24) es).map ptL)/\zJ W w'):=oh (λW m=>by
    have:=zLa (hE1.mods m.ext) (hG2.at m) gen (by have:=HSZ.out;have:=HKE.out.2.2.1;omega) _ es (hSE.ext m) HKE.out.2.1 (by have:=HKE.out.2.2.2.2;omega);rw[HKE.out.2.2.1] at this;exact this)
   have HDW1:Hid (∀(W W2:World) (v:Value),zJ wr W->zC5 W2 W.heap.size v ((zV jD ((G.size:Int)-24) es).map ptL)->zJ W W2 -> Calls Tryz.prog 67 #[qR c s gen,v] W2 (jL (λk=>F k\/P1 k) P1 ad W2 c s Gd ld (λF' w' e=>∃kv,e=.returned (.tuple #[kv,.nilIface])/\Sl F' w' 2 zEO kv ks0))):=oh (λW W2 v m hv m2=>by
    obtain⟨xs,hx⟩:=zNv hv (hE1.mods m.ext) HGL.out.2 (by have:=HGL.out.1;omega);exact zH2 ((hE1.mods m.ext).mods m2.ext) (λk hk=>.inr hk) ((hG2.at m).at m2) gen hgen (Nat.le_of_eq HKE.out.1.len) v xs _ hx HGL.out.2 (by have:=HGL.out.1;omega) (by have:=HGL.out.1;have:=HKE.out.2.2.2.1;have:=HCO.out;omega) ks0 HDN.out)
   have b0:=hB1.cell (o:=0) (v:=.pointer (some ⟨c,0,none⟩)) rfl;have b1:=hB1.cell (o:=1) (v:=.pointer (some ⟨s,0,none⟩)) rfl;have b2:=hB1.cell (o:=2) (v:=.int .u64 (gen:Int)) rfl;have HN1:=oh hN1.least;have HB1:=oh hB1;have HPX:=oh hPX;have xd:=(zA.refl (λ_=>False) wr).drew;unfold qR at HLV1 HDW1;clear hsub hE1 hG1 hG2 hSE hN1 hS1 hB1 hPX hLR;go_wp2_with fail;go_region_held3 (λw'=>w'.cell? ⟨X,0,none⟩=some (.pointer (some ⟨c,0,none⟩))/\w'.cell? ⟨X,1,none⟩=some (.pointer (some ⟨s,0,none⟩))/\w'.cell? ⟨X,2,none⟩=some (.int .u64 (gen:Int)))
    (first|(with_reducible exact⟨b0,b1,b2⟩)|(with_reducible exact⟨y0,y1,y2⟩)|(with_reducible exact⟨z0,z1,z2⟩)|go_keep)
    (first
     | (go_at_call 68;(with_reducible refine (HLV1.out _ xd).mono ?_);rintro e w5 ⟨v5,rfl,hO5,hm5⟩;have y0:=zC (w:=wr.drew) hm5 b0;have y1:=zC (w:=wr.drew) hm5 b1;have y2:=zC (w:=wr.drew) hm5 b2)
     | (go_at_call 67;(with_reducible refine (HDW1.out _ _ _ xd hO5 hm5).mono ?_);rintro e w6 ⟨P6,F6,hG6,hN6,kv6,rfl,hs6⟩;have z0:=zJJ hN6.stp.mods y0 HPX.out;have z1:=zJJ hN6.stp.mods y1 HPX.out;have z2:=zJJ hN6.stp.mods y2 HPX.out)
     | fail)
   have hx5:=xd.trans hm5;have HS6:Hid (zRh F P ad w w6 X c s gen Gd ld kv6 ks0):=oh ⟨P6,F6,hG6,(HN1.out.trans (zR.ext HN1.out.env HN1.out.sub hx5)).trans hN6,hN6.blk (HB1.out.ext hx5) HPX.out,hN6.not (HB1.out.ext hx5).lt HPX.out,hs6⟩;clear b0 b1 b2 y0 y1 y2 z0 z1 z2 hO5 hm5 hG6 hN6 hs6 hx5 xd;go_wp2_with fail;obtain⟨wo,rfl⟩:∃wo:World,wo=wr:=⟨_,rfl⟩;go_loopg [11,12] 64 (λf v11 v12 wr=>∃(G1:GA) (l1:List Nat) (ks1:List jQ) (kv:Value),kv=v11/\v12=.nilIface/\Hid (f<=64/\zAR gen f G1 l1 ks1=.inl (G',l',root)/\(∀k∈ks1,qC k.2=true)/\ks1.length<=1000/\G1.size=G.size/\l1.length<=G1.blocks/\G1.cost+1000 * f<=900000)/\Hid (zRh F P ad w wr X c s gen G1 l1 kv ks1))
   case atStart=>exact⟨Gd,ld,ks0,_,rfl,rfl,oh ⟨by omega,HLV.out,HK0.out.1,HK0.out.2.1,HK0.out.2.2.1,HK0.out.2.2.2.1,by have:=HK0.out.2.2.2.2;omega⟩,HS6⟩
   case round =>
    obtain⟨G1,l1,ks1,kv,rfl,rfl,HI,HS2⟩:=hrel;obtain⟨P1,F1,hG1,hN1,hB1,hPX,hSK⟩:=HS2.out;obtain⟨ka,kc,rfl,kq1,kq2,kq3, -⟩:=id hSK;unfold maxLen at kq2;obtain⟨hf64,hlv,hkb,hkl,hgs,hgl1,hgc⟩:=HI.out;match ks1,hlv,hkb,hkl,hSK,HS2,kq1,kq2,kq3,HI with
    | [],hlv,hkb,hkl,hSK,HS2,kq1,kq2,kq3,HI =>
     have hfin:G1=G'/\l1=l'/\0=root:=by
      cases gk with
      | zero=>cases hlv
      | succ f =>
       rw[zAR] at hlv;injection hlv with hlv;injection hlv with e1 e2;injection e2 with e2 e3;exact⟨e1,e2,e3⟩
     obtain⟨rfl,rfl,rfl⟩:=hfin;have HFIN:Hid (yS F1 wr P1 c s G1 l1/\zR P P1 F F1 ad w wr):=oh ⟨hG1,hN1⟩;simp only[uE];clear hG1 hN1 hB1 hPX hSK hlv hkb hkl hgs hgl1 hgc hf64 kq1 kq2 kq3;go_wp2_with fail;refine bodyPost_ret (v:=.tuple #[.int .i64 0,.nilIface]) (by simp[results,Tryz.results37,go_sem]) rfl ?_;exact⟨P1,F1,HFIN.out.1,HFIN.out.2,rfl⟩
    | [k1],hlv,hkb,hkl,hSK,HS2,kq1,kq2,kq3,HI =>
     have hfin:G1=G'/\l1=l'/\k1.1=root:=by
      cases gk with
      | zero=>cases hlv
      | succ f =>
       rw[zAR] at hlv;injection hlv with hlv;injection hlv with e1 e2;injection e2 with e2 e3;exact⟨e1,e2,e3⟩
     obtain⟨rfl,rfl,rfl⟩:=hfin;obtain⟨qb,qoff,hqa,hqF,hcc⟩:=hSK.elemF (k:=0) (by simp);have d0:=hcc 0 (.int .i64 (k1.1:Int)) rfl;simp only[pW,uO] at d0;subst hqa;have HFIN:Hid (yS F1 wr P1 c s G1 l1/\zR P P1 F F1 ad w wr):=oh ⟨hG1,hN1⟩;simp only[uD,uE];clear hG1 hN1 hB1 hPX hSK hlv hkb hkl hgs hgl1 hgc hf64 kq1 kq2 kq3 hcc hqF;go_wp2_with fail;refine bodyPost_ret (v:=.tuple #[.int .i64 (k1.1:Int),.nilIface]) (by simp[results,Tryz.results37,go_sem]) rfl ?_;exact⟨P1,F1,HFIN.out.1,HFIN.out.2,rfl⟩
    | k1 :: k2 :: kr,hlv,hkb,hkl,hSK,HS2,kq1,kq2,kq3,HI =>
     obtain⟨kk,hkk⟩:∃kk,kk=k1 :: k2 :: kr:=⟨_,rfl⟩;obtain⟨f,hf⟩:∃f,gk=f+1:=by
      cases gk with
      | zero=>cases hlv
      | succ f=>exact⟨f,rfl⟩
     rw[hf,zAR,<- hkk,hgs] at hlv;have hk2:2<=kk.length:=by rw[hkk];simp
     rw[<- hkk] at hkb hkl hSK kq1 kq3 ⊢;obtain⟨G2,l2,ks2,hdn,hlv2⟩:∃G2 l2 ks2,vB gen G1 l1 ((zV mkI ((G.size:Int)-24) kk).map ptI)=.inl (G2,l2,ks2)/\zAR gen f G2 l2 ks2=.inl (G',l',root):=by
      cases he:vB gen G1 l1 ((zV mkI ((G.size:Int)-24) kk).map ptI) with
      | inr k =>
       have:vB gen G1 l1 ((zV mkI ((G.size:Int)-24) kk).map λg=>(mkI g,yQ (·.2) g))=.inr k:=he;rw[this] at hlv;cases hlv
      | inl y =>
       obtain⟨Ga,la,ksa⟩:=y;have:vB gen G1 l1 ((zV mkI ((G.size:Int)-24) kk).map λg=>(mkI g,yQ (·.2) g))=.inl (Ga,la,ksa):=he;rw[this] at hlv;exact⟨Ga,la,ksa,rfl,hlv⟩
     have hgl:((zV mkI ((G.size:Int)-24) kk).map ptI).length<=1000:=by rw[uU];exact uM (zH3 mkI _ kk) hkl
     have hgo:∀n∈(zV mkI ((G.size:Int)-24) kk).map ptI,zEm n:=λn hn=>by
      obtain⟨g,hg,rfl⟩:=wY.1 hn;exact zM4 (λx hx=>hkb x (zDr mkI _ g hg x hx)) (zM9 HSZ.out.1 HSZ.out.2 hkb g hg)
     obtain⟨g1,g2,g3,g4,g5⟩:=zDQ gen _ G1 l1 hdn;have hkb2:∀k∈ks2,qC k.2=true:=λk hk=>by
      have hfst:=zGT gen _ G1 l1 hdn;have:k.2∈((zV mkI ((G.size:Int)-24) kk).map ptI).map (·.2):=by rw[<- hfst];exact tK hk
      rw[p7] at this;obtain⟨g,hg,he⟩:=wY.1 this;rw[<- he];show qC (yQ (·.2) g)=true;obtain⟨x,g',rfl⟩:=tM (zNA hk2 HSZ.out.1 g hg);exact hkb x (zDr mkI _ _ hg x uF)
     have HI2:Hid (f<=64/\zAR gen f G2 l2 ks2=.inl (G',l',root)/\(∀k∈ks2,qC k.2=true)/\ks2.length<=1000/\G2.size=G.size/\l2.length<=G2.blocks/\G2.cost+1000 * f<=900000):=oh ⟨by omega,hlv2,hkb2,by omega,by omega,by omega,by omega⟩;have HAB:Hid (∀W,zJ wr W -> Calls Tryz.prog 69 #[qR c s gen,.slice ka kk.length kc] W λe w'=>∃v,e=.returned v/\zC5 w' W.heap.size v ((zV mkI ((G.size:Int)-24) kk).map ptI)/\zJ W w'):=oh (λW m=>by
      have:=zM6 (hN1.env.mods m.ext) (hG1.at m) gen (by have:=HSZ.out;omega) _ kk (hSK.ext m) hkb (by omega);rw[hgs] at this;exact this)
     have HDW2:Hid (∀(W W2:World) (v:Value),zJ wr W->zC5 W2 W.heap.size v ((zV mkI ((G.size:Int)-24) kk).map ptI)->zJ W W2 -> Calls Tryz.prog 67 #[qR c s gen,v] W2 (jL F1 P1 ad W2 c s G2 l2 (λF' w' e=>∃kv,e=.returned (.tuple #[kv,.nilIface])/\Sl F' w' 2 zEO kv ks2))):=oh (λW W2 v m hv m2=>by
      obtain⟨xs,hx⟩:=zNv hv (hN1.env.mods m.ext) hgo (by omega);exact zH2 ((hN1.env.mods m.ext).mods m2.ext) hN1.sub ((hG1.at m).at m2) gen hgen hgl1 v xs _ hx hgo (by omega) (by omega) ks2 hdn)
     have b0:=hB1.cell (o:=0) (v:=.pointer (some ⟨c,0,none⟩)) rfl;have b1:=hB1.cell (o:=1) (v:=.pointer (some ⟨s,0,none⟩)) rfl;have b2:=hB1.cell (o:=2) (v:=.int .u64 (gen:Int)) rfl;have HN1:=oh hN1;have HB1:=oh hB1;have HPX:=oh hPX;have xd:=(zA.refl (λ_=>False) wr).drew;have hgt:(1:Int)<(kk.length:Int):=by omega
     unfold qR at HAB HDW2;clear hG1 hN1 hB1 hPX hSK hlv hkb hkl hgs hgl1 hgc hf64 hkk hdn hlv2 hgl hgo g1 g2 g3 g4 g5 hkb2 hk2;go_wp2_with fail;go_region_held3 (λw'=>w'.cell? ⟨X,0,none⟩=some (.pointer (some ⟨c,0,none⟩))/\w'.cell? ⟨X,1,none⟩=some (.pointer (some ⟨s,0,none⟩))/\w'.cell? ⟨X,2,none⟩=some (.int .u64 (gen:Int)))
      (first|(with_reducible exact⟨b0,b1,b2⟩)|(with_reducible exact⟨y0,y1,y2⟩)|(with_reducible exact⟨z0,z1,z2⟩)|go_keep)
      (first
       | (go_at_call 69;(with_reducible refine (HAB.out _ xd).mono ?_);rintro e w5 ⟨v5,rfl,hO5,hm5⟩;have y0:=zC (w:=wr.drew) hm5 b0;have y1:=zC (w:=wr.drew) hm5 b1;have y2:=zC (w:=wr.drew) hm5 b2)
       | (go_at_call 67;(with_reducible refine (HDW2.out _ _ _ xd hO5 hm5).mono ?_);rintro e w6 ⟨P6,F6,hG6,hN6,kv6,rfl,hs6⟩;have z0:=zJJ hN6.stp.mods y0 HPX.out;have z1:=zJJ hN6.stp.mods y1 HPX.out;have z2:=zJJ hN6.stp.mods y2 HPX.out)
       | fail)
     have hx5:=xd.trans hm5;have HS6:Hid (zRh F P ad w w6 X c s gen G2 l2 kv6 ks2):=oh ⟨P6,F6,hG6,(HN1.out.trans (zR.ext HN1.out.env HN1.out.sub hx5)).trans hN6,hN6.blk (HB1.out.ext hx5) HPX.out,hN6.not (HB1.out.ext hx5).lt HPX.out,hs6⟩;clear b0 b1 b2 y0 y1 y2 z0 z1 z2 hO5 hm5 hG6 hN6 hs6 hx5 xd;go_wp2_with fail;go_roundg (gk-1)
     case measure=>omega
     case rel=>exact⟨G2,l2,ks2,_,rfl,rfl,by rw[show gk-1=f by omega];exact HI2,HS6⟩
end
end
end Go.Proofs.YtchklfmggpconaaGreatDoor
