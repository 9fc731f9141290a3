import Derived.Test.YtchklfmggpconaaGreatDoorK37
import Derived.Deep.RegionHeld3
import Derived.Test.YtchklfmggpconaaGreatDoorK30
namespace Go.Proofs.YtchklfmggpconaaGreatDoor
set_option maxRecDepth 100000
section
open Go.RowKit
attribute [local go_sem ↓] Go.wp_at_zero Go.wp_at_succ
structure PtsS(F:Nat→Prop)(w:World)(v:Value)(xs:List PtV)(L:List PtA):Prop where
 row:Sl F w 5 encPt v xs
 len:xs.length=L.length
 at_:∀(i:Nat) (x:PtV) (n:PtA),xs[i]? = some x→L[i]? = some n→x.lf=n.1.leaf∧x.s=n.2∧Sl F w 4 encE (slV x.e) n.1.entries∧Sl F w 1 encS (slV x.k) n.1.keys∧Sl F w 1 encI (slV x.i) n.1.kids
theorem Tryz.mkKd:(Tryz.prog.info? 151).map (λi=>(i.zero,i.size,i.bytes))=some (some (.agg #[.int .i64 0,.string ⟨#[]⟩]),2,24):=by kernel_rfl
theorem Tryz.elKd:ElT Tryz.prog 144 151 (.agg #[.int .i64 0,.string ⟨#[]⟩]) 2 24:=⟨Tryz.underlying144,Tryz.mkKd,rfl,by decide,by decide⟩
section
variable {P P' F F':Nat→Prop}{ad:Nat→Addr}{w w':World}{c s:Nat}{G G':GA}{l l':List Nat}{b0:Nat}{v:Value}{xs:List PtV}{L:List PtA}
theorem PtsR.sl(h:PtsR w b0 v xs L)(hF:∀k,F k→k<b0)(hok:∀n∈L,okPt n)(hl:L.length≤100000):PtsS F w v xs L :=
 ⟨h.row.slF hF encPt_ok.len (by rw[h.len];omega),h.len,λi x n h1 h2=>by
  have hp:=h.at_ i x n h1 h2
  obtain⟨o1,o2,o3,_,_⟩:=hok n (List.mem_of_getElem? h2)
  exact⟨hp.lf,hp.fst,hp.e.slF hF encE_ok.len (by omega),hp.k.slF hF encS_ok.len (by omega),hp.i.slF hF encI_ok.len (by omega)⟩⟩
theorem PtsS.nxt(h:PtsS F w v xs L)(n:Nxt P P' F F' ad w w')(hP:∀k,P k→F k):PtsS F' w' v xs L :=
 ⟨n.sl hP h.row,h.len,λi x m h1 h2=>by
  obtain⟨a,b,c,d,e⟩:=h.at_ i x m h1 h2
  exact⟨a,b,n.sl hP c,n.sl hP d,n.sl hP e⟩⟩
theorem PtsS.ext(h:PtsS F w v xs L)(m:Ext w w'):PtsS F w' v xs L :=
 ⟨h.row.ext m,h.len,λi x q h1 h2=>by
  obtain⟨a,b,c,d,e⟩:=h.at_ i x q h1 h2
  exact⟨a,b,c.ext m,d.ext m,e.ext m⟩⟩
theorem PtsS.step(h:PtsS F w v xs L)(m:Mods F w w')(hG:∀k,k<w.heap.size→¬ F k→¬ F' k):PtsS F' w' v xs L :=
 ⟨h.row.step m hG,h.len,λi x q h1 h2=>by
  obtain⟨a,b,c,d,e⟩:=h.at_ i x q h1 h2
  exact⟨a,b,c.step m hG,d.step m hG,e.step m hG⟩⟩
def DnS(F P:Nat→Prop)(ad:Nat→Addr)(w wr:World)(X c s gen:Nat)(v:Value)(xs:List PtV)(L:List PtA)(G1:GA)(l1:List Nat)(kv:Value)(ks:List KidA):Prop :=
 ∃(P1 F1:Nat→Prop),PgR F1 wr P1 c s G1 l1∧Nxt P P1 F F1 ad w wr∧PtsS F1 wr v xs L∧Blk wr X #[.pointer (some ⟨c,0,none⟩),.pointer (some ⟨s,0,none⟩),.int .u64 (gen:Int)] 31 ∧ ¬ P1 X∧LocR w F1 P1 wr 151 2 encKd kv ks
set_option maxHeartbeats 8000000 in
theorem down15_any(hL:Env F ad w)(hP:∀k,P k→F k)(h:PgR F w P c s G l)(gen:Nat)(hgen:gen<18446744073709551616)(hll:l.length≤G.blocks)(v:Value)(xs:List PtV)(L:List PtA)(hv:PtsS F w v xs L)(hok:∀n∈L,okPt n)(hlen:L.length≤100000)(hco:G.cost+L.length<1000000)(ks:List KidA)(hd:downsP gen G l L=.inl (G',l',ks)) :
  Calls Tryz.prog 67 #[pgV c s gen,v] w (PgDone F P ad w c s G' l' (λF' w' e=>∃kv,e=.returned (.tuple #[kv,.nilIface])∧Sl F' w' 2 encKd kv ks)):=by
 obtain⟨X,hX⟩:∃X,X=w.heap.size:=⟨_,rfl⟩
 obtain⟨w0,hw0⟩:∃w0,w0=w.alloc (.cells #[.pointer (some ⟨c,0,none⟩),.pointer (some ⟨s,0,none⟩),.int .u64 (gen:Int)] 31):=⟨_,rfl⟩
 have m0:Ext w w0:=by rw[hw0];exact (Mods.refl _ w).alloc _
 have hN:=Nxt.ext hL hP m0
 have hBX:Blk w0 X #[.pointer (some ⟨c,0,none⟩),.pointer (some ⟨s,0,none⟩),.int .u64 (gen:Int)] 31:=by rw[hw0,hX];exact Blk.new w _ _
 have HS0:Hid (DnS F P ad w w0 X c s gen v xs L G l (.slice none 0 0) []):=Lib.hid ⟨P,F,h.at m0,hN,hv.ext m0,hBX,λhp=>by have:=h.bd _ hp;omega,LocR.nil _ _ _ _ _ _ _⟩
 have HD:=Lib.hid hd
 have HOK:=Lib.hid hok
 have HXX:=Lib.hid hX
 have HW0:=Lib.hid hw0
 have HLL:=Lib.hid hll
 have HCO:=Lib.hid hco
 have HXL:=Lib.hid hv.len
 have HEV:=Lib.hid hL
 obtain⟨va,vc,rfl,v1,v2,v3, -⟩:=hv.row
 unfold maxLen at v2
 clear hL hP h m0 hN hBX hd hok hX hw0 hll hco hv
 unfold pgV
 go_enter Tryz.func67, Tryz.ntmps67
 go_wp2_with fail
 rw[← HW0.out,← HXX.out]
 go_loopg [6,13] xs.length (λm v6 v13 wr=>∃(k:Nat) (G1:GA) (l1:List Nat) (ks1:List KidA) (kv:Value),k+m=xs.length∧kv=v6∧v13=.int .i64 (k:Int)∧Hid (downsP gen G l (L.take k)=.inl (G1,l1,ks1))∧Hid (DnS F P ad w wr X c s gen (.slice va xs.length vc) xs L G1 l1 kv ks1))
 case atStart=>exact⟨0,G,l,[],_,by omega,rfl,rfl,Lib.hid rfl,HS0⟩
 case round =>
  obtain⟨k,G1,l1,ks1,kv,hkm,rfl,rfl,HD1,HS⟩:=hrel
  by_cases hlt:k<xs.length
  ·obtain⟨P1,F1,hG1,hN1,hS1,hB1,hPX,hLR⟩:=HS.out
   have hltL:k<L.length:=by have:=HXL.out;omega
   obtain⟨x,hx⟩:∃x,xs[k]? = some x:=⟨_,List.getElem?_eq_getElem hlt⟩
   obtain⟨n,hn⟩:∃n,L[k]? = some n:=⟨_,List.getElem?_eq_getElem hltL⟩
   obtain⟨hlf,hfs,hse,hsk,hsi⟩:=hS1.at_ k x n hx hn
   obtain⟨qb,qoff,hqa,hqF,hc⟩:=hS1.row.elemF hlt
   have hxk:xs[k]=x:=by rw[List.getElem?_eq_getElem hlt] at hx;injection hx
   rw[hxk] at hc
   have d0:=hc 0 (.bool x.lf) rfl
   have d1:=hc 1 (slV x.e) rfl
   have d2:=hc 2 (slV x.k) rfl
   have d3:=hc 3 (slV x.i) rfl
   have d4:=hc 4 (.string x.s) rfl
   simp only[Nat.add_zero] at d0
   subst hqa
   obtain⟨kva,kvc,rfl,kv1,kv2⟩:=hLR.1.form
   obtain⟨b,hb⟩:∃b,b=wr.heap.size:=⟨_,rfl⟩
   obtain⟨wq,hwq⟩:∃wq,wq=wr.alloc (.cells #[.bool x.lf,slV x.e,slV x.k,slV x.i,.string x.s] 197):=⟨_,rfl⟩
   have hrq:Ext wr wq:=by rw[hwq];exact (Mods.refl _ _).alloc _
   have hbq:Blk wq b #[.bool x.lf,slV x.e,slV x.k,slV x.i,.string x.s] 197:=by rw[hwq,hb];exact Blk.new wr _ _
   have hnb:¬ P1 b:=λhp=>by have:=hN1.env.lt b (hN1.sub b hp);omega
   have b0':=(hB1.ext hrq).cell (o:=0) (v:=.pointer (some ⟨c,0,none⟩)) rfl
   have b1':=(hB1.ext hrq).cell (o:=1) (v:=.pointer (some ⟨s,0,none⟩)) rfl
   have b2':=(hB1.ext hrq).cell (o:=2) (v:=.int .u64 (gen:Int)) rfl
   rw[hwq] at b0' b1' b2'
   have hst:L.take (k+1)++L.drop (k+1)=L:=List.take_append_drop _ _
   have htk:L.take (k+1)=L.take k++[n]:=take_one L k n hn
   obtain⟨G2,l2,ka,kb,t1,t2,t3⟩:=downs_split gen (L.take (k+1)) (L.drop (k+1)) G l (by rw[hst];exact HD.out)
   rw[htk] at t1
   obtain⟨G3,l3,kc,kd,u1,u2,u3⟩:=downs_split gen (L.take k) [n] G l t1
   rw[HD1.out] at u1
   injection u1 with u1
   injection u1 with u1 u4
   injection u4 with u4 u5
   subst u1 u4 u5
   obtain⟨i,i1,i2,i3,i4⟩:=downs_one u2
   have HDN:Hid (downsP gen G l (L.take (k+1))=.inl (G2,l2,ks1++[(i,n.2)])):=Lib.hid (by rw[htk,t1,u3,i4])
   obtain⟨g1,g2,g3,g4,g5⟩:=downs_lim gen (L.take k) G l HD1.out
   have hko:=HOK.out n (List.mem_of_getElem? hn)
   have HKL:Hid (ks1.length≤100000):=Lib.hid (by rw[g5,List.length_take];omega)
   have HDA:=down_any (hN1.env.mods hrq.ext) hN1.sub (hG1.at hrq) gen 0 hgen n.1 (slV x.e) (slV x.k) (slV x.i) (hse.ext hrq) (hsk.ext hrq) (hsi.ext hrq) (λhr=>by have:=weight_len (form_right hr);have:=hko.2.2.2.1;omega) (.inl rfl) (.inl rfl) (by omega) (by rw[g3,g2];exact HLL.out) (by have:=HCO.out;rw[List.length_take] at g4;omega)
   rw[← i2,← i3,i1,← hlf] at HDA
   unfold pgV at HDA
   rw[show ((0:Nat):Int)=0 from rfl] at HDA
   have HDA:=Lib.hid HDA
   have HNQ:=Lib.hid (hN1.trans (Nxt.ext hN1.env hN1.sub hrq))
   have HSQ:=Lib.hid (hS1.ext hrq)
   have HBQ:=Lib.hid (hB1.ext hrq)
   have HEQ:=Lib.hid hbq
   have HNB:=Lib.hid (And.intro hPX hnb)
   have HLQ:=Lib.hid (hLR.ext hrq)
   have HWQ:=Lib.hid hwq
   have HBB:=Lib.hid hb
   have HFS:Hid (x.s=n.2):=Lib.hid hfs
   have z1:(0:Int)≤(k:Int):=by omega
   have z2:(k:Int)<(xs.length:Int):=by omega
   clear hG1 hN1 hS1 hB1 hPX hLR hx hn hse hsk hsi hc hxk hrq hbq hnb hwq hb hst htk t1 t2 t3 u2 u3 i1 i2 i3 i4 g1 g2 g3 g4 g5 hko hqF hltL hlf hfs
   go_wp2_with fail
   rw[← HWQ.out,← HBB.out]
   refine HDA.out.mono ?_
   rintro en w4 ⟨P4,F4,hG4,hN4,⟨i4,h4,rfl⟩|⟨h4,_⟩⟩
   ·injection h4 with h4
    subst h4
    have hB4:=hN4.blk HEQ.out HNB.out.2
    have f4:=hB4.cell (o:=4) (v:=.string x.s) rfl
    have HG4:=Lib.hid hG4
    have HN4:=Lib.hid (HNQ.out.trans hN4)
    have HS4:=Lib.hid (HSQ.out.nxt hN4 HNQ.out.sub)
    have HB4:=Lib.hid (hN4.blk HBQ.out HNB.out.1)
    have HP4:=Lib.hid (hN4.not HBQ.out.lt HNB.out.1)
    have HL4:=Lib.hid (HLQ.out.nxt hN4)
    have hl4:Blk (w4.alloc (.cells #[.int .i64 (i:Int),.string x.s] 151)) w4.heap.size #[.int .i64 (i:Int),.string x.s] 151:=Blk.new w4 _ _
    have HLB:=Lib.hid hl4
    have HMA:Hid (Ext w4 (w4.alloc (.cells #[.int .i64 (i:Int),.string x.s] 151))):=Lib.hid ((Mods.refl _ w4).alloc _)
    clear hG4 hN4 hB4 hl4
    go_wp2_with (at_builtin;refine wpl_app2 Tryz.elKd encKd_ok rfl _ _ rfl w.heap.size _ _ ks1 [(i,x.s)] rfl rfl (HL4.out.1.ext HMA.out) (Sl.one (F:=λ_=>False) (x:=((i,x.s):KidA)) (enc:=encKd) (sz:=2) HLB.out (λf=>f)) (by have:=HKL.out;simp only[List.length_cons,List.length_nil];omega) (by have:=HN4.out.size;have:=HMA.out.size;omega) (λf=>f) ?_;simp only[List.length_cons,List.length_nil,Nat.zero_add];intro a6 c6 w6 hO6 hm6 hat6)
    have hN5:=HN4.out.trans (Nxt.ext HN4.out.env HN4.out.sub HMA.out)
    have happ:=(HL4.out.ext HMA.out).app hN5 (by simpa using hO6) hm6 hat6 (Nat.le_refl _)
    have HS6:Hid (DnS F P ad w w6 X c s gen (.slice (some ⟨qb,qoff,none⟩) xs.length vc) xs L G2 l2 (.slice a6 (ks1.length+1) c6) (ks1++[(i,n.2)])):=Lib.hid ⟨P4,plusV F4 (.slice a6 (ks1.length+1) c6),(HG4.out.at HMA.out).app (HL4.out.ext HMA.out) hm6 hat6 (Nat.le_refl _),happ.1,by
      refine (HS4.out.ext HMA.out).step (hm6.mono (λk hk=>(HL4.out.2 k hk).1)) (λk hk hn hf=>?_)
      rcases hf with hf|hf
      ·exact hn hf
      ·rcases hat6 with e|e
       ·exact hn (HL4.out.2 k (e ▸ hf)).1
       ·rw[e] at hf;injection hf with hf;omega,(HB4.out.ext HMA.out).mods hm6 (λhk=>(HL4.out.1.ext HMA.out).notB (HB4.out.ext HMA.out) (by decide) _ hk rfl),HP4.out,by rw[← HFS.out];exact happ.2⟩
    clear hO6 hm6 hat6 hN5 happ
    go_wp2_with fail
    go_roundg (gk-1)
    case measure=>omega
    case rel=>exact⟨k+1,G2,l2,ks1++[(i,n.2)],_,by omega,rfl,by go_num,HDN,HS6⟩
   ·cases h4
  ·have hk:k=xs.length:=by omega
   obtain⟨P1,F1,hG1,hN1,hS1,hB1,hPX,hLR⟩:=HS.out
   have hall:L.take k=L:=by rw[hk,HXL.out,List.take_length]
   have he:=HD1.out
   rw[hall,HD.out] at he
   injection he with he
   injection he with e1 e2
   injection e2 with e2 e3
   subst e1 e2 e3
   have hkl:=(downs_lim gen L G l HD.out).2.2.2.2
   have HFIN:Hid (PgR F1 wr P1 c s G' l'∧Nxt P P1 F F1 ad w wr∧Own (λ_=>False) wr w.heap.size 151 2 encKd kv ks∧(∀g,kv.ownBlock=some g→F1 g∧¬ P1 g)):=Lib.hid ⟨hG1,hN1,hLR.1,hLR.2⟩
   have HKL:Hid (ks.length≤100000):=Lib.hid (by omega)
   clear hG1 hN1 hS1 hB1 hPX hLR hall hkl
   go_wp2_with fail
   refine bodyPost_ret (v:=.tuple #[kv,.nilIface]) (by simp[results,Tryz.results67,go_sem]) rfl ?_
   obtain⟨q1,q2,q3,q4⟩:=HFIN.out
   exact⟨P1,λk=>F k∨P1 k,q1.anti (λk hk=>hk.elim (q2.grow k) (q2.sub k)),q2.least,kv,rfl,Own.sl (F:=λk=>F k∨P1 k) ⟨q3.1,λg hg hf=>hf.elim (λhf=>by have h1:=(q3.lt g hg).1;have h2:=HEV.out.lt g hf;omega) (λhp=>(q4 g hg).2 hp)⟩ encKd_ok.len (by have:=HKL.out;omega)⟩
end
section
variable {P P' F F':Nat→Prop}{ad:Nat→Addr}{w w':World}{c s:Nat}{G:GA}{l:List Nat}
theorem bentryS_any(gen:Nat)(key v:ByteArray)(hv:v.size≤24) :
  Calls Tryz.prog 66 #[pgV c s gen,.agg #[.string key,.string v]] w λe w'=>e=.returned (.tuple #[.agg #[.string key,.string v,.int .i64 0,.int .i64 0],.nilIface])∧Ext w w':=by
 have hv2:(v.size:Int)≤24:=by omega
 have HB:Hid (Blk (((w.alloc (.cells #[.pointer (some ⟨c,0,none⟩),.pointer (some ⟨s,0,none⟩),.int .u64 (gen:Int)] 31)).alloc (.cells #[.string key,.string v] 25)).alloc (.cells #[.string key,.string v,.int .i64 0,.int .i64 0] 141)) (w.heap.size+1+1) #[.string key,.string v,.int .i64 0,.int .i64 0] 141):=Lib.hid (heap_at (by simp))
 have HM:Hid (Ext w (((w.alloc (.cells #[.pointer (some ⟨c,0,none⟩),.pointer (some ⟨s,0,none⟩),.int .u64 (gen:Int)] 31)).alloc (.cells #[.string key,.string v] 25)).alloc (.cells #[.string key,.string v,.int .i64 0,.int .i64 0] 141))):=Lib.hid ((((Mods.refl _ w).alloc _).alloc _).alloc _)
 clear hv
 unfold pgV
 go_enter Tryz.func66, Tryz.ntmps66
 go_wp2_with fail
 refine bodyPost_ret (results_row_tmp rfl _ _ (w.heap.size+1+1) 141 _ _ rfl HB.out Tryz.underlying141 rfl Tryz.entSz) rfl ?_
 exact⟨rfl,HM.out⟩
set_option maxHeartbeats 2000000 in
theorem bentryL_any(hL:Env F ad w)(hP:∀k,P k→F k)(h:PgR F w P c s G l)(gen:Nat)(hgen:gen<18446744073709551616)(key v:ByteArray)(h25:25≤v.size)(h4096:v.size≤4096)(hlow:LowL l)(hlb:l.length=G.blocks)(hco:G.cost+100≤1000000) :
  Calls Tryz.prog 66 #[pgV c s gen,.agg #[.string key,.string v]] w (EntP F P ad w c s G l (entryP G l gen key v)):=by
 obtain⟨w1,hw1⟩:∃w1,w1=((w.alloc (.cells #[.pointer (some ⟨c,0,none⟩),.pointer (some ⟨s,0,none⟩),.int .u64 (gen:Int)] 31)).alloc (.cells #[.string key,.string v] 25)).alloc (.cells entZc 141):=⟨_,rfl⟩
 have m0:Ext w w1:=by rw[hw1];exact (((Mods.refl _ w).alloc _).alloc _).alloc _
 have hz:w1.heap.size=w.heap.size+3:=by rw[hw1];simp
 have hN:Nxt P P F (λk=>F k∨(w.heap.size≤k∧k<w1.heap.size)) ad w w1:=Nxt.new hL hP (Q:=λk=>w.heap.size≤k∧k<w1.heap.size) m0 (λk hk=>hk.1) (λk hk=>hk.2)
 have HR:=Lib.hid (show VarR (λk=>F k∨(w.heap.size≤k∧k<w1.heap.size)) P w w1 (w.heap.size+1+1) entZc 141 from ⟨by rw[hw1];exact heap_at (by simp),.inr ⟨by omega,by omega⟩,λhp=>by have:=h.bd _ hp;omega,by omega⟩)
 have hB:Blk w1 w.heap.size #[.pointer (some ⟨c,0,none⟩),.pointer (some ⟨s,0,none⟩),.int .u64 (gen:Int)] 31:=by rw[hw1];exact ((Blk.new w _ _).alloc _).alloc _
 have hBP:Blk w1 (w.heap.size+1) #[.string key,.string v] 25:=by rw[hw1];exact Blk.alloc (heap_at (by simp)) _
 have HBP:=Lib.hid hBP
 have HNP:Hid (¬ P (w.heap.size+1)):=Lib.hid (λhp=>by have:=h.bd _ hp;omega)
 have q0:=hBP.cell (o:=0) rfl
 have q1:=hBP.cell (o:=1) rfl
 have HG:=Lib.hid (h.plusNew hP (Q:=λk=>w.heap.size≤k∧k<w1.heap.size) m0 (λk hk=>hk.1))
 have HN:=Lib.hid hN
 have HWR:=Lib.hid (chWrite_any hN.env hN.sub HG.out gen hgen v h25 h4096 hlow.ok hlb hco)
 have b0:=hB.cell (o:=0) rfl
 have b1:=hB.cell (o:=1) rfl
 have b2:=hB.cell (o:=2) rfl
 have hvi:¬ (v.size:Int)≤24:=by omega
 have HEP:Hid (entryP G l gen key v=match takeA (needN v.size G.size).toNat l with
  | some (ids,l1)=>.inl (chPuts gen v.data.toList (G.size-28) ids ids.length G,l1,⟨key,e0,((ids.getD 0 0:Nat):Int),(v.size:Int)⟩)
  | none=>.inr 3):=Lib.hid (by unfold entryP;rw[if_neg (by omega)];rfl)
 have HW1:=Lib.hid hw1
 clear hL hP h m0 hN hw1 hB hBP hlow hlb hco
 unfold pgV at HWR ⊢
 go_enter Tryz.func66, Tryz.ntmps66
 go_wp2_with fail
 rw[← HW1.out]
 refine HWR.out.mono ?_
 rintro e w2 ⟨P2,F2,G2,l2,hG2,hN2,hr⟩
 have hR2:=HR.out.nxt hN2
 have hq2:=hN2.blk HBP.out HNP.out
 have q0:=hq2.cell (o:=0) rfl
 have q1:=hq2.cell (o:=1) rfl
 have HG2:=Lib.hid hG2
 have HN2:=Lib.hid (HN.out.trans hN2)
 have r0:=hR2.blk.cell (o:=0) rfl
 have r1:=hR2.blk.cell (o:=1) rfl
 have r2:=hR2.blk.cell (o:=2) rfl
 have r3:=hR2.blk.cell (o:=3) rfl
 have rf:=hR2.blk.frozen
 have HR2:=Lib.hid hR2
 clear hG2 hN2 hR2 hq2
 rcases hr with ⟨ids,h1,_,_,rfl,rfl⟩|⟨a,f,h1,rfl,rfl,h4,rfl,hE⟩
 ·have HS:=Lib.hid (HEP.out.trans (by rw[h1]))
  clear h1
  go_wp2_with fail
  have mR:=Mods.set4 (F:=λk=>k=w.heap.size+1+1) (Mods.refl _ w2) (R:=w.heap.size+1+1) (.inr rfl) (.string key) (.string ⟨#[]⟩) (.int .i64 ((ids.getD 0 0:Nat):Int)) (.int .i64 (v.size:Int))
  have bR:=HR2.out.blk.set4 (.string key) (.string ⟨#[]⟩) (.int .i64 ((ids.getD 0 0:Nat):Int)) (.int .i64 (v.size:Int))
  refine bodyPost_ret (results_row_tmp rfl _ _ (w.heap.size+1+1) 141 _ _ rfl bR Tryz.underlying141 rfl Tryz.entSz) rfl ?_
  exact⟨P2,F2,_,_,HG2.out.var HR2.out mR,HN2.out.var HR2.out mR,.inl ⟨_,HS.out,rfl⟩⟩
 ·have HS:=Lib.hid (HEP.out.trans (by rw[h1]))
  have HFR:=Lib.hid (fr_giveFree a G _ h4)
  have HE:=Lib.hid hE
  clear h1 h4 hE
  go_wp2_with fail
  have mR:=Mods.set4 (F:=λk=>k=w.heap.size+1+1) (Mods.refl _ w2) (R:=w.heap.size+1+1) (.inr rfl) (.string key) (.string ⟨#[]⟩) (.int .i64 0) (.int .i64 (v.size:Int))
  have bR:=HR2.out.blk.set4 (.string key) (.string ⟨#[]⟩) (.int .i64 0) (.int .i64 (v.size:Int))
  refine bodyPost_ret (results_row_tmp rfl _ _ (w.heap.size+1+1) 141 _ _ rfl bR Tryz.underlying141 rfl Tryz.entSz) rfl ?_
  exact⟨P2,F2,_,_,HG2.out.var HR2.out mR,HN2.out.var HR2.out mR,.inr ⟨3,⟨key,⟨#[]⟩,0,(v.size:Int)⟩,f,_,HS.out,HFR.out,by rw[(giveG_same a G).2.2.1];exact Nat.le_refl _,rfl,HE.out.mods (HR2.out.mF mR)⟩⟩
theorem bentry_any(hL:Env F ad w)(hP:∀k,P k→F k)(h:PgR F w P c s G l)(gen:Nat)(hgen:gen<18446744073709551616)(key v:ByteArray)(h4096:v.size≤4096)(hlow:LowL l)(hlb:l.length=G.blocks)(hco:G.cost+100≤1000000) :
  Calls Tryz.prog 66 #[pgV c s gen,.agg #[.string key,.string v]] w (EntP F P ad w c s G l (entryP G l gen key v)):=by
 by_cases h24:v.size≤24
 ·refine (bentryS_any gen key v h24).mono ?_
  rintro e w' ⟨rfl,hm⟩
  have hN:=Nxt.ext hL hP hm
  refine⟨P,F,G,l,h.at hm,hN,.inl ⟨⟨key,v,0,0⟩,?_,rfl⟩⟩
  unfold entryP;rw[if_pos h24]
 ·exact bentryL_any hL hP h gen hgen key v (by omega) h4096 hlow hlb hco
end
end
section
open Go.RowKit
theorem ents_split(gen:Nat):∀(a b:List PairS) (G:GA) (l:List Nat) {G':GA} {l':List Nat} {es:List EntryA},entsP gen G l (a++b)=.inl (G',l',es) →
  ∃G1 l1 es1 es2,entsP gen G l a=.inl (G1,l1,es1)∧entsP gen G1 l1 b=.inl (G',l',es2)∧es=es1++es2
 | [],b,G,l,G',l',es,h=>⟨G,l,[],es,rfl,h,rfl⟩
 | x :: a,b,G,l,G',l',es,h=>by
  rw[List.cons_append,entsP] at h
  cases hd:entryP G l gen x.1 x.2 with
  | inr k=>rw[hd] at h;cases h
  | inl y =>
   obtain⟨G2,l2,e⟩:=y
   rw[hd] at h
   simp only at h
   cases hr:entsP gen G2 l2 (a++b) with
   | inr k=>rw[hr] at h;cases h
   | inl y =>
    obtain⟨G3,l3,es0⟩:=y
    rw[hr] at h
    injection h with h
    injection h with h1 h2
    injection h2 with h2 h3
    subst h1 h2 h3
    obtain⟨G1,l1,es1,es2,e1,e2,rfl⟩:=ents_split gen a b _ _ hr
    exact⟨G1,l1,e :: es1,es2,by rw[entsP,hd];simp only;rw[e1],e2,rfl⟩
theorem ents_one{gen:Nat}{G:GA}{l:List Nat}{x:PairS}{G':GA}{l':List Nat}{es:List EntryA}(h:entsP gen G l [x]=.inl (G',l',es)):∃e,entryP G l gen x.1 x.2=.inl (G',l',e)∧es=[e]:=by
 rw[entsP] at h
 cases hd:entryP G l gen x.1 x.2 with
 | inr k=>rw[hd] at h;cases h
 | inl y =>
  obtain⟨G2,l2,e⟩:=y
  rw[hd] at h
  simp only[entsP] at h
  injection h with h
  injection h with h1 h2
  injection h2 with h2 h3
  subst h1 h2 h3
  exact⟨e,rfl,rfl⟩
theorem ents_keep{gen:Nat}{G:GA}{l:List Nat}{ps:List PairS}{G':GA}{l':List Nat}{es:List EntryA}(hc:CtxG G l)(hp:∀x∈ps,PairOk x)(h:entsP gen G l ps=.inl (G',l',es)) :
  CtxG G' l'∧(∀e∈es,rightE e=true)∧G'.size=G.size∧G'.cost≤G.cost+18 * ps.length∧es.length=ps.length:=by
 rcases ents_tr gen ps G l hc hp with ⟨a1,_⟩|⟨G1,l1,es1,q,a1,a2,a3,a4,a5,a6,a7,a8,a9⟩
 ·rw[a1] at h;cases h
 ·rw[a1] at h
  injection h with h
  injection h with h1 h2
  injection h2 with h2 h3
  subst h1 h2 h3
  obtain⟨b1,b2,b3⟩:=ents_cost gen ps G l hc.s256 hc.s1024 (λx hx=>(hp x hx).2) a1
  exact⟨a5,a8,b2,b1,b3⟩
theorem downs_fst(gen:Nat):∀(a:List PtA) (G:GA) (l:List Nat) {G':GA} {l':List Nat} {ks:List KidA},downsP gen G l a=.inl (G',l',ks)→ks.map (·.2)=a.map (·.2)
 | [],G,l,G',l',ks,h=>by
  injection h with h
  injection h with h1 h2
  injection h2 with h2 h3
  subst h3
  rfl
 | x :: a,G,l,G',l',ks,h=>by
  obtain⟨G1,l1,ks1,ks2,e1,e2,rfl⟩:=downs_split gen [x] a G l h
  obtain⟨i,_,rfl,rfl,rfl⟩:=downs_one e1
  rw[List.map_append,downs_fst gen a _ _ e2]
  rfl
section
variable {α:Type}(mk:List α→NodeA)(z:Int)
theorem groups_few(l:List α):(groupsG mk z l).length≤l.length:=by
 have h:=fillG_len mk z l []
 simp only[List.length_nil,Nat.zero_add] at h
 unfold groupsG
 rcases evenG_cases mk (z:=z) (fillG mk z [] l) with h1|⟨r,a,b,h1,_,⟨_,h2⟩|⟨_,k,_,h2⟩⟩
 ·rw[h1];exact h
 ·rw[h2];rw[h1] at h;simp only[List.length_append,List.length_cons,List.length_nil] at h ⊢;omega
 ·rw[h2];rw[h1] at h;simp only[List.length_append,List.length_cons,List.length_nil] at h ⊢;omega
theorem groups_mem{l:List α}:∀g∈groupsG mk z l,∀x∈g,x∈l:=λg hg x hx=>by
 have:=groups_flat mk z l
 rw[← this]
 exact List.mem_flatten.2 ⟨g,hg,hx⟩
theorem groups_wt{M:Int}(A:α→Prop){l:List α}(hA:∀x∈l,A x)(h1:∀x,A x→weightN (mk [x])≤z)(hz:z≤M)(happ:∀a b,(∀x∈a++b,A x)→a≠[]→weightN (mk a)≤z→weightN (mk b)≤z→weightN (mk (a++b))≤M)
  (hcut:∀g k,weightN (mk (g.take k))≤weightN (mk g)∧weightN (mk (g.drop k))≤weightN (mk g)):∀g∈groupsG mk z l,weightN (mk g)≤M:=by
 have hf:=fillG_fit' mk z A h1 l [] hA (by simp)
 have hne:=fillG_ne mk z l [] (by simp)
 have hfl:=fillG_flat mk z l []
 unfold groupsG
 rcases evenG_cases mk (z:=z) (fillG mk z [] l) with e1|⟨r,a,b,e1,_,⟨e2,e3⟩|⟨_,k,_,e3⟩⟩
 ·rw[e1];exact λg hg=>Int.le_trans (hf g hg) hz
 ·rw[e3]
  intro g hg
  rcases List.mem_append.1 hg with hg|hg
  ·exact Int.le_trans (hf g (by rw[e1];simp[hg])) hz
  ·rw[List.mem_singleton.1 hg];omega
 ·rw[e3]
  have hab:weightN (mk (a++b))≤M:=happ a b (λx hx=>hA x (by
    rw[e1] at hfl
    have:x∈(r++[a,b]).flatten:=by simp only[List.flatten_append,List.flatten_cons,List.flatten_nil,List.append_nil];exact List.mem_append_right _ hx
    rw[hfl] at this
    simpa using this)) (hne a (by rw[e1];simp)) (hf a (by rw[e1];simp)) (hf b (by rw[e1];simp))
  have hc:=hcut (a++b) k
  intro g hg
  rcases List.mem_append.1 hg with hg|hg
  ·exact Int.le_trans (hf g (by rw[e1];simp[hg])) hz
  ·simp only[List.mem_cons,List.not_mem_nil,or_false] at hg
   rcases hg with rfl|rfl <;> omega
end
theorem groupsL_wt{es:List EntryA}{z:Int}(hz:232≤z)(hz2:z≤1000)(h:∀e∈es,rightE e=true):∀g∈groupsG mkL z es,weightN (mkL g)≤3000 :=
 groups_wt mkL z (λe=>rightE e=true) h (λx hx=>by have:=rightE_wt hx;rw[mkL_wt];simp only[sumE];omega) (by omega) (λa b _ _ h1 h2=>by rw[mkL_wt] at *;rw[sumE_append];omega)
  (λg k=>by have:=sumE_split g k;have:=sumE_nonneg (g.take k);have:=sumE_nonneg (g.drop k);rw[mkL_wt,mkL_wt,mkL_wt];omega)
theorem groupsI_wt{ks:List KidA}{z:Int}(hz:232≤z)(hz2:z≤1000)(h:∀k∈ks,keyB k.2=true):∀g∈groupsG mkI z ks,weightN (mkI g)≤3000 :=
 groups_wt mkI z (λk=>keyB k.2=true) h (λx hx=>by rw[mkI_wt];simp[sumK];omega) (by omega) (λa b hA ha h1 h2=>by
   rw[mkI_wt] at *
   rw[tail_append ha,List.map_append,sumK_append]
   cases b with
   | nil=>simp only[List.map_nil,sumK] at *;omega
   | cons x b =>
    have:=(keyB_iff x.2).1 (hA x (by simp))
    simp only[List.map_cons,sumK,List.tail_cons] at *
    omega)
  (λg k=>by
   rw[mkI_wt,mkI_wt,mkI_wt,tail_take1,List.map_take]
   have e:=sumK_split (g.tail.map (·.2)) (k-1)
   have n1:=sumK_nonneg ((g.tail.map (·.2)).take (k-1))
   have n2:=sumK_nonneg ((g.tail.map (·.2)).drop (k-1))
   have e2:=sumK_split (g.tail.map (·.2)) k
   have n3:=sumK_nonneg ((g.tail.map (·.2)).take k)
   have:(g.drop k).tail.map (·.2)=(g.tail.map (·.2)).drop k:=by
    rw[List.tail_drop,← List.drop_one,List.map_drop,List.map_drop,List.drop_drop,Nat.add_comm]
   rw[this]
   omega)
end
end Go.Proofs.YtchklfmggpconaaGreatDoor
