import Derived.Test.YtdnbmdghmmpgcaaGreatDoorQ30
import Derived.BigQuiet
import Derived.Test.YtdnbmdghmmpgcaaGreatDoorQ28
namespace Go.Proofs.YtdnbmdghmmpgcaaGreatDoor
open Lib renaming hid->oh
set_option maxHeartbeats 4000000
set_option maxRecDepth 100000
section
open Go.RowKit
attribute [local go_sem ↓] Go.wp_at_zero Go.wp_at_succ
structure jF(F P:Nat->Prop)(w0 wr:World)(b:Nat)(c:Array Value)(t:TypeId):Prop where
 blk:zK wr b c t
 f:F b
 p:¬ P b
 new:w0.heap.size<=b
section
variable {P P' F F':Nat->Prop}{ad:Nat->Addr}{w0 w w':World}{b b2:Nat}{c c2:Array Value}{t t2:TypeId}
theorem jF.nxt(h:jF F P w0 w b c t)(n:zV P P' F F' ad w w'):jF F' P' w0 w' b c t:=⟨n.blk h.blk h.p,n.grow b h.f,n.not h.blk.lt h.p,h.new⟩
theorem jF.ext(h:jF F P w0 w b c t)(m:zG w w'):jF F P w0 w' b c t:=⟨h.blk.ext m,h.f,h.p,h.new⟩
theorem jF.other(h:jF F P w0 w b c t){b2:Nat}(m:zA (λk=>k=b2) w w')(hb:b≠b2):jF F P w0 w' b c t:=⟨h.blk.mods m hb,h.f,h.p,h.new⟩
end
section
variable {P P0 F F0:Nat->Prop}{ad:Nat->Addr}{w0 w w':World}{b:Nat}{cc:Array Value}{t:TypeId}{c s:Nat}{G:GA}{l:List Nat}
theorem vH.var(h:vH F w P c s G l)(v:jF F P w0 w b cc t)(m:zA (λk=>k=b) w w'):vH F w' P c s G l:=h.res m v.p v.f
theorem zV.var(n:zV P0 P F0 F ad w0 w)(v:jF F P w0 w b cc t)(m:zA (λk=>k=b) w w'):zV P0 P F0 F ad w0 w':=n.resD m v.new v.f
theorem jF.put(v:jF F P w0 w b cc t)(i:Nat)(x:Value):jF F P w0 (w.setCell ⟨b,i,none⟩ x) b (cc.setIfInBounds i x) t:=⟨v.blk.set i x,v.f,v.p,v.new⟩
theorem jF.mF(v:jF F P w0 w b cc t)(m:zA (λk=>k=b) w w'):zA F w w':=m.mono (λ_ hk=>hk ▸ v.f)
end
def zGk(o:zBn):Array Value:=#[.int .i64 (o.id0:Int),.int .i64 (o.id1:Int),.string o.key,.bool o.two,.bool o.news]
def zSV:zBn:=⟨0,0,e0,false,false⟩
abbrev vR:Array Value:=#[.int .i64 0,.int .i64 0,.string ⟨#[]⟩,.bool false,.bool false]
def zL7(F P:Nat->Prop)(ad:Nat->Addr)(w:World)(c s:Nat)(G:GA)(l:List Nat)(r:StA zBn)(e:Ending)(w':World):Prop :=
  ∃(P' F':Nat->Prop) (G':GA) (l':List Nat),vH F' w' P' c s G' l'/\zV P P' F F' ad w w' /\
    ((∃ o, r = .inl (G', l', o) /\ e = .returned (.tuple #[.agg (zGk o), .nilIface])) \/
     (∃k o f el,r=.inr k/\FrG G l G' l'/\e=.returned (.tuple #[.agg (zGk o),zJ f])/\yY F' ad w' (zJ f) el k))
theorem Tryz.outSz:(Tryz.prog.info? 267).map (·.size)=some 5:=by kernel_rfl
theorem zQz{G:GA}{l:List Nat}{old i:Nat}{n:zI}(h:qQ G l old n=some i):zCW n G.size:=by
 unfold qQ at h;split at h
 .rename_i hd;exact hd
 .cases h
theorem zCG(G:GA)(l:List Nat)(gen old:Nat)(n:zI):(yJ G l gen old n).size=G.size/\(yJ G l gen old n).blocks=G.blocks/\(yJ G l gen old n).cost<=G.cost+1:=by
 unfold yJ;split
 .exact⟨rfl,rfl,by omega⟩
 .obtain⟨h1,h2,h3⟩:=zD6 G l old;exact⟨h1,h2,by show (jB G l old).cost+1<=_;omega⟩
structure zGN(G:GA)(l:List Nat)(old:Nat)(n:zI):Prop where
 place:vG l old
 low:zGj l
 len:l.length<=G.blocks
 cost:G.cost+10<=1000000
 wt:zH n<=100000
 bytes:zP n=true->(yD n).length<=100000
 cut:¬ zH n<=(G.size:Int)-24->∃a k b,zFd n=some (a,k,b)/\zH a<=(G.size:Int)-24/\zH b<=(G.size:Int)-24
 few:n.entries.length<=100000/\n.keys.length<=100000/\n.kids.length<=100000
section
variable {P P' F F':Nat->Prop}{ad:Nat->Addr}{w w':World}{c s:Nat}{G:GA}{l:List Nat}
theorem zHN(n:zI)(hF:zH n<=(G.size:Int)-24)(hL:yG F ad w)(hP:∀k,P k->F k)(h:vH F w P c s G l)(gen old:Nat)(hgen:gen<18446744073709551616)(ve vk vi:Value)(hve:Sl F w 4 jX ve n.entries)(hvk:Sl F w 1 jD vk n.keys)(hvi:Sl F w 1 yP vi n.kids)(hok:zGN G l old n) :
  Calls Tryz.prog 227 #[pgV c s gen,.int .i64 (old:Int),.agg #[.bool n.leaf,ve,vk,vi]] w (zL7 F P ad w c s G l (qK G l gen old n)):=by
 have HFF:=oh hF;clear hF;obtain⟨w1,hw1⟩:∃w1,w1=(((w.alloc (gP c s gen)).alloc (.cells #[.bool n.leaf,ve,vk,vi] 272)).alloc (.cells vR 267)).alloc (.cells vR 267):=⟨_,rfl⟩;have m0:zG w w1:=by rw[hw1];exact ((((zA.refl _ w).alloc _).alloc _).alloc _).alloc _
 have hz:w1.heap.size=w.heap.size+4:=by rw[hw1];simp
 have hN:zV P P F (λk=>F k\/(w.heap.size<=k/\k<w1.heap.size)) ad w w1:=zV.new hL hP (Q:=λk=>w.heap.size<=k/\k<w1.heap.size) m0 (λk hk=>hk.1) (λk hk=>hk.2);have HB:=oh (show jF (λk=>F k\/(w.heap.size<=k/\k<w1.heap.size)) P w w1 w.heap.size (gP c s gen) 142 from ⟨by rw[hw1];exact (((zK.new w _ _).alloc _).alloc _).alloc _,.inr ⟨by omega,by omega⟩,λhp=>by have:=h.bd _ hp;omega,by omega⟩);have HD:=oh (show jF (λk=>F k\/(w.heap.size<=k/\k<w1.heap.size)) P w w1 (w.heap.size+1) #[.bool n.leaf,ve,vk,vi] 272 from ⟨by rw[hw1];exact ((show zK ((w.alloc _).alloc (.cells #[.bool n.leaf,ve,vk,vi] 272)) (w.heap.size+1) #[.bool n.leaf,ve,vk,vi] 272 from zO (by simp)).alloc _).alloc _,.inr ⟨by omega,by omega⟩,λhp=>by have:=h.bd _ hp;omega,by omega⟩);have HR:=oh (show jF (λk=>F k\/(w.heap.size<=k/\k<w1.heap.size)) P w w1 (w.heap.size+1+1) vR 267 from ⟨by rw[hw1];exact (show zK (((w.alloc _).alloc _).alloc (.cells vR 267)) (w.heap.size+1+1) vR 267 from zO (by simp)).alloc _,.inr ⟨by omega,by omega⟩,λhp=>by have:=h.bd _ hp;omega,by omega⟩);have HO:=oh (show jF (λk=>F k\/(w.heap.size<=k/\k<w1.heap.size)) P w w1 (w.heap.size+1+1+1) vR 267 from ⟨by rw[hw1];exact zO (by simp),.inr ⟨by omega,by omega⟩,λhp=>by have:=h.bd _ hp;omega,by omega⟩);have HG:=oh (h.plusNew hP (Q:=λk=>w.heap.size<=k/\k<w1.heap.size) m0 (λk hk=>hk.1));have HVE:=oh (hN.sl hP hve);have HVK:=oh (hN.sl hP hvk);have HVI:=oh (hN.sl hP hvi);have HLIM:=oh h.lim;have HN:=oh hN;have HOK:=oh hok;have HSZ:=oh (λW (m:zG w1 W)=>zDz (HG.out.at m) gen);have HFT:Hid (∀W,zG w1 W -> Calls Tryz.prog 232 #[.agg #[.bool n.leaf,ve,vk,vi],.int .i64 (G.size:Int)] W λe w'=>e=.returned (.bool (decide (zH n<=(G.size:Int)-24)))/\zG W w'):=oh (λW m=>zEm n ve vk vi W (HVE.out.ext m) (HVK.out.ext m) (by have:=hok.wt;omega) _ (by omega) (by have:=HLIM.out;omega));obtain⟨ea,ec,rfl,_,_,_,_⟩:=hve;obtain⟨ka,kc,rfl,_,_,_,_⟩:=hvk;obtain⟨ia,ic,rfl,_,_,_,_⟩:=hvi;have b0:=HB.out.blk.cell (o:=0) rfl;have b1:=HB.out.blk.cell (o:=1) rfl;have b2:=HB.out.blk.cell (o:=2) rfl;have n0:=HD.out.blk.cell (o:=0) rfl;have n1:=HD.out.blk.cell (o:=1) rfl;have n2:=HD.out.blk.cell (o:=2) rfl;have n3:=HD.out.blk.cell (o:=3) rfl;have HW1:=oh hw1;clear hL hP h m0 hN hok hw1;unfold pgV at HSZ ⊢
 go_enter Tryz.func227, Tryz.ntmps227
 go_wp2_with fail;rw[<- HW1.out];go_cut [17] (λv17 wx=>v17=.bool (decide (zH n<=(G.size:Int)-24))/\Hid (zG w1 wx))
 case first =>
  go_region_held3 (λw'=>w'.cell? ⟨w.heap.size+1,0,none⟩=some (.bool n.leaf)/\w'.cell? ⟨w.heap.size+1,1,none⟩=some (.slice ea n.entries.length ec)/\w'.cell? ⟨w.heap.size+1,2,none⟩=some (.slice ka n.keys.length kc)/\w'.cell? ⟨w.heap.size+1,3,none⟩=some (.slice ia n.kids.length ic) /\
    w'.cell? ⟨w.heap.size,0,none⟩=some (.pointer (some ⟨c,0,none⟩))/\w'.cell? ⟨w.heap.size,1,none⟩=some (.pointer (some ⟨s,0,none⟩))/\w'.cell? ⟨w.heap.size,2,none⟩=some (.int .u64 (gen:Int)))
   (first|(with_reducible exact⟨n0,n1,n2,n3,b0,b1,b2⟩)|(with_reducible exact⟨y0,y1,y2,y3,d0,d1,d2⟩)|(with_reducible exact⟨z0,z1,z2,z3,f0,f1,f2⟩)|go_keep)
   (first
    | (go_at_call 233;(with_reducible refine (HSZ.out _ (zA.refl _ w1).drew).mono ?_);rintro e w2 ⟨rfl,hm2⟩;have y0:=zE hm2 n0;have y1:=zE hm2 n1;have y2:=zE hm2 n2;have y3:=zE hm2 n3;have d0:=zE hm2 b0;have d1:=zE hm2 b1;have d2:=zE hm2 b2)
    | (go_at_call 232;refine (HFT.out _ ((zA.refl _ w1).drew.trans hm2)).mono ?_;rintro e w3 ⟨rfl,hm3⟩;have z0:=zE hm3 y0;have z1:=zE hm3 y1;have z2:=zE hm3 y2;have z3:=zE hm3 y3;have f0:=zE hm3 d0;have f1:=zE hm3 d1;have f2:=zE hm3 d2)
    | fail)
  all_goals
   go_wp2_with fail;go_meet;exact⟨rfl,oh ((zA.refl _ w1).drew.trans (hm2.trans hm3))⟩
 obtain⟨rfl,HX⟩:=hcut;have HB:=oh (HB.out.ext HX.out);have HD:=oh (HD.out.ext HX.out);have HR:=oh (HR.out.ext HX.out);have HO:=oh (HO.out.ext HX.out);have HN1:=oh (HN.out.trans (zV.ext HN.out.env HN.out.sub HX.out));have HG:=oh (HG.out.at HX.out);have b0:=HB.out.blk.cell (o:=0) rfl;have b1:=HB.out.blk.cell (o:=1) rfl;have b2:=HB.out.blk.cell (o:=2) rfl;have n0:=HD.out.blk.cell (o:=0) rfl;have n1:=HD.out.blk.cell (o:=1) rfl;have n2:=HD.out.blk.cell (o:=2) rfl;have n3:=HD.out.blk.cell (o:=3) rfl;cases hfit:decide (zH n<=(G.size:Int)-24) with
 | true =>
  have HFT:=oh (rQ hfit);have HDW:=oh (zGK HN1.out.env HN1.out.sub HG.out gen old hgen n _ _ _ (HVE.out.ext HX.out) (HVK.out.ext HX.out) (HVI.out.ext HX.out) HOK.out.bytes HOK.out.place.ok HOK.out.place.two (HOK.out.place.lt (by have:=HLIM.out;omega)) HOK.out.len (by have:=HOK.out.cost;omega));unfold pgV at HDW;clear hfit;go_wp2_with fail;refine HDW.out.mono ?_;rintro e w2 ⟨P2,F2,hG2,hN2,hr⟩;have HR2:=oh (HR.out.nxt hN2);have hO2:=HO.out.nxt hN2;have HG2:=oh hG2;have HN2:=oh (HN1.out.trans hN2);have o0:=hO2.blk.cell (o:=0) rfl;have o1:=hO2.blk.cell (o:=1) rfl;have o2:=hO2.blk.cell (o:=2) rfl;have o3:=hO2.blk.cell (o:=3) rfl;have o4:=hO2.blk.cell (o:=4) rfl;have of:=hO2.blk.frozen;have HO2:=oh hO2;have r0:=HR2.out.blk.cell (o:=0) rfl;have r1:=HR2.out.blk.cell (o:=1) rfl;have r2:=HR2.out.blk.cell (o:=2) rfl;have r3:=HR2.out.blk.cell (o:=3) rfl;have r4:=HR2.out.blk.cell (o:=4) rfl;have rf:=HR2.out.blk.frozen;clear hG2 hN2 hO2;rcases hr with ⟨i,hi,rfl⟩|⟨hi,f,el,rfl,hE⟩
  .have HSA:Hid (qK G l gen old n=.inl (yJ G l gen old n,yT G l old n,⟨i,0,e0,false,false⟩)):=oh (by unfold qK;rw[if_pos HFT.out,hi]);clear hi;go_wp2_with fail;have mO:=zA.at (λk=>k=w.heap.size+1+1+1) w2 (w.heap.size+1+1+1) 0 (.int .i64 (i:Int)) rfl;have g3:=HG2.out.var HO2.out mO;have n3:=HN2.out.var HO2.out mO;have r3:=HR2.out.other mO (by omega);have mR:=zA.set5 (F:=λk=>k=w.heap.size+1+1) (zA.refl _ (w2.setCell ⟨w.heap.size+1+1+1,0,none⟩ (.int .i64 (i:Int)))) (R:=w.heap.size+1+1) (.inr rfl) (.int .i64 (i:Int)) (.int .i64 0) (.string ⟨#[]⟩) (.bool false) (.bool false);have bR:=r3.blk.set5 (.int .i64 (i:Int)) (.int .i64 0) (.string ⟨#[]⟩) (.bool false) (.bool false);refine bodyPost_ret (zF rfl _ _ (w.heap.size+1+1) 267 _ _ rfl bR Tryz.underlying267 rfl Tryz.outSz) rfl ?_;exact⟨P2,F2,_,_,g3.var r3 mR,n3.var r3 mR,.inl ⟨_,HSA.out,rfl⟩⟩
  .have HSA:Hid (qK G l gen old n=.inr (zBK G n)):=oh (by unfold qK;rw[if_pos HFT.out,hi]);have HFR:Hid (FrG G l (yJ G l gen old n) (yT G l old n)):=oh (zKi HOK.out.place (by rw[HOK.out.low.1];simp));have HE:=oh hE;clear hi hE;go_wp2_with fail;have mO:=zA.at (λk=>k=w.heap.size+1+1+1) w2 (w.heap.size+1+1+1) 0 (.int .i64 0) rfl;have g3:=HG2.out.var HO2.out mO;have n3:=HN2.out.var HO2.out mO;have r3:=HR2.out.other mO (by omega);have mR:=zA.set5 (F:=λk=>k=w.heap.size+1+1) (zA.refl _ (w2.setCell ⟨w.heap.size+1+1+1,0,none⟩ (.int .i64 0))) (R:=w.heap.size+1+1) (.inr rfl) (.int .i64 0) (.int .i64 0) (.string ⟨#[]⟩) (.bool false) (.bool false);have bR:=r3.blk.set5 (.int .i64 0) (.int .i64 0) (.string ⟨#[]⟩) (.bool false) (.bool false);refine bodyPost_ret (zF rfl _ _ (w.heap.size+1+1) 267 _ _ rfl bR Tryz.underlying267 rfl Tryz.outSz) rfl ?_;exact⟨P2,F2,_,_,g3.var r3 mR,n3.var r3 mR,.inr ⟨_,zSV,_,_,HSA.out,HFR.out,rfl,(HE.out.mods (HO2.out.mF mO)).mods (r3.mF mR)⟩⟩
 | false=>exact absurd HFF.out (of_decide_eq_false hfit)
end
theorem Tryz.entSz:(Tryz.prog.info? 281).map (·.size)=some 4:=by kernel_rfl
section
variable {P P' F F':Nat->Prop}{ad:Nat->Addr}{w w':World}{c s:Nat}{G:GA}{l:List Nat}
theorem zIV(gen:Nat)(key v:ByteArray)(hv:v.size<=24) :
  Calls Tryz.prog 225 #[pgV c s gen,.string key,.string v] w λe w'=>e=.returned (.tuple #[.agg #[.string key,.string v,.int .i64 0,.int .i64 0],.nilIface])/\zG w w':=by
 have hv2:(v.size:Int)<=24:=by omega
 have HB:Hid (zK ((w.alloc (gP c s gen)).alloc (.cells #[.string key,.string v,.int .i64 0,.int .i64 0] 281)) (w.heap.size+1) #[.string key,.string v,.int .i64 0,.int .i64 0] 281):=oh (zO (by simp));have HM:Hid (zG w ((w.alloc (gP c s gen)).alloc (.cells #[.string key,.string v,.int .i64 0,.int .i64 0] 281))):=oh (((zA.refl _ w).alloc _).alloc _);clear hv;unfold pgV
 go_enter Tryz.func225, Tryz.ntmps225
 go_wp2_with fail;refine bodyPost_ret (zF rfl _ _ (w.heap.size+1) 281 _ _ rfl HB.out Tryz.underlying281 rfl Tryz.entSz) rfl ?_;exact⟨rfl,HM.out⟩
end
section
variable {P P' F F':Nat->Prop}{ad:Nat->Addr}{w w':World}{c s:Nat}{G:GA}{l:List Nat}
def zOC(b:Bool):StA zBn->StA zBn
 | .inr k=>.inr k
 | .inl (G2,l2,o)=>.inl (G2,l2,{ o with news:=b })
theorem zPO{n:zI}{key:ByteArray}(hno:zAn key n.entries=false)(e:zQ):(zB7 n key e).entries=n.entries.take (vL key n.entries)++[e]++n.entries.drop (vL key n.entries+0):=by
 unfold zB7;rw[hno];rfl
theorem zL8(key:ByteArray)(es:List zQ):vL key es<=es.length:=tY
theorem zPP(n:zI)(hlf:n.leaf=true)(key v:ByteArray)(hno:zAn key n.entries=false)(hv:v.size<=24)(hF:zH (zB7 n key ⟨key,v,0,0⟩)<=(G.size:Int)-24)(hL:yG F ad w)(hP:∀k,P k->F k)(h:vH F w P c s G l)(gen old:Nat)(hgen:gen<18446744073709551616)(ve vk vi:Value)(hve:Sl F w 4 jX ve n.entries)(hvk:Sl F w 1 jD vk n.keys)(hvi:Sl F w 1 yP vi n.kids)(hfew:n.entries.length<=100000)(hok:zGN G l old (zB7 n key ⟨key,v,0,0⟩)) :
  Calls Tryz.prog 169 #[pgV c s gen,.int .i64 (old:Int),.agg #[.bool true,ve,vk,vi],.string key,.string v] w (zL7 F P ad w c s G l (zOC true (qK G l gen old (zB7 n key ⟨key,v,0,0⟩)))):=by
 obtain⟨w1,hw1⟩:∃w1,w1=((w.alloc (gP c s gen)).alloc (.cells #[.bool true,ve,vk,vi] 272)).alloc (.cells vR 267):=⟨_,rfl⟩;have m0:zG w w1:=by rw[hw1];exact (((zA.refl _ w).alloc _).alloc _).alloc _
 have hz:w1.heap.size=w.heap.size+3:=by rw[hw1];simp
 have hN:zV P P F (λk=>F k\/(w.heap.size<=k/\k<w1.heap.size)) ad w w1:=zV.new hL hP (Q:=λk=>w.heap.size<=k/\k<w1.heap.size) m0 (λk hk=>hk.1) (λk hk=>hk.2);have HB:=oh (show jF (λk=>F k\/(w.heap.size<=k/\k<w1.heap.size)) P w w1 w.heap.size (gP c s gen) 142 from ⟨by rw[hw1];exact ((zK.new w _ _).alloc _).alloc _,.inr ⟨by omega,by omega⟩,λhp=>by have:=h.bd _ hp;omega,by omega⟩);have HD:=oh (show jF (λk=>F k\/(w.heap.size<=k/\k<w1.heap.size)) P w w1 (w.heap.size+1) #[.bool true,ve,vk,vi] 272 from ⟨by rw[hw1];exact (show zK ((w.alloc _).alloc (.cells #[.bool true,ve,vk,vi] 272)) (w.heap.size+1) #[.bool true,ve,vk,vi] 272 from zO (by simp)).alloc _,.inr ⟨by omega,by omega⟩,λhp=>by have:=h.bd _ hp;omega,by omega⟩);have HR:=oh (show jF (λk=>F k\/(w.heap.size<=k/\k<w1.heap.size)) P w w1 (w.heap.size+1+1) vR 267 from ⟨by rw[hw1];exact zO (by simp),.inr ⟨by omega,by omega⟩,λhp=>by have:=h.bd _ hp;omega,by omega⟩);have HG:=oh (h.plusNew hP (Q:=λk=>w.heap.size<=k/\k<w1.heap.size) m0 (λk hk=>hk.1));have HVE:=oh (hN.sl hP hve);have HVK:=oh (hN.sl hP hvk);have HVI:=oh (hN.sl hP hvi);have HN:=oh hN;have HOK:=oh hok;have HFIT:=oh hF;have HFN:=oh (zCz hlf key);have HNO:=oh hno;have HLF:=oh hlf;obtain⟨ea,ec,rfl,_,_,_,_⟩:=hve;obtain⟨ka,kc,rfl,_,_,_,_⟩:=hvk;obtain⟨ia,ic,rfl,_,_,_,_⟩:=hvi;obtain⟨at_,hat⟩:∃at_,at_=vL key n.entries:=⟨_,rfl⟩
 have hal:at_<=n.entries.length:=by rw[hat];exact zL8 _ _
 have HAT:=oh hat;have b0:=HB.out.blk.cell (o:=0) rfl;have b1:=HB.out.blk.cell (o:=1) rfl;have b2:=HB.out.blk.cell (o:=2) rfl;have n0:=HD.out.blk.cell (o:=0) rfl;have n1:=HD.out.blk.cell (o:=1) rfl;have n2:=HD.out.blk.cell (o:=2) rfl;have n3:=HD.out.blk.cell (o:=3) rfl;have HW1:=oh hw1;have HFD:=zCn n key _ _ (.slice ia n.kids.length ic) HVE.out HVK.out;rw[hlf,zCz hlf key,hno,<- hat] at HFD;have HFD:=oh HFD;have HEN:=oh (λW=>zIV (c:=c) (s:=s) (w:=W) gen key v hv);clear hL hP h m0 hN hok hw1 hF hlf hno hv hat;unfold pgV at HEN ⊢
 go_enter Tryz.func169, Tryz.ntmps169
 go_wp2_with fail;rw[<- HW1.out];refine HFD.out.mono ?_;rintro e w2 ⟨rfl,hm2⟩;have HX2:=oh hm2;have b0:=zE hm2 b0;have b1:=zE hm2 b1;have b2:=zE hm2 b2;clear hm2;go_wp2_with fail;refine (HEN.out _).mono ?_;rintro e w3 ⟨rfl,hm3⟩;obtain⟨w4,hw4⟩:∃w4,w4=(w3.alloc (.cells #[.string key,.string v,.int .i64 0,.int .i64 0] 281)).alloc (.cells #[.string key,.string v,.int .i64 0,.int .i64 0] 281):=⟨_,rfl⟩;have hm4:zG w1 w4:=by rw[hw4];exact ((HX2.out.trans hm3).alloc _).alloc _
 have HX4:=oh hm4;have n1:=(HD.out.ext (HX2.out.trans hm3)).blk.cell (o:=1) rfl;have n1c:=zM n1 (.cells #[.string key,.string v,.int .i64 0,.int .i64 0] 281);have HSL1:Hid (Sl (λk=>F k\/(w.heap.size<=k/\k<w1.heap.size)) w4 4 jX (.slice (some ⟨w3.heap.size+1,0,none⟩) 1 1) [(⟨key,v,0,0⟩:zQ)]):=oh (Sl.one (by rw[hw4];exact zO (by simp)) (λf=>by
  rcases f with f|f
  .have:=HN.out.env.lt _ (.inl f);have:=(HX2.out.trans hm3).size;omega
  .have:=(HX2.out.trans hm3).size;omega))
 have n1b:w4.cell? ⟨w.heap.size+1,1,none⟩=some (.slice ea n.entries.length ec):=(HD.out.ext hm4).blk.cell (o:=1) rfl;have HW4:=oh hw4;clear hm3 hm4 hw4;go_wp2_with fail;rw[<- HW4.out];refine (zE8 _ _ n.entries [(⟨key,v,0,0⟩:zQ)] (HVE.out.ext HX4.out) HSL1.out at_ 0 (by omega) (by omega) (by simp)).mono ?_;rintro e w5 ⟨ev,rfl,hO5,hm5⟩;obtain⟨oa,oc,rfl,_,_⟩:=hO5.form;have HL5:Hid ((n.entries.take at_++[(⟨key,v,0,0⟩:zQ)]++n.entries.drop (at_+0))=(zB7 n key ⟨key,v,0,0⟩).entries):=oh (by rw[zPO HNO.out,HAT.out]);rw[HL5.out] at hO5 ⊢;have HX5:=oh (HX4.out.trans hm5);have hD5:=HD.out.ext HX5.out;have HO5:=oh (hO5.rebase (base':=w1.heap.size) HX4.out.size);have d0:=hD5.blk.cell (o:=0) (v:=.bool true) rfl;have d1:=hD5.blk.cell (o:=1) (v:=.slice ea n.entries.length ec) rfl;have d2:=hD5.blk.cell (o:=2) (v:=.slice ka n.keys.length kc) rfl;have d3:=hD5.blk.cell (o:=3) (v:=.slice ia n.kids.length ic) rfl;have df:=hD5.blk.frozen;have b0:=(HB.out.ext HX5.out).blk.cell (o:=0) rfl;have b1:=(HB.out.ext HX5.out).blk.cell (o:=1) rfl;have b2:=(HB.out.ext HX5.out).blk.cell (o:=2) rfl;obtain⟨n',hn'⟩:∃n',n'=zB7 n key ⟨key,v,0,0⟩:=⟨_,rfl⟩;have HN':Hid (n'.leaf=true/\n'.keys=n.keys/\n'.kids=n.kids):=oh (by rw[hn'];exact⟨HLF.out,rfl,rfl⟩);rw[<- hn'] at HO5 HOK HFIT HL5 ⊢;have mD:zA (λk=>k=w.heap.size+1) w5 (w5.setCell ⟨w.heap.size+1,1,none⟩ (.slice oa n'.entries.length oc)):=zA.at _ w5 _ 1 _ rfl;have HGD:=oh ((HG.out.at HX5.out).var hD5 mD);have HND:=oh ((HN.out.trans (zV.ext HN.out.env HN.out.sub HX5.out)).var hD5 mD);have HRD:=oh ((HR.out.ext HX5.out).other mD (by omega));have hmF:=hD5.mF mD;have HSE:Hid (Sl (λk=>F k\/(w.heap.size<=k/\k<w1.heap.size)) (w5.setCell ⟨w.heap.size+1,1,none⟩ (.slice oa n'.entries.length oc)) 4 jX (.slice oa n'.entries.length oc) n'.entries):=oh ((HO5.out.slF (λk hk=>by
  rcases hk with hk|hk
  .exact HN.out.env.lt k (.inl hk)
  .exact hk.2) zBV.len (by have:=HOK.out.few.1;omega)).mods hmF)
 have HSK:=oh (((HVK.out.ext HX5.out).mods hmF));have HSI:=oh (((HVI.out.ext HX5.out).mods hmF));have HST:=zHN n' HFIT.out HND.out.env HND.out.sub HGD.out gen old hgen _ _ _ HSE.out (by rw[HN'.out.2.1];exact HSK.out) (by rw[HN'.out.2.2];exact HSI.out) HOK.out;rw[HN'.out.1] at HST;unfold pgV at HST;have HST:=oh HST;have HNN:=oh hn';clear hO5 hm5 hD5 mD hmF hn';go_wp2_with fail;refine HST.out.mono ?_;rintro e w6 ⟨P6,F6,G6,l6,hG6,hN6,hr⟩;have HR6:=oh (HRD.out.nxt hN6);have HG6:=oh hG6;have HN6:=oh (HND.out.trans hN6);have hlt6:w.heap.size+1+1<w6.heap.size:=HR6.out.blk.lt;have hne6:w6.heap.size≠w.heap.size+1+1:=by omega
 clear hG6 hN6;rcases hr with ⟨o,hs,rfl⟩|⟨k,o,f,el,hs,hfr,rfl,hE⟩
 .have HS:=oh hs;clear hs;unfold zGk;have q0:=HR6.out.blk.cell (o:=0) rfl;have q1:=HR6.out.blk.cell (o:=1) rfl;have q2:=HR6.out.blk.cell (o:=2) rfl;have q3:=HR6.out.blk.cell (o:=3) rfl;have q4:=HR6.out.blk.cell (o:=4) rfl;have qf:=HR6.out.blk.frozen;go_wp2_with fail;have mR:=zA.set5 (F:=λk=>k=w.heap.size+1+1) (zA.refl _ w6) (R:=w.heap.size+1+1) (.inr rfl) (.int .i64 (o.id0:Int)) (.int .i64 (o.id1:Int)) (.string o.key) (.bool o.two) (.bool true);have bR:=HR6.out.blk.set5 (.int .i64 (o.id0:Int)) (.int .i64 (o.id1:Int)) (.string o.key) (.bool o.two) (.bool true);have gR:=HG6.out.var HR6.out mR;have nR:=HN6.out.var HR6.out mR;have mA:=(zA.refl (λ_=>False) (((((w6.setCell ⟨w.heap.size+1+1,0,none⟩ (.int .i64 (o.id0:Int))).setCell ⟨w.heap.size+1+1,1,none⟩ (.int .i64 (o.id1:Int))).setCell ⟨w.heap.size+1+1,2,none⟩ (.string o.key)).setCell ⟨w.heap.size+1+1,3,none⟩ (.bool o.two)).setCell ⟨w.heap.size+1+1,4,none⟩ (.bool true))).alloc (.cells #[.int .i64 (o.id0:Int),.int .i64 (o.id1:Int),.string o.key,.bool o.two,.bool true] 267);refine bodyPost_ret (zF rfl _ _ (w.heap.size+1+1) 267 _ _ rfl (bR.ext mA) Tryz.underlying267 rfl Tryz.outSz) rfl ?_;exact⟨P6,F6,G6,l6,gR.at mA,nR.trans (zV.ext nR.env nR.sub mA),.inl ⟨{ o with news:=true },by rw[<- HNN.out,HS.out];rfl,rfl⟩⟩
 .have HS:=oh hs;have HE:=oh hE;clear hs hE;unfold zGk;have q0:=HR6.out.blk.cell (o:=0) rfl;have q1:=HR6.out.blk.cell (o:=1) rfl;have q2:=HR6.out.blk.cell (o:=2) rfl;have q3:=HR6.out.blk.cell (o:=3) rfl;have q4:=HR6.out.blk.cell (o:=4) rfl;have qf:=HR6.out.blk.frozen;go_wp2_with fail;have mR:=zA.set5 (F:=λk=>k=w.heap.size+1+1) (zA.refl _ w6) (R:=w.heap.size+1+1) (.inr rfl) (.int .i64 (o.id0:Int)) (.int .i64 (o.id1:Int)) (.string o.key) (.bool o.two) (.bool true);have bR:=HR6.out.blk.set5 (.int .i64 (o.id0:Int)) (.int .i64 (o.id1:Int)) (.string o.key) (.bool o.two) (.bool true);have gR:=HG6.out.var HR6.out mR;have nR:=HN6.out.var HR6.out mR;have mA:=(zA.refl (λ_=>False) (((((w6.setCell ⟨w.heap.size+1+1,0,none⟩ (.int .i64 (o.id0:Int))).setCell ⟨w.heap.size+1+1,1,none⟩ (.int .i64 (o.id1:Int))).setCell ⟨w.heap.size+1+1,2,none⟩ (.string o.key)).setCell ⟨w.heap.size+1+1,3,none⟩ (.bool o.two)).setCell ⟨w.heap.size+1+1,4,none⟩ (.bool true))).alloc (.cells #[.int .i64 (o.id0:Int),.int .i64 (o.id1:Int),.string o.key,.bool o.two,.bool true] 267);refine bodyPost_ret (zF rfl _ _ (w.heap.size+1+1) 267 _ _ rfl (bR.ext mA) Tryz.underlying267 rfl Tryz.outSz) rfl ?_;exact⟨P6,F6,G6,l6,gR.at mA,nR.trans (zV.ext nR.env nR.sub mA),.inr ⟨k,{ o with news:=true },f,el,by rw[<- HNN.out,HS.out];rfl,hfr,rfl,(HE.out.mods (HR6.out.mF mR)).mods mA.ext⟩⟩
end
def zC1(key v:ByteArray):Option Err:=if qS key=false then some ([-1],2) else if 4096<v.size then some ([-1],8) else none
section
variable {P P' F F':Nat->Prop}{ad:Nat->Addr}{w w':World}{c s:Nat}{G:GA}{l:List Nat}
theorem zHO(hL:yG F ad w)(gen:Nat)(key v:ByteArray)(hfu:zEM ad\/v.size<=4096) :
  Calls Tryz.prog 168 #[pgV c s gen,.string key,.string v] w λe w'=>∃ev,e=.returned ev/\zCj F ad w' ev (zC1 key v)/\zG w w':=by
 unfold pgV;have m0:zG w (w.alloc (gP c s gen)):=(zA.refl _ w).alloc _;have hL0:=hL.mods m0.ext;have g2:=hL0.c2;have HL:=oh hL0;have M0:=oh m0;have HFU:=oh hfu;clear hL hL0 m0 hfu;cases hk:qS key with
 | false =>
  have HR:Hid (zC1 key v=some ([-1],2)):=oh (by unfold zC1;rw[if_pos hk]);have HK:=oh (zAt key);rw[hk] at HK;clear hk
  go_enter Tryz.func168, Tryz.ntmps168
  go_wp2_with fail;refine (HK.out _).mono ?_;rintro e w1 ⟨rfl,rfl⟩;go_wp2_with fail;refine (yW HL.out _ _ [] 2 (.sent 2 (by decide) (by decide))).mono ?_;rintro e w1 ⟨f,rfl,hE,hm⟩;have HE:=oh hE;have HM:=oh hm;clear hE hm;go_wp2_with fail;go_ret;exact⟨_,rfl,by rw[HR.out];exact⟨f,rfl,HE.out⟩,M0.out.trans HM.out⟩
 | true =>
  have HK:=oh (zAt key);rw[hk] at HK;by_cases hv:4096<v.size
  .have HR:Hid (zC1 key v=some ([-1],8)):=oh (by unfold zC1;rw[if_neg (by rw[hk];simp),if_pos hv]);have hv2:(4096:Int)<(v.size:Int):=by omega
   have g8:=HL.out.c8 (HFU.out.resolve_right (by omega));clear hk hv
   go_enter Tryz.func168, Tryz.ntmps168
   go_wp2_with fail;refine (HK.out _).mono ?_;rintro e w1 ⟨rfl,rfl⟩;go_wp2_with fail;refine (yW HL.out _ _ [] 8 (.sent 8 (by decide) (by decide))).mono ?_;rintro e w1 ⟨f,rfl,hE,hm⟩;have HE:=oh hE;have HM:=oh hm;clear hE hm;go_wp2_with fail;go_ret;exact⟨_,rfl,by rw[HR.out];exact⟨f,rfl,HE.out⟩,M0.out.trans HM.out⟩
  .have HR:Hid (zC1 key v=none):=oh (by unfold zC1;rw[if_neg (by rw[hk];simp),if_neg hv]);have hv2:¬ (4096:Int)<(v.size:Int):=by omega
   clear hk hv
   go_enter Tryz.func168, Tryz.ntmps168
   go_wp2_with fail;refine (HK.out _).mono ?_;rintro e w1 ⟨rfl,rfl⟩;go_wp2_with fail;go_ret;exact⟨_,rfl,by rw[HR.out];rfl,M0.out⟩
end
def zBL(key v:ByteArray):zI:=⟨true,[⟨key,v,0,0⟩],[],[]⟩
theorem zDD{key v:ByteArray}(hk:qS key=true)(hv:v.size<=24):zP (zBL key v)=true:=by
 unfold zP zBL vA;simp[hk,hv,jI]
theorem zGO{key v:ByteArray}(hk:qS key=true)(hv:v.size<=24):zH (zBL key v)<=61:=by
 have:=(vW key).1 hk;unfold zH zBL;simp[yM,yO,zAc];omega
theorem zFr(key v:ByteArray):zB7 zDg key ⟨key,v,0,0⟩=zBL key v:=rfl
theorem zQ0{G:GA}{l:List Nat}{key v:ByteArray}(hk:qS key=true)(hv:v.size<=24)(hl:zGj l)(hlen:l.length<=G.blocks)(hco:G.cost+10<=1000000)(hs:256<=G.size):zGN G l 0 (zBL key v):=by
 have h1:=zGO hk hv;have h2:=zDD hk hv;refine⟨.inl rfl,hl,hlen,hco,by omega,λ_=>?_,λhn=>by omega,by simp[zBL]⟩;have:=zAX (vB h2);omega
def zS3(F P:Nat->Prop)(ad:Nat->Addr)(w:World)(c s gen:Nat)(G:GA)(l:List Nat)(key v:ByteArray)(i:Nat)(e:Ending)(w':World):Prop :=
 ∃P' F',vH F' w' P' c s (yJ G l gen 0 (zBL key v)) (yT G l 0 (zBL key v))/\zV P P' F F' ad w w'/\e=.returned (.tuple #[.int .i64 (i:Int),.bool true,.nilIface])
section
variable {P P' F F':Nat->Prop}{ad:Nat->Addr}{w w':World}{c s:Nat}{G:GA}{l:List Nat}
theorem zQ1(hL:yG F ad w)(hP:∀k,P k->F k)(h:vH F w P c s G l)(gen:Nat)(hgen:gen<18446744073709551616)(key v:ByteArray)(hk:qS key=true)(hv:v.size<=24)(hl:zGj l)(hlen:l.length<=G.blocks)(hco:G.cost+10<=1000000)(i:Nat)(hi:qM l=some i) :
  Calls Tryz.prog 114 #[pgV c s gen,.int .i64 0,.string key,.string v] w (zS3 F P ad w c s gen G l key v i):=by
 have m0:zG w (w.alloc (gP c s gen)):=(zA.refl _ w).alloc _;have HB0:=oh (zK.new w (gP c s gen) 142);have HC:=zHO (c:=c) (s:=s) (hL.mods m0.ext) gen key v (.inr (by omega));rw[show zC1 key v=none by unfold zC1;rw[if_neg (by rw[hk];simp),if_neg (by omega)]] at HC;have hlim:=h.lim;have hst:qK G l gen 0 (zBL key v)=.inl (yJ G l gen 0 (zBL key v),yT G l 0 (zBL key v),⟨i,0,e0,false,false⟩):=by
  have h1:=zGO hk hv;have hd:qQ G l 0 (zBL key v)=some i:=by
   unfold qQ;rw[if_pos ⟨zDD hk hv,by omega⟩];unfold zAC;rw[if_neg (by simp)];exact hi
  unfold qK;rw[if_pos (by omega),hd]
 have HST:=oh hst;have HOK:=oh (zQ0 hk hv hl hlen hco hlim.2.2.1);have HFT:Hid (zH (zBL key v)<=(G.size:Int)-24):=oh (by have:=zGO hk hv;omega);have HV:=oh hv;have HG:=oh h;have HP:=oh hP;have HL:=oh hL;have M0:=oh m0;have HC:=oh HC;have HBP:Hid (¬ P w.heap.size):=oh (λhp=>by have:=h.bd _ hp;omega);unfold pgV at HC ⊢;clear hL hP h m0 hk hv hl hlen hco hi hlim hst
 go_enter Tryz.func114, Tryz.ntmps114
 go_wp2_with fail;refine HC.out.mono ?_;rintro e w1 ⟨ev,rfl,hE,hm1⟩;cases hE
 have M1:=oh (M0.out.trans hm1);have HB1:=oh (HB0.out.ext hm1);obtain⟨w2,hw2⟩:∃w2,w2=w1.alloc (.cells vR 267):=⟨_,rfl⟩;have m2:zG w w2:=by rw[hw2];exact M1.out.alloc _
 have hz:w2.heap.size=w1.heap.size+1:=by rw[hw2];simp
 have hz1:w.heap.size<w1.heap.size:=HB1.out.lt;have HN2:Hid (zV P P F (λk=>F k\/k=w1.heap.size) ad w w2):=oh (zV.new HL.out HP.out (Q:=λk=>k=w1.heap.size) m2 (λk hk=>by omega) (λk hk=>by omega));have HG2:=oh (HG.out.plusNew HP.out (Q:=λk=>k=w1.heap.size) m2 (λk hk=>by omega));have HO:=oh (show jF (λk=>F k\/k=w1.heap.size) P w w2 w1.heap.size vR 267 from ⟨by rw[hw2];exact zK.new _ _ _,.inr rfl,λhp=>by have:=HG.out.bd _ hp;omega,by omega⟩);have b0:=zM (HB1.out.cell (o:=0) (v:=.pointer (some ⟨c,0,none⟩)) rfl) (.cells vR 267);have b1:=zM (HB1.out.cell (o:=1) (v:=.pointer (some ⟨s,0,none⟩)) rfl) (.cells vR 267);have b2:=zM (HB1.out.cell (o:=2) (v:=.int .u64 (gen:Int)) rfl) (.cells vR 267);have HLF:=zPP (w:=w2) zDg rfl key v rfl HV.out (by rw[zFr];exact HFT.out) HN2.out.env HN2.out.sub HG2.out gen 0 hgen (.slice none 0 0) (.slice none 0 0) (.slice none 0 0) (Sl.nil _ _ _ _) (Sl.nil _ _ _ _) (Sl.nil _ _ _ _) (by simp[zDg]) (by rw[zFr];exact HOK.out);rw[zFr,HST.out] at HLF;unfold pgV at HLF;have HLF:=oh HLF;have HW2:=oh hw2;clear hm1 m2 hw2;go_wp2_with fail;rw[<- HW2.out];refine HLF.out.mono ?_;rintro e w3 ⟨P3,F3,G3,l3,hG3,hN3,⟨o,ho,rfl⟩|⟨k,o,f,el,ho,_⟩⟩
 .simp only[zOC,Sum.inl.injEq,Prod.mk.injEq] at ho;obtain⟨rfl,rfl,rfl⟩:=ho;have HO3:=oh (HO.out.nxt hN3);have HG3:=oh hG3;have HN3:=oh (HN2.out.trans hN3);have q0:=HO3.out.blk.cell (o:=0) rfl;have q1:=HO3.out.blk.cell (o:=1) rfl;have q2:=HO3.out.blk.cell (o:=2) rfl;have q3:=HO3.out.blk.cell (o:=3) rfl;have q4:=HO3.out.blk.cell (o:=4) rfl;have qf:=HO3.out.blk.frozen;have mR:=zA.set5 (F:=λk=>k=w1.heap.size) (zA.refl _ w3) (R:=w1.heap.size) (.inr rfl) (.int .i64 (i:Int)) (.int .i64 0) (.string e0) (.bool false) (.bool true);have HGR:=oh (HG3.out.var HO3.out mR);have HNR:=oh (HN3.out.var HO3.out mR);have HBR:=oh (HO3.out.blk.set5 (.int .i64 (i:Int)) (.int .i64 0) (.string e0) (.bool false) (.bool true));unfold zGk;clear hG3 hN3 mR;go_wp2_with fail;have q0:=HBR.out.cell (o:=0) rfl;have q4:=HBR.out.cell (o:=4) rfl;go_quiet (fail)
  go_wp2_with fail;refine bodyPost_ret (v:=.tuple #[.int .i64 (i:Int),.bool true,.nilIface]) (by simp[results,Tryz.results114,go_sem]) rfl ?_;exact⟨P3,F3,HGR.out.at ((zA.refl _ _).drewN _),HNR.out.trans (zV.ext HNR.out.env HNR.out.sub ((zA.refl _ _).drewN _)),rfl⟩
 .cases ho
end
section
variable {P P' F F':Nat->Prop}{ad:Nat->Addr}{w w':World}{S d c sp:Nat}{s:jM}{home root keys:Int}{G G':GA}{l l':List Nat}
theorem StR.at(h:StR F w P S d c sp s home root keys G l)(m:zG w w'):StR F w' P S d c sp s home root keys G l:=by
 obtain⟨h1,⟨a,cc,h2⟩,h3,h4⟩:=h;exact⟨h1.at m,⟨a,cc,h2.ext m⟩,h3,h4⟩
theorem StR.nxt(h:StR F w P S d c sp s home root keys G l)(n:zV P P' F F' ad w w')(hG:vH F' w' P' c sp G' l'):StR F' w' P' S d c sp s home root keys G' l':=by
 obtain⟨h1,⟨a,cc,h2⟩,h3,h4⟩:=h;exact⟨hG,⟨a,cc,n.blk h2 h3⟩,n.not h2.lt h3,n.grow S h4⟩
theorem StR.set(h:StR F w P S d c sp s home root keys G l)(r k:Int):StR F ((w.setCell ⟨S,9,none⟩ (.int .i64 r)).setCell ⟨S,10,none⟩ (.int .i64 k)) P S d c sp s home r k G l:=by
 obtain⟨h1,⟨a,cc,h2⟩,h3,h4⟩:=h;have m:zA (λj=>j=S) w ((w.setCell ⟨S,9,none⟩ (.int .i64 r)).setCell ⟨S,10,none⟩ (.int .i64 k)):=zA.setCell (F:=λj=>j=S) (zA.setCell (F:=λj=>j=S) (zA.refl _ w) (p:=⟨S,9,none⟩) (.inr rfl) _) (p:=⟨S,10,none⟩) (.inr rfl) _;exact⟨h1.plus m (λk hk e=>by have e':k=S:=e;exact h3 (e' ▸ hk)) (λk e=>by have e':k=S:=e;rw[e'];exact h4) (λ_ _ h=>h),⟨a,cc,by simpa[stC] using (h2.set 9 (.int .i64 r)).set 10 (.int .i64 k)⟩,h3,h4⟩
theorem zV.withS(n:zV P P' F F' ad w w'){w2:World}(hS:S<w.heap.size)(hF:F' S)(m:zA (λj=>j=S) w' w2):zV (yB P S) (yB P' S) F F' ad w w2 :=
 ⟨⟨(n.stp.mods.mono (λj h=>.inl h)).trans' m (λi _ h=>.inr h),λk hk h=>h.elim (λh=>.inl (n.stp.old k hk h)) .inr,λk h=>h.elim (λh=>uI (n.stp.bd k h) m.size) (λe=>by rw[e];exact uI hS (uY n.stp.mods.size m.size))⟩,
  λk h=>h.elim (λh=>n.sub k h) (λe=>by rw[e];exact hF),n.grow,n.oldF,n.env.mods (m.mono (λj h=>by have h':j=S:=h;rw[h'];exact hF))⟩
theorem StR.lt(h:StR F w P S d c sp s home root keys G l):S<w.heap.size:=by
 obtain⟨_,⟨a,cc,h2⟩,_,_⟩:=h;exact h2.lt
theorem zJw(r k:Int):zA (λj=>j=S) w ((w.setCell ⟨S,9,none⟩ (.int .i64 r)).setCell ⟨S,10,none⟩ (.int .i64 k)):=zA.setCell (F:=λj=>j=S) (zA.setCell (F:=λj=>j=S) (zA.refl _ w) (p:=⟨S,9,none⟩) (.inr rfl) _) (p:=⟨S,10,none⟩) (.inr rfl) _
theorem zKj(h:StR F w P S d c sp s home root keys G l)(op:ByteArray) : Calls Tryz.prog 76 #[.pointer (some ⟨S,0,none⟩),.string op] w λe w'=>e=.returned .nilIface/\w=w':=by
 obtain⟨h1,⟨a,cc,h2⟩,h3,h4⟩:=h;have c12:=h2.cell (o:=12) (v:=.bool false) rfl;clear h1 h2 h3 h4
 go_enter Tryz.func76, Tryz.ntmps76
 go_wp2_with fail;go_ret;exact⟨rfl,rfl⟩
theorem zS4(h:StR F w P S d c sp s home root keys G l) : Calls Tryz.prog 29 #[.pointer (some ⟨S,0,none⟩)] w λe w'=>e=.returned (.int .u64 (s.gen:Int))/\w=w':=by
 obtain⟨h1,⟨a,cc,h2⟩,h3,h4⟩:=h;have c3:=h2.cell (o:=3) (v:=.int .u64 (s.gen:Int)) rfl;clear h1 h2 h3 h4
 go_enter Tryz.func29, Tryz.ntmps29
 go_wp2_with fail;go_ret;exact⟨rfl,rfl⟩
theorem Tryz.stPgSize:(Tryz.prog.info? 142).map (·.size)=some 3:=by kernel_rfl
theorem zKk(h:StR F w P S d c sp s home root keys G l)(hg:s.gen+1<18446744073709551616) : Calls Tryz.prog 78 #[.pointer (some ⟨S,0,none⟩)] w λe w'=>e=.returned (pgV c sp (s.gen+1))/\zG w w':=by
 obtain⟨h1,⟨a,cc,h2⟩,h3,h4⟩:=h;have c1:=h2.cell (o:=1) (v:=.pointer (some ⟨c,0,none⟩)) rfl;have c2:=h2.cell (o:=2) (v:=.pointer (some ⟨sp,0,none⟩)) rfl;have c3:=h2.cell (o:=3) (v:=.int .u64 (s.gen:Int)) rfl;have hS:=h2.lt;have HB0:=oh (zK.new w #[.pointer none,.pointer none,.int .u64 0] 142);have hne:S≠w.heap.size:=λe=>by omega
 obtain⟨g,hgg⟩:∃g,g=s.gen:=⟨_,rfl⟩;have HPV:Hid (pgV c sp (s.gen+1)=.agg #[.pointer (some ⟨c,0,none⟩),.pointer (some ⟨sp,0,none⟩),.int .u64 ((g:Int)+1)]):=oh (by rw[hgg];rfl);rw[<- hgg] at c3 hg;clear h1 h2 h3 h4 hgg
 go_enter Tryz.func78, Tryz.ntmps78
 go_wp2_with fail;go_region
 go_wp2_with fail;refine bodyPost_ret (results_cell_row rfl _ _ w.heap.size 142 #[.pointer (some ⟨c,0,none⟩),.pointer (some ⟨sp,0,none⟩),.int .u64 ((g:Int)+1)] (0,0) _ rfl (zK.drew (zK.new w _ _)) Tryz.underlying142 rfl Tryz.stPgSize) rfl ?_;exact⟨by rw[HPV.out],((zA.refl _ w).alloc _).drew⟩
def zSW(F P:Nat->Prop)(ad:Nat->Addr)(w:World)(S d c sp:Nat)(s:jM)(home keys:Int)(G:GA)(l:List Nat)(key v:ByteArray)(i:Nat)(e:Ending)(w':World):Prop :=
 ∃P' F',e=.returned (.tuple #[.bool true,.nilIface])/\StR F' w' P' S d c sp s home (i:Int) (keys+1) (yJ G l (s.gen+1) 0 (zBL key v)) (yT G l 0 (zBL key v))/\zV (yB P S) (yB P' S) F F' ad w w'
theorem zSX(hL:yG F ad w)(hP:∀k,P k->F k)(h:StR F w P S d c sp s home 0 keys G l)(hg:s.gen+1<18446744073709551616)(hkk:0<=keys/\keys<1000000)(key v:ByteArray)(hk:qS key=true)(hv:v.size<=24)(hl:zGj l)(hlen:l.length<=G.blocks)(hco:G.cost+10<=1000000)(i:Nat)(hi:qM l=some i) :
  Calls Tryz.prog 63 #[.pointer (some ⟨S,0,none⟩),.string key,.string v] w (zSW F P ad w S d c sp s home keys G l key v i):=by
 have HAL:=oh (λop=>zKj h op);have HPG:=oh (λW (m:zG w W)=>zKk (h.at m) hg);have HPU:=oh (λW (m:zG w W)=>zQ1 (hL.mods m.ext) hP (h.at m).1 (s.gen+1) hg key v hk hv hl hlen hco i hi);have HST:=oh h;have HN:=oh (λW (m:zG w W)=>zV.ext hL hP m);have c9:Hid (∀W,zG w W->W.cell? ⟨S,9,none⟩=some (.int .i64 0)):=oh (λW m=>by obtain⟨_,⟨a,cc,h2⟩,_,_⟩:=h.at m;exact h2.cell rfl);have HKK:=oh hkk;clear hL hP h hg hk hv hl hlen hco hi hkk;obtain⟨pg,hpg⟩:∃pg,pg=pgV c sp (s.gen+1):=⟨_,rfl⟩;rw[<- hpg] at HPG HPU;clear hpg
 go_enter Tryz.func63, Tryz.ntmps63
 go_wp2_with fail;refine (HAL.out _).mono ?_;rintro e w1 ⟨rfl,rfl⟩;have zd:=c9.out _ (zA.refl _ w).drew;go_wp2_with fail;go_region_held3 (λw'=>w'.cell? ⟨S,9,none⟩=some (.int .i64 0))
  (first|(with_reducible exact zd)|(with_reducible exact z5)|(with_reducible exact z6)|fail)
  (first
   | (go_at_call 78;(with_reducible refine (HPG.out _ (zA.refl _ w).drew).mono ?_);rintro e w5 ⟨rfl,m5⟩;have x5:=(zA.refl _ w).drew.trans m5;have z5:=c9.out _ x5)
   | (go_at_call 114;((with_reducible refine (HPU.out _ x5).mono ?_);rintro e w6 ⟨P6,F6,hG6,n6,rfl⟩;have h6:=(HST.out.at x5).nxt n6 hG6;have n06:=(HN.out _ x5).trans n6;have z6:w6.cell? ⟨S,9,none⟩=some (.int .i64 0):=(by obtain⟨_,⟨a,cc,h2⟩,_,_⟩:=h6;exact h2.cell rfl)))
   | fail)
 obtain⟨h7,⟨a,cc,hB6⟩,hn6,hf6⟩:=_root_.id h6;have s9:=hB6.cell (o:=9) (v:=.int .i64 0) rfl;have s10:=hB6.cell (o:=10) (v:=.int .i64 keys) rfl;have sf:=hB6.frozen;have H6:=oh h6;have N06:=oh n06;have HSW:=oh HST.out.lt;obtain⟨k1,k2⟩:=HKK.out;clear h7 hB6 hn6 hf6 h6 n06 n6 hG6 z5 z6 zd x5 m5;go_wp2_with fail;go_ret2
 exact⟨P6,F6,rfl,H6.out.set (i:Int) (keys+1),N06.out.withS HSW.out H6.out.2.2.2 (zJw _ _)⟩
end
end
section
open Go.RowKit
def zHW(G:GA)(gen:Nat)(e:zQ)(v:ByteArray)(ids:List Nat):Prop :=
 (e.chain=0/\e.value=v/\ids=[])\/(e.chain≠0/\ChG G gen e.chain e.size v ids)
inductive jL (G:GA) (gen:Nat):List zQ->List zD->List Nat->Prop
 | nil:jL G gen [] [] []
 | cons {e x ids es l q}:e.key=x.1->zHW G gen e x.2 ids->jL G gen es l q->jL G gen (e :: es) (x :: l) (ids++q)
abbrev zEq:=ByteArray->Option ByteArray->Nat->List zD->List Nat->Prop
inductive jA (T:zEq):ByteArray->Option ByteArray->List ByteArray->List Int->List zD->List Nat->Prop
 | one {lo hi c l q}:T lo hi c l q->jA T lo hi [] [(c:Int)] l q
 | cons {lo hi s c keys kids l1 l2 q1 q2}:T lo (some s) c l1 q1->inB lo hi s->jA T s hi keys kids l2 q2->jA T lo hi (s :: keys) ((c:Int) :: kids) (l1++l2) (q1++q2)
structure PgN(G:GA)(gen id:Nat)(n:zI):Prop where
 lo:2<=id
 lt:id<G.blocks
 page:∃p,G.view id=some (.inl p)/\p.gen<=gen/\zAd p=.inl n
 fit:zH n<=(G.size:Int)-24
def zIW(G:GA)(gen:Nat)(T:zEq)(d:Nat)(lo:ByteArray)(hi:Option ByteArray)(n:zI)(l:List zD)(q:List Nat):Prop :=
 (n.leaf=true/\d=0/\l≠[]/\jL G gen n.entries l q/\∀x∈l,inB lo hi x.1)\/(n.leaf=false/\jA T lo hi n.keys n.kids l q)
def TrD(G:GA)(gen:Nat):Nat->zEq
 | 0=>λ_ _ _ _ _=>False
 | d+1=>λlo hi id l pgs=>∃n q,PgN G gen id n/\zP n=true/\pgs=id :: q/\zIW G gen (TrD G gen d) d lo hi n l q
section
variable {G G':GA}{gen gen':Nat}{T T':zEq}{lo:ByteArray}{hi:Option ByteArray}{l:List zD}{q:List Nat}{keys:List ByteArray}{kids:List Int}
theorem zKl{lo s x:ByteArray}{hi:Option ByteArray}(h1:inB lo hi s)(h2:inB s hi x):inB lo hi x:=⟨zF8 h1.1 h2.1,h2.2⟩
theorem zL9{lo s x:ByteArray}{hi:Option ByteArray}(h1:inB lo hi s)(h2:inB lo (some s) x):inB lo hi x:=⟨h2.1,λh e=>qH (h2.2 s rfl) (h1.2 h e)⟩
theorem jA.bounds(hT:∀lo hi c l q,T lo hi c l q->∀x∈l,inB lo hi x.1)(h:jA T lo hi keys kids l q):∀x∈l,inB lo hi x.1:=by
 induction h with
 | one h=>exact hT _ _ _ _ _ h
 | cons h1 h2 _ ih =>
  intro x hx;rcases uN.1 hx with hx|hx
  .exact zL9 h2 (hT _ _ _ _ _ h1 x hx)
  .exact zKl h2 (ih x hx)
theorem TrD.bounds:∀(d:Nat) (lo:ByteArray) (hi:Option ByteArray) (id:Nat) (l:List zD) (q:List Nat),TrD G gen d lo hi id l q->∀x∈l,inB lo hi x.1
 | 0,_,_,_,_,_,h=>h.elim
 | d+1,lo,hi,id,l,q,h=>by
  obtain⟨n,q,_,_,_,h⟩:=h;rcases h with ⟨_,_,_,_,h⟩|⟨_,h⟩
  .exact h
  .exact h.bounds (TrD.bounds d)
theorem jA.mono(h:jA T lo hi keys kids l q):(∀lo hi c l p,(∀x∈p,x∈q)->T lo hi c l p->T' lo hi c l p)->jA T' lo hi keys kids l q:=by
 induction h with
 | one h=>exact λhm=>.one (hm _ _ _ _ _ (λ_ hx=>hx) h)
 | cons h1 h2 _ ih=>exact λhm=>.cons (hm _ _ _ _ _ (λ_ hx=>wO _ hx) h1) h2 (ih (λlo hi c l p hp=>hm lo hi c l p (λx hx=>wN _ (hp x hx))))
theorem zHW.mono{e:zQ}{v:ByteArray}{ids:List Nat}(h:zHW G gen e v ids)(hg:gen<=gen')(hb:G'.blocks=G.blocks)(hs:G'.size=G.size)(hv:∀i∈ids,G'.view i=G.view i):zHW G' gen' e v ids :=
 h.imp id (λh=>⟨h.1,h.2.mono hg hb hs hv⟩)
theorem jL.mono{es:List zQ}(h:jL G gen es l q):gen<=gen'->G'.blocks=G.blocks->G'.size=G.size->(∀i∈q,G'.view i=G.view i)->jL G' gen' es l q:=by
 induction h with
 | nil=>exact λ_ _ _ _=>.nil
 | cons h1 h2 _ ih=>exact λhg hb hs hv=>.cons h1 (h2.mono hg hb hs (λi hi=>hv i (wO _ hi))) (ih hg hb hs (λi hi=>hv i (wN _ hi)))
theorem PgN.mono{id:Nat}{n:zI}(h:PgN G gen id n)(hg:gen<=gen')(hb:G'.blocks=G.blocks)(hs:G'.size=G.size)(hv:G'.view id=G.view id):PgN G' gen' id n:=by
 obtain⟨p,h1,h2,h3⟩:=h.page;exact⟨h.lo,by rw[hb];exact h.lt,⟨p,hv.trans h1,uY h2 hg,h3⟩,by rw[hs];exact h.fit⟩
theorem TrD.mono(hg:gen<=gen')(hb:G'.blocks=G.blocks)(hs:G'.size=G.size):∀(d:Nat) (lo:ByteArray) (hi:Option ByteArray) (id:Nat) (l:List zD) (q:List Nat),(∀i∈q,G'.view i=G.view i)->TrD G gen d lo hi id l q->TrD G' gen' d lo hi id l q
 | 0,_,_,_,_,_,_,h=>h.elim
 | d+1,lo,hi,id,l,pgs,hv,h=>by
  obtain⟨n,q,h1,h2,rfl,h3⟩:=h;refine⟨n,q,h1.mono hg hb hs (hv id uG),h2,rfl,?_⟩;have hv2:∀i∈q,G'.view i=G.view i:=λi hi=>hv i (uH _ hi)
  rcases h3 with ⟨a1,a2,a3,a4,a5⟩|⟨a1,a2⟩
  .exact .inl ⟨a1,a2,a3,a4.mono hg hb hs hv2,a5⟩
  .exact .inr ⟨a1,a2.mono (λlo hi c l p hp=>TrD.mono hg hb hs d lo hi c l p (λi hi=>hv2 i (hp i hi)))⟩
theorem zIW.mono{d:Nat}{n:zI}(h:zIW G gen (TrD G gen d) d lo hi n l q)(hg:gen<=gen')(hb:G'.blocks=G.blocks)(hs:G'.size=G.size)(hv:∀i∈q,G'.view i=G.view i):zIW G' gen' (TrD G' gen' d) d lo hi n l q:=by
 rcases h with ⟨a1,a2,a3,a4,a5⟩|⟨a1,a2⟩
 .exact .inl ⟨a1,a2,a3,a4.mono hg hb hs hv,a5⟩
 .exact .inr ⟨a1,a2.mono (λlo hi c l p hp=>TrD.mono hg hb hs d lo hi c l p (λi hi=>hv i (hp i hi)))⟩
theorem jA.len(h:jA T lo hi keys kids l q):kids.length=keys.length+1:=by
 induction h with
 | one=>rfl
 | cons _ _ _ ih=>simp[ih]
theorem jA.keysIn(h:jA T lo hi keys kids l q):∀s∈keys,inB lo hi s:=by
 induction h with
 | one=>intro s hs;simp at hs
 | cons _ h2 _ ih =>
  intro s hs;rcases uO.1 hs with rfl|hs
  .exact h2
  .exact zKl h2 (ih s hs)
theorem jA.join{s:ByteArray}{k1 k2:List ByteArray}{c1 c2:List Int}{l1 l2:List zD}{q1 q2:List Nat}(h2:jA T s hi k2 c2 l2 q2)(h1:jA T lo (some s) k1 c1 l1 q1):inB lo hi s->jA T lo hi (k1++s :: k2) (c1++c2) (l1++l2) (q1++q2):=by
 generalize ho:(some s:Option ByteArray)=o at h1
 induction h1 with
 | one h=>subst ho;exact λhs=>.cons h hs h2
 | cons h hb _ ih =>
  subst ho;intro hs;have h3:=ih rfl ⟨(by
   have:=hb.2 s rfl;exact zBS this),hs.2⟩
  simp only[wW,uJ];exact .cons h (zL9 hs hb) h3
theorem jA.split:∀(k1:List ByteArray) {s:ByteArray} {k2:List ByteArray} {c1 c2:List Int} {lo:ByteArray} {l:List zD} {q:List Nat},jA T lo hi (k1++s :: k2) (c1++c2) l q->c1.length=k1.length+1->((k1++s :: k2).Pairwise λa b=>yX a b=true) ->
  ∃l1 l2 q1 q2,jA T lo (some s) k1 c1 l1 q1/\jA T s hi k2 c2 l2 q2/\l=l1++l2/\q=q1++q2/\inB lo hi s
 | [],s,k2,c1,c2,lo,l,q,h,hc,_=>by
  match c1,hc with
  | [c],_ =>
   generalize e1:([]++s :: k2:List ByteArray)=ks at h
   generalize e2:([c]++c2:List Int)=cs at h
   cases h with
   | one h=>simp at e1
   | cons h1 h2 h3 =>
    simp at e1 e2;obtain⟨rfl,rfl⟩:=e1;obtain⟨rfl,rfl⟩:=e2;exact⟨_,_,_,_,.one h1,h3,rfl,rfl,h2⟩
 | a :: k1,s,k2,c1,c2,lo,l,q,h,hc,hp=>by
  match c1,hc with
  | c :: c1,hc =>
   have hp2:=wR.1 hp;generalize e1:(a :: k1++s :: k2:List ByteArray)=ks at h
   generalize e2:(c :: c1++c2:List Int)=cs at h
   cases h with
   | one h=>simp at e1
   | cons h1 h2 h3 =>
    simp at e1 e2;obtain⟨rfl,rfl⟩:=e1;obtain⟨rfl,rfl⟩:=e2;obtain⟨l1,l2,q1,q2,j1,j2,rfl,rfl,j3⟩:=jA.split k1 h3 (by simpa using hc) hp2.2;exact⟨_,_,_,_,.cons h1 ⟨h2.1,λh e=>by injection e with e;subst e;exact hp2.1 _ (by simp)⟩ j1,j2,(uJ _ _ _).symm,(uJ _ _ _).symm,zKl h2 j3⟩
theorem zFC{key v:ByteArray}{r:List zD}:∀(l1:List zD),(∀x∈l1,yX x.1 key=true)->qF key v true (l1++r)=l1++qF key v true r
 | [],_=>rfl
 | x :: l1,h=>by
  rw[wW,qF,if_pos (h x uG),zFC l1 (λy hy=>h y (uH _ hy))];rfl
theorem zD8{key v:ByteArray}{l2:List zD}(h2:∀x∈l2,yX key x.1=true):∀(lm:List zD),qF key v true (lm++l2)=qF key v true lm++l2
 | []=>by
  cases l2 with
  | nil=>rfl
  | cons x l =>
   have h:=h2 x uG;show qF key v true (x :: l)=(key,v) :: x :: l;unfold qF;rw[if_neg (by rw[zBS h];simp),if_neg (zER h).symm]
 | x :: lm=>by
  rw[wW,qF,qF];split
  .rw[zD8 h2 lm];rfl
  .split
   .rfl
   .rfl
theorem zPQ{key:ByteArray}{l1 lm l2:List zD}(h1:∀x∈l1,yX x.1 key=true)(h2:∀x∈l2,yX key x.1=true):zAf key (l1++(lm++l2))=zAf key lm:=by
 rw[zBT,zBT,zES h1,zK7 h2];simp
theorem jA.at_(hT:∀lo hi c l q,T lo hi c l q->∀x∈l,inB lo hi x.1)(h:jA T lo hi keys kids l q){key:ByteArray}:inB lo hi key ->
  ∃(k1 k2:List ByteArray) (c1:List Int) (c:Nat) (c2:List Int) (l1 lm l2:List zD) (q1 qm q2:List Nat) (lo':ByteArray) (hi':Option ByteArray),
   keys=k1++k2/\kids=c1++(c:Int) :: c2/\c1.length=k1.length/\zAh key keys=k1.length/\l=l1++(lm++l2)/\q=q1++(qm++q2)/\T lo' hi' c lm qm/\inB lo' hi' key /\
   (∀x∈l1,yX x.1 key=true)/\(∀x∈l2,yX key x.1=true) /\
   (∀(T':zEq) (ks:List ByteArray) (cs:List Int) (lm':List zD) (qm':List Nat),jA T' lo' hi' ks cs lm' qm'->(∀lo hi c l p,(∀x∈p,x∈q1\/x∈q2)->T lo hi c l p->T' lo hi c l p)->jA T' lo hi (k1++(ks++k2)) (c1++(cs++c2)) (l1++(lm'++l2)) (q1++(qm'++q2))):=by
 induction h with
 | @one lo hi c l q h =>
  intro hk;refine⟨[],[],[],c,[],[],l,[],[],q,[],lo,hi,rfl,rfl,rfl,rfl,by simp,by simp,h,hk,by simp,by simp,λT' ks cs lm' qm' h2 _=>by simpa using h2⟩
 | @cons lo hi s c keys kids l1 l2 q1 q2 h1 h2 h3 ih =>
  intro hk;cases hks:yX key s with
  | true =>
   refine⟨[],s :: keys,[],c,kids,[],l1,l2,[],q1,q2,lo,some s,rfl,rfl,rfl,?_,rfl,rfl,h1,⟨hk.1,λh e=>by injection e with e;subst e;exact hks⟩,by simp,λx hx=>?_,λT' ks cs lm' qm' j1 j2=>?_⟩
   .unfold zAh;rw[rP,hks];rfl
   .exact zCl hks (h3.bounds hT x hx).1
   .show jA T' lo hi (ks++s :: keys) (cs++kids) (lm'++l2) (qm'++q2);exact jA.join (h3.mono (λlo hi c l p hp=>j2 lo hi c l p (λx hx=>.inr (hp x hx)))) j1 h2
  | false =>
   obtain⟨k1,k2,c1,c',c2,m1,mm,m2,p1,pm,p2,lo',hi',rfl,rfl,e3,e4,rfl,rfl,e7,e8,e9,e10,e11⟩:=ih ⟨hks,hk.2⟩;refine⟨s :: k1,k2,(c:Int) :: c1,c',c2,l1++m1,mm,m2,q1++p1,pm,p2,lo',hi',rfl,rfl,by simp[e3],?_,by simp,by simp,e7,e8,λx hx=>?_,e10,λT' ks cs lm' qm' j1 j2=>?_⟩
   .unfold zAh at e4 ⊢;rw[rP,hks];simp[e4]
   .rcases uN.1 hx with hx|hx
    .exact zCl ((hT _ _ _ _ _ h1 x hx).2 s rfl) hks
    .exact e9 x hx
   .have:=jA.cons (T:=T') (j2 _ _ _ _ _ (λx hx=>.inl (wO _ hx)) h1) h2 (e11 T' ks cs lm' qm' j1 (λlo hi c l p hp=>j2 lo hi c l p (λx hx=>(hp x hx).imp (wN _) id)));simpa using this
end
end
end Go.Proofs.YtdnbmdghmmpgcaaGreatDoor
