import Derived.Test.YtgphfebjjedeaaaGreatDoorV30
import Derived.BigQuiet
import Derived.Test.YtgphfebjjedeaaaGreatDoorV28
namespace Go.Proofs.YtgphfebjjedeaaaGreatDoor
open Lib renaming hid->oh
set_option maxHeartbeats 4000000
set_option maxRecDepth 100000
section
open Go.RowKit
attribute [local go_sem ↓] Go.wp_at_zero Go.wp_at_succ
structure jF(F P:NP)(w0 wr:World)(b:Nat)(c:Array Value)(t:TypeId):Prop where
 blk:zK wr b c t
 f:F b
 p:¬ P b
 new:w0.heap.size<=b
section
variable {P P' F F':NP}{ad:Nat->Addr}{w0 w w':World}{b b2:Nat}{c c2:Array Value}{t t2:TypeId}
theorem jF.nxt(h:jF F P w0 w b c t)(n:zU P P' F F' ad w w'):jF F' P' w0 w' b c t:=⟨n.blk h.blk h.p,n.grow b h.f,n.not h.blk.lt h.p,h.new⟩
theorem jF.ext(h:jF F P w0 w b c t)(m:zG w w'):jF F P w0 w' b c t:=⟨h.blk.ext m,h.f,h.p,h.new⟩
theorem jF.other(h:jF F P w0 w b c t){b2:Nat}(m:zA (λk=>k=b2) w w')(hb:b≠b2):jF F P w0 w' b c t:=⟨h.blk.mods m hb,h.f,h.p,h.new⟩
end
section
variable {P P0 F F0:NP}{ad:Nat->Addr}{w0 w w':World}{b:Nat}{cc:Array Value}{t:TypeId}{c s:Nat}{G:GA}{l:List Nat}
theorem vJ.var(h:vJ F w P c s G l)(v:jF F P w0 w b cc t)(m:zA (λk=>k=b) w w'):vJ F w' P c s G l:=h.res m v.p v.f
theorem zU.var(n:zU P0 P F0 F ad w0 w)(v:jF F P w0 w b cc t)(m:zA (λk=>k=b) w w'):zU P0 P F0 F ad w0 w':=n.resD m v.new v.f
theorem jF.put(v:jF F P w0 w b cc t)(i:Nat)(x:Value):jF F P w0 (w.setCell ⟨b,i,none⟩ x) b (cc.setIfInBounds i x) t:=⟨v.blk.set i x,v.f,v.p,v.new⟩
theorem jF.mF(v:jF F P w0 w b cc t)(m:zA (λk=>k=b) w w'):zA F w w':=m.mono (λ_ hk=>hk ▸ v.f)
end
def zGc(o:zBr):Array Value:=#[.int .i64 (o.id0:Int),.int .i64 (o.id1:Int),.string o.key,.bool o.two,.bool o.news]
def zSp:zBr:=⟨0,0,e0,false,false⟩
abbrev vT:Array Value:=#[.int .i64 0,.int .i64 0,.string ⟨#[]⟩,.bool false,.bool false]
def zL7(F P:NP)(ad:Nat->Addr)(w:World)(c s:Nat)(G:GA)(l:List Nat)(r:StA zBr)(e:Ending)(w':World):Prop :=
  ∃(P' F':NP) (G':GA) (l':List Nat),vJ F' w' P' c s G' l'/\zU P P' F F' ad w w' /\
    ((∃ o, r = .inl (G', l', o) /\ e = .returned (.tuple #[.agg (zGc o), .nilIface])) \/
     (∃k o f el,r=.inr k/\FrG G l G' l'/\e=.returned (.tuple #[.agg (zGc o),zI f])/\yN F' ad w' (zI f) el k))
theorem Tryz.outSz:(Tryz.prog.info? 294).map (·.size)=some 5:=by kernel_rfl
theorem zRH{G:GA}{l:List Nat}{old i:Nat}{n:zJ}(h:qO G l old n=some i):zCd n G.size:=by
 unfold qO at h;split at h
 .rename_i hd;exact hd
 .cases h
theorem zCO(G:GA)(l:List Nat)(gen old:Nat)(n:zJ):(yG G l gen old n).size=G.size/\(yG G l gen old n).blocks=G.blocks/\(yG G l gen old n).cost<=G.cost+1:=by
 unfold yG;split
 .exact⟨rfl,rfl,by omega⟩
 .obtain⟨h1,h2,h3⟩:=zD5 G l old;exact⟨h1,h2,by show (jA G l old).cost+1<=_;omega⟩
structure zGB(G:GA)(l:List Nat)(old:Nat)(n:zJ):Prop where
 place:vH l old
 low:zGb l
 len:l.length<=G.blocks
 cost:G.cost+10<=1000000
 wt:zH n<=100000
 bytes:zQ n=true->(yB n).length<=100000
 cut:¬ zH n<=(G.size:Int)-24->∃a k b,zFR n=some (a,k,b)/\zH a<=(G.size:Int)-24/\zH b<=(G.size:Int)-24
 few:n.entries.length<=100000/\n.keys.length<=100000/\n.kids.length<=100000
section
variable {P P' F F':NP}{ad:Nat->Addr}{w w':World}{c s:Nat}{G:GA}{l:List Nat}
theorem zHB(n:zJ)(hF:zH n<=(G.size:Int)-24)(hL:yE F ad w)(hP:∀k,P k->F k)(h:vJ F w P c s G l)(gen old:Nat)(hgen:gen<18446744073709551616)(ve vk vi:Value)(hve:Sl F w 4 jW ve n.entries)(hvk:Sl F w 1 vQ vk n.keys)(hvi:Sl F w 1 yL vi n.kids)(hok:zGB G l old n) :
  Calls Tryz.prog 270 #[pgV c s gen,.int .i64 (old:Int),.agg #[.bool n.leaf,ve,vk,vi]] w (zL7 F P ad w c s G l (qL G l gen old n)):=by
 have HFF:=oh hF;clear hF;obtain⟨w1,hw1⟩:∃w1,w1=(((w.alloc (gP c s gen)).alloc (.cells #[.bool n.leaf,ve,vk,vi] 277)).alloc (.cells vT 294)).alloc (.cells vT 294):=⟨_,rfl⟩;have m0:zG w w1:=by rw[hw1];exact ((((zss w).alloc _).alloc _).alloc _).alloc _
 have hz:w1.heap.size=w.heap.size+4:=by rw[hw1];simp
 have hN:zU P P F (λk=>F k\/(w.heap.size<=k/\k<w1.heap.size)) ad w w1:=zU.new hL hP (Q:=λk=>w.heap.size<=k/\k<w1.heap.size) m0 (λk hk=>hk.1) (λk hk=>hk.2);have HB:=oh (show jF (λk=>F k\/(w.heap.size<=k/\k<w1.heap.size)) P w w1 w.heap.size (gP c s gen) 140 from ⟨by rw[hw1];exact (((zK.new w _ _).alloc _).alloc _).alloc _,.inr ⟨by omega,by omega⟩,λhp=>by have:=h.bd _ hp;omega,by omega⟩);have HD:=oh (show jF (λk=>F k\/(w.heap.size<=k/\k<w1.heap.size)) P w w1 (w.heap.size+1) #[.bool n.leaf,ve,vk,vi] 277 from ⟨by rw[hw1];exact ((show zK ((w.alloc _).alloc (.cells #[.bool n.leaf,ve,vk,vi] 277)) (w.heap.size+1) #[.bool n.leaf,ve,vk,vi] 277 from zM (by simp)).alloc _).alloc _,.inr ⟨by omega,by omega⟩,λhp=>by have:=h.bd _ hp;omega,by omega⟩);have HR:=oh (show jF (λk=>F k\/(w.heap.size<=k/\k<w1.heap.size)) P w w1 (w.heap.size+1+1) vT 294 from ⟨by rw[hw1];exact (show zK (((w.alloc _).alloc _).alloc (.cells vT 294)) (w.heap.size+1+1) vT 294 from zM (by simp)).alloc _,.inr ⟨by omega,by omega⟩,λhp=>by have:=h.bd _ hp;omega,by omega⟩);have HO:=oh (show jF (λk=>F k\/(w.heap.size<=k/\k<w1.heap.size)) P w w1 (w.heap.size+1+1+1) vT 294 from ⟨by rw[hw1];exact zM (by simp),.inr ⟨by omega,by omega⟩,λhp=>by have:=h.bd _ hp;omega,by omega⟩);have HG:=oh (h.plusNew hP (Q:=λk=>w.heap.size<=k/\k<w1.heap.size) m0 (λk hk=>hk.1));have HVE:=oh (hN.sl hP hve);have HVK:=oh (hN.sl hP hvk);have HVI:=oh (hN.sl hP hvi);have HLIM:=oh h.lim;have HN:=oh hN;have HOK:=oh hok;have HSZ:=oh (λW (m:zG w1 W)=>zDx (HG.out.at m) gen);have HFT:Hid (∀W,zG w1 W -> Calls Tryz.prog 274 #[.agg #[.bool n.leaf,ve,vk,vi],.int .i64 (G.size:Int)] W λe w'=>e=.returned (.bool (decide (zH n<=(G.size:Int)-24)))/\zG W w'):=oh (λW m=>zEg n ve vk vi W (HVE.out.ext m) (HVK.out.ext m) (by have:=hok.wt;omega) _ (by omega) (by have:=HLIM.out;omega));obtain⟨ea,ec,rfl,_,_,_,_⟩:=hve;obtain⟨ka,kc,rfl,_,_,_,_⟩:=hvk;obtain⟨ia,ic,rfl,_,_,_,_⟩:=hvi;have b0:=HB.out.blk.k 0 rfl;have b1:=HB.out.blk.k 1 rfl;have b2:=HB.out.blk.k 2 rfl;have n0:=HD.out.blk.k 0 rfl;have n1:=HD.out.blk.k 1 rfl;have n2:=HD.out.blk.k 2 rfl;have n3:=HD.out.blk.k 3 rfl;have HW1:=oh hw1;clear hL hP h m0 hN hok hw1;unfold pgV at HSZ ⊢
 go_enter Tryz.func270, Tryz.ntmps270
 go_wp2_with fail;rw[<- HW1.out];go_cut [17] (λv17 wx=>v17=.bool (decide (zH n<=(G.size:Int)-24))/\Hid (zG w1 wx))
 case first =>
  go_region_held3 (λw'=>w'.cell? ⟨w.heap.size+1,0,none⟩=some (.bool n.leaf)/\w'.cell? ⟨w.heap.size+1,1,none⟩=some (.slice ea n.entries.length ec)/\w'.cell? ⟨w.heap.size+1,2,none⟩=some (.slice ka n.keys.length kc)/\w'.cell? ⟨w.heap.size+1,3,none⟩=some (.slice ia n.kids.length ic) /\
    w'.cell? ⟨w.heap.size,0,none⟩=some (.pointer (some ⟨c,0,none⟩))/\w'.cell? ⟨w.heap.size,1,none⟩=some (.pointer (some ⟨s,0,none⟩))/\w'.cell? ⟨w.heap.size,2,none⟩=some (.int .u64 (gen:Int)))
   (first|(with_reducible exact⟨n0,n1,n2,n3,b0,b1,b2⟩)|(with_reducible exact⟨y0,y1,y2,y3,d0,d1,d2⟩)|(with_reducible exact⟨z0,z1,z2,z3,f0,f1,f2⟩)|go_keep)
   (first
    | (go_at_call 275;(with_reducible refine (HSZ.out _ (zss w1).drew).mono ?_);rintro e w2 ⟨rfl,hm2⟩;have y0:=zD hm2 n0;have y1:=zD hm2 n1;have y2:=zD hm2 n2;have y3:=zD hm2 n3;have d0:=zD hm2 b0;have d1:=zD hm2 b1;have d2:=zD hm2 b2)
    | (go_at_call 274;refine (HFT.out _ ((zss w1).drew.trans hm2)).mono ?_;rintro e w3 ⟨rfl,hm3⟩;have z0:=zD hm3 y0;have z1:=zD hm3 y1;have z2:=zD hm3 y2;have z3:=zD hm3 y3;have f0:=zD hm3 d0;have f1:=zD hm3 d1;have f2:=zD hm3 d2)
    | fail)
  all_goals
   go_wp2_with fail;go_meet;exact⟨rfl,oh ((zss w1).drew.trans (hm2.trans hm3))⟩
 obtain⟨rfl,HX⟩:=hcut;have HB:=oh (HB.out.ext HX.out);have HD:=oh (HD.out.ext HX.out);have HR:=oh (HR.out.ext HX.out);have HO:=oh (HO.out.ext HX.out);have HN1:=oh (HN.out.trans (zU.ext HN.out.env HN.out.sub HX.out));have HG:=oh (HG.out.at HX.out);have b0:=HB.out.blk.k 0 rfl;have b1:=HB.out.blk.k 1 rfl;have b2:=HB.out.blk.k 2 rfl;have n0:=HD.out.blk.k 0 rfl;have n1:=HD.out.blk.k 1 rfl;have n2:=HD.out.blk.k 2 rfl;have n3:=HD.out.blk.k 3 rfl;cases hfit:decide (zH n<=(G.size:Int)-24) with
 | true =>
  have HFT:=oh (pG hfit);have HDW:=oh (zF8 HN1.out.env HN1.out.sub HG.out gen old hgen n _ _ _ (HVE.out.ext HX.out) (HVK.out.ext HX.out) (HVI.out.ext HX.out) HOK.out.bytes HOK.out.place.ok HOK.out.place.two (HOK.out.place.lt (by have:=HLIM.out;omega)) HOK.out.len (by have:=HOK.out.cost;omega));unfold pgV at HDW;clear hfit;go_wp2_with fail;refine HDW.out.mono ?_;rintro e w2 ⟨P2,F2,hG2,hN2,hr⟩;have HR2:=oh (HR.out.nxt hN2);have hO2:=HO.out.nxt hN2;have HG2:=oh hG2;have HN2:=oh (HN1.out.trans hN2);have o0:=hO2.blk.k 0 rfl;have o1:=hO2.blk.k 1 rfl;have o2:=hO2.blk.k 2 rfl;have o3:=hO2.blk.k 3 rfl;have o4:=hO2.blk.k 4 rfl;have of:=hO2.blk.frozen;have HO2:=oh hO2;have r0:=HR2.out.blk.k 0 rfl;have r1:=HR2.out.blk.k 1 rfl;have r2:=HR2.out.blk.k 2 rfl;have r3:=HR2.out.blk.k 3 rfl;have r4:=HR2.out.blk.k 4 rfl;have rf:=HR2.out.blk.frozen;clear hG2 hN2 hO2;rcases hr with ⟨i,hi,rfl⟩|⟨hi,f,el,rfl,hE⟩
  .have HSA:Hid (qL G l gen old n=.inl (yG G l gen old n,yS G l old n,⟨i,0,e0,false,false⟩)):=oh (by unfold qL;rw[if_pos HFT.out,hi]);clear hi;go_wp2_with fail;have mO:=zA.at (λk=>k=w.heap.size+1+1+1) w2 (w.heap.size+1+1+1) 0 (.int .i64 (i:Int)) rfl;have g3:=HG2.out.var HO2.out mO;have n3:=HN2.out.var HO2.out mO;have r3:=HR2.out.other mO (by omega);have mR:=zA.set5 (F:=λk=>k=w.heap.size+1+1) (zA.refl _ (w2.setCell ⟨w.heap.size+1+1+1,0,none⟩ (.int .i64 (i:Int)))) (R:=w.heap.size+1+1) (.inr rfl) (.int .i64 (i:Int)) (.int .i64 0) (.string ⟨#[]⟩) (.bool false) (.bool false);have bR:=r3.blk.set5 (.int .i64 (i:Int)) (.int .i64 0) (.string ⟨#[]⟩) (.bool false) (.bool false);refine bodyPost_ret (zF rfl _ _ (w.heap.size+1+1) 294 _ _ rfl bR Tryz.underlying294 rfl Tryz.outSz) rfl ?_;exact⟨P2,F2,_,_,g3.var r3 mR,n3.var r3 mR,.inl ⟨_,HSA.out,rfl⟩⟩
  .have HSA:Hid (qL G l gen old n=.inr (zBJ G n)):=oh (by unfold qL;rw[if_pos HFT.out,hi]);have HFR:Hid (FrG G l (yG G l gen old n) (yS G l old n)):=oh (zKj HOK.out.place (by rw[HOK.out.low.1];simp));have HE:=oh hE;clear hi hE;go_wp2_with fail;have mO:=zA.at (λk=>k=w.heap.size+1+1+1) w2 (w.heap.size+1+1+1) 0 (.int .i64 0) rfl;have g3:=HG2.out.var HO2.out mO;have n3:=HN2.out.var HO2.out mO;have r3:=HR2.out.other mO (by omega);have mR:=zA.set5 (F:=λk=>k=w.heap.size+1+1) (zA.refl _ (w2.setCell ⟨w.heap.size+1+1+1,0,none⟩ (.int .i64 0))) (R:=w.heap.size+1+1) (.inr rfl) (.int .i64 0) (.int .i64 0) (.string ⟨#[]⟩) (.bool false) (.bool false);have bR:=r3.blk.set5 (.int .i64 0) (.int .i64 0) (.string ⟨#[]⟩) (.bool false) (.bool false);refine bodyPost_ret (zF rfl _ _ (w.heap.size+1+1) 294 _ _ rfl bR Tryz.underlying294 rfl Tryz.outSz) rfl ?_;exact⟨P2,F2,_,_,g3.var r3 mR,n3.var r3 mR,.inr ⟨_,zSp,_,_,HSA.out,HFR.out,rfl,(HE.out.mods (HO2.out.mF mO)).mods (r3.mF mR)⟩⟩
 | false=>exact absurd HFF.out (of_decide_eq_false hfit)
end
theorem Tryz.entSz:(Tryz.prog.info? 289).map (·.size)=some 4:=by kernel_rfl
section
variable {P P' F F':NP}{ad:Nat->Addr}{w w':World}{c s:Nat}{G:GA}{l:List Nat}
theorem zIQ(gen:Nat)(key v:ByteArray)(hv:v.size<=24) :
  Calls Tryz.prog 268 #[pgV c s gen,.string key,.string v] w λe w'=>e=.returned (.tuple #[.agg #[.string key,.string v,.int .i64 0,.int .i64 0],.nilIface])/\zG w w':=by
 have hv2:(v.size:Int)<=24:=by omega
 have HB:Hid (zK ((w.alloc (gP c s gen)).alloc (.cells #[.string key,.string v,.int .i64 0,.int .i64 0] 289)) (w.heap.size+1) #[.string key,.string v,.int .i64 0,.int .i64 0] 289):=oh (zM (by simp));have HM:Hid (zG w ((w.alloc (gP c s gen)).alloc (.cells #[.string key,.string v,.int .i64 0,.int .i64 0] 289))):=oh (((zss w).alloc _).alloc _);clear hv;unfold pgV
 go_enter Tryz.func268, Tryz.ntmps268
 go_wp2_with fail;refine bodyPost_ret (zF rfl _ _ (w.heap.size+1) 289 _ _ rfl HB.out Tryz.underlying289 rfl Tryz.entSz) rfl ?_;exact⟨rfl,HM.out⟩
end
section
variable {P P' F F':NP}{ad:Nat->Addr}{w w':World}{c s:Nat}{G:GA}{l:List Nat}
def zOM(b:Bool):StA zBr->StA zBr
 | .inr k=>.inr k
 | .inl (G2,l2,o)=>.inl (G2,l2,{ o with news:=b })
theorem zPa{n:zJ}{key:ByteArray}(hno:zAp key n.entries=false)(e:zR):(zCD n key e).entries=n.entries.take (vN key n.entries)++[e]++n.entries.drop (vN key n.entries+0):=by
 unfold zCD;rw[hno];rfl
theorem zL8(key:ByteArray)(es:List zR):vN key es<=es.length:=tZ
theorem zPb(n:zJ)(hlf:n.leaf=true)(key v:ByteArray)(hno:zAp key n.entries=false)(hv:v.size<=24)(hF:zH (zCD n key ⟨key,v,0,0⟩)<=(G.size:Int)-24)(hL:yE F ad w)(hP:∀k,P k->F k)(h:vJ F w P c s G l)(gen old:Nat)(hgen:gen<18446744073709551616)(ve vk vi:Value)(hve:Sl F w 4 jW ve n.entries)(hvk:Sl F w 1 vQ vk n.keys)(hvi:Sl F w 1 yL vi n.kids)(hfew:n.entries.length<=100000)(hok:zGB G l old (zCD n key ⟨key,v,0,0⟩)) :
  Calls Tryz.prog 186 #[pgV c s gen,.int .i64 (old:Int),.agg #[.bool true,ve,vk,vi],.string key,.string v] w (zL7 F P ad w c s G l (zOM true (qL G l gen old (zCD n key ⟨key,v,0,0⟩)))):=by
 obtain⟨w1,hw1⟩:∃w1,w1=((w.alloc (gP c s gen)).alloc (.cells #[.bool true,ve,vk,vi] 277)).alloc (.cells vT 294):=⟨_,rfl⟩;have m0:zG w w1:=by rw[hw1];exact (((zss w).alloc _).alloc _).alloc _
 have hz:w1.heap.size=w.heap.size+3:=by rw[hw1];simp
 have hN:zU P P F (λk=>F k\/(w.heap.size<=k/\k<w1.heap.size)) ad w w1:=zU.new hL hP (Q:=λk=>w.heap.size<=k/\k<w1.heap.size) m0 (λk hk=>hk.1) (λk hk=>hk.2);have HB:=oh (show jF (λk=>F k\/(w.heap.size<=k/\k<w1.heap.size)) P w w1 w.heap.size (gP c s gen) 140 from ⟨by rw[hw1];exact ((zK.new w _ _).alloc _).alloc _,.inr ⟨by omega,by omega⟩,λhp=>by have:=h.bd _ hp;omega,by omega⟩);have HD:=oh (show jF (λk=>F k\/(w.heap.size<=k/\k<w1.heap.size)) P w w1 (w.heap.size+1) #[.bool true,ve,vk,vi] 277 from ⟨by rw[hw1];exact (show zK ((w.alloc _).alloc (.cells #[.bool true,ve,vk,vi] 277)) (w.heap.size+1) #[.bool true,ve,vk,vi] 277 from zM (by simp)).alloc _,.inr ⟨by omega,by omega⟩,λhp=>by have:=h.bd _ hp;omega,by omega⟩);have HR:=oh (show jF (λk=>F k\/(w.heap.size<=k/\k<w1.heap.size)) P w w1 (w.heap.size+1+1) vT 294 from ⟨by rw[hw1];exact zM (by simp),.inr ⟨by omega,by omega⟩,λhp=>by have:=h.bd _ hp;omega,by omega⟩);have HG:=oh (h.plusNew hP (Q:=λk=>w.heap.size<=k/\k<w1.heap.size) m0 (λk hk=>hk.1));have HVE:=oh (hN.sl hP hve);have HVK:=oh (hN.sl hP hvk);have HVI:=oh (hN.sl hP hvi);have HN:=oh hN;have HOK:=oh hok;have HFIT:=oh hF;have HFN:=oh (zC0 hlf key);have HNO:=oh hno;have HLF:=oh hlf;obtain⟨ea,ec,rfl,_,_,_,_⟩:=hve;obtain⟨ka,kc,rfl,_,_,_,_⟩:=hvk;obtain⟨ia,ic,rfl,_,_,_,_⟩:=hvi;obtain⟨at_,hat⟩:∃at_,at_=vN key n.entries:=⟨_,rfl⟩
 have hal:at_<=n.entries.length:=by rw[hat];exact zL8 _ _
 have HAT:=oh hat;have b0:=HB.out.blk.k 0 rfl;have b1:=HB.out.blk.k 1 rfl;have b2:=HB.out.blk.k 2 rfl;have n0:=HD.out.blk.k 0 rfl;have n1:=HD.out.blk.k 1 rfl;have n2:=HD.out.blk.k 2 rfl;have n3:=HD.out.blk.k 3 rfl;have HW1:=oh hw1;have HFD:=zCr n key _ _ (.slice ia n.kids.length ic) HVE.out HVK.out;rw[hlf,zC0 hlf key,hno,<- hat] at HFD;have HFD:=oh HFD;have HEN:=oh (λW=>zIQ (c:=c) (s:=s) (w:=W) gen key v hv);clear hL hP h m0 hN hok hw1 hF hlf hno hv hat;unfold pgV at HEN ⊢
 go_enter Tryz.func186, Tryz.ntmps186
 go_wp2_with fail;rw[<- HW1.out];refine HFD.out.mono ?_;rintro e w2 ⟨rfl,hm2⟩;have HX2:=oh hm2;have b0:=zD hm2 b0;have b1:=zD hm2 b1;have b2:=zD hm2 b2;clear hm2;go_wp2_with fail;refine (HEN.out _).mono ?_;rintro e w3 ⟨rfl,hm3⟩;obtain⟨w4,hw4⟩:∃w4,w4=(w3.alloc (.cells #[.string key,.string v,.int .i64 0,.int .i64 0] 289)).alloc (.cells #[.string key,.string v,.int .i64 0,.int .i64 0] 289):=⟨_,rfl⟩;have hm4:zG w1 w4:=by rw[hw4];exact ((HX2.out.trans hm3).alloc _).alloc _
 have HX4:=oh hm4;have n1:=(HD.out.ext (HX2.out.trans hm3)).blk.k 1 rfl;have n1c:=zP n1 (.cells #[.string key,.string v,.int .i64 0,.int .i64 0] 289);have HSL1:Hid (Sl (λk=>F k\/(w.heap.size<=k/\k<w1.heap.size)) w4 4 jW (.slice (some ⟨w3.heap.size+1,0,none⟩) 1 1) [(⟨key,v,0,0⟩:zR)]):=oh (Sl.one (by rw[hw4];exact zM (by simp)) (λf=>by
  rcases f with f|f
  .have:=HN.out.env.lt _ (.inl f);have:=(HX2.out.trans hm3).size;omega
  .have:=(HX2.out.trans hm3).size;omega))
 have n1b:w4.cell? ⟨w.heap.size+1,1,none⟩=some (.slice ea n.entries.length ec):=(HD.out.ext hm4).blk.k 1 rfl;have HW4:=oh hw4;clear hm3 hm4 hw4;go_wp2_with fail;rw[<- HW4.out];refine (zEw _ _ n.entries [(⟨key,v,0,0⟩:zR)] (HVE.out.ext HX4.out) HSL1.out at_ 0 (by omega) (by omega) (by simp)).mono ?_;rintro e w5 ⟨ev,rfl,hO5,hm5⟩;obtain⟨oa,oc,rfl,_,_⟩:=hO5.form;have HL5:Hid ((n.entries.take at_++[(⟨key,v,0,0⟩:zR)]++n.entries.drop (at_+0))=(zCD n key ⟨key,v,0,0⟩).entries):=oh (by rw[zPa HNO.out,HAT.out]);rw[HL5.out] at hO5 ⊢;have HX5:=oh (HX4.out.trans hm5);have hD5:=HD.out.ext HX5.out;have HO5:=oh (hO5.rebase (base':=w1.heap.size) HX4.out.size);have d0:=hD5.blk.d 0 (.bool true) rfl;have d1:=hD5.blk.d 1 (.slice ea n.entries.length ec) rfl;have d2:=hD5.blk.d 2 (.slice ka n.keys.length kc) rfl;have d3:=hD5.blk.d 3 (.slice ia n.kids.length ic) rfl;have df:=hD5.blk.frozen;have b0:=(HB.out.ext HX5.out).blk.k 0 rfl;have b1:=(HB.out.ext HX5.out).blk.k 1 rfl;have b2:=(HB.out.ext HX5.out).blk.k 2 rfl;obtain⟨n',hn'⟩:∃n',n'=zCD n key ⟨key,v,0,0⟩:=⟨_,rfl⟩;have HN':Hid (n'.leaf=true/\n'.keys=n.keys/\n'.kids=n.kids):=oh (by rw[hn'];exact⟨HLF.out,rfl,rfl⟩);rw[<- hn'] at HO5 HOK HFIT HL5 ⊢;have mD:zA (λk=>k=w.heap.size+1) w5 (w5.setCell ⟨w.heap.size+1,1,none⟩ (.slice oa n'.entries.length oc)):=zA.at _ w5 _ 1 _ rfl;have HGD:=oh ((HG.out.at HX5.out).var hD5 mD);have HND:=oh ((HN.out.trans (zU.ext HN.out.env HN.out.sub HX5.out)).var hD5 mD);have HRD:=oh ((HR.out.ext HX5.out).other mD (by omega));have hmF:=hD5.mF mD;have HSE:Hid (Sl (λk=>F k\/(w.heap.size<=k/\k<w1.heap.size)) (w5.setCell ⟨w.heap.size+1,1,none⟩ (.slice oa n'.entries.length oc)) 4 jW (.slice oa n'.entries.length oc) n'.entries):=oh ((HO5.out.slF (λk hk=>by
  rcases hk with hk|hk
  .exact HN.out.env.lt k (.inl hk)
  .exact hk.2) zBT.len (by have:=HOK.out.few.1;omega)).mods hmF)
 have HSK:=oh (((HVK.out.ext HX5.out).mods hmF));have HSI:=oh (((HVI.out.ext HX5.out).mods hmF));have HST:=zHB n' HFIT.out HND.out.env HND.out.sub HGD.out gen old hgen _ _ _ HSE.out (by rw[HN'.out.2.1];exact HSK.out) (by rw[HN'.out.2.2];exact HSI.out) HOK.out;rw[HN'.out.1] at HST;unfold pgV at HST;have HST:=oh HST;have HNN:=oh hn';clear hO5 hm5 hD5 mD hmF hn';go_wp2_with fail;refine HST.out.mono ?_;rintro e w6 ⟨P6,F6,G6,l6,hG6,hN6,hr⟩;have HR6:=oh (HRD.out.nxt hN6);have HG6:=oh hG6;have HN6:=oh (HND.out.trans hN6);have hlt6:w.heap.size+1+1<w6.heap.size:=HR6.out.blk.lt;have hne6:w6.heap.size≠w.heap.size+1+1:=by omega
 clear hG6 hN6;rcases hr with ⟨o,hs,rfl⟩|⟨k,o,f,el,hs,hfr,rfl,hE⟩
 .have HS:=oh hs;clear hs;unfold zGc;have q0:=HR6.out.blk.k 0 rfl;have q1:=HR6.out.blk.k 1 rfl;have q2:=HR6.out.blk.k 2 rfl;have q3:=HR6.out.blk.k 3 rfl;have q4:=HR6.out.blk.k 4 rfl;have qf:=HR6.out.blk.frozen;go_wp2_with fail;have mR:=zA.set5 (F:=λk=>k=w.heap.size+1+1) (zss w6) (R:=w.heap.size+1+1) (.inr rfl) (.int .i64 (o.id0:Int)) (.int .i64 (o.id1:Int)) (.string o.key) (.bool o.two) (.bool true);have bR:=HR6.out.blk.set5 (.int .i64 (o.id0:Int)) (.int .i64 (o.id1:Int)) (.string o.key) (.bool o.two) (.bool true);have gR:=HG6.out.var HR6.out mR;have nR:=HN6.out.var HR6.out mR;have mA:=(zA.refl (λ_=>False) (((((w6.setCell ⟨w.heap.size+1+1,0,none⟩ (.int .i64 (o.id0:Int))).setCell ⟨w.heap.size+1+1,1,none⟩ (.int .i64 (o.id1:Int))).setCell ⟨w.heap.size+1+1,2,none⟩ (.string o.key)).setCell ⟨w.heap.size+1+1,3,none⟩ (.bool o.two)).setCell ⟨w.heap.size+1+1,4,none⟩ (.bool true))).alloc (.cells #[.int .i64 (o.id0:Int),.int .i64 (o.id1:Int),.string o.key,.bool o.two,.bool true] 294);refine bodyPost_ret (zF rfl _ _ (w.heap.size+1+1) 294 _ _ rfl (bR.ext mA) Tryz.underlying294 rfl Tryz.outSz) rfl ?_;exact⟨P6,F6,G6,l6,gR.at mA,nR.trans (zU.ext nR.env nR.sub mA),.inl ⟨{ o with news:=true },by rw[<- HNN.out,HS.out];rfl,rfl⟩⟩
 .have HS:=oh hs;have HE:=oh hE;clear hs hE;unfold zGc;have q0:=HR6.out.blk.k 0 rfl;have q1:=HR6.out.blk.k 1 rfl;have q2:=HR6.out.blk.k 2 rfl;have q3:=HR6.out.blk.k 3 rfl;have q4:=HR6.out.blk.k 4 rfl;have qf:=HR6.out.blk.frozen;go_wp2_with fail;have mR:=zA.set5 (F:=λk=>k=w.heap.size+1+1) (zss w6) (R:=w.heap.size+1+1) (.inr rfl) (.int .i64 (o.id0:Int)) (.int .i64 (o.id1:Int)) (.string o.key) (.bool o.two) (.bool true);have bR:=HR6.out.blk.set5 (.int .i64 (o.id0:Int)) (.int .i64 (o.id1:Int)) (.string o.key) (.bool o.two) (.bool true);have gR:=HG6.out.var HR6.out mR;have nR:=HN6.out.var HR6.out mR;have mA:=(zA.refl (λ_=>False) (((((w6.setCell ⟨w.heap.size+1+1,0,none⟩ (.int .i64 (o.id0:Int))).setCell ⟨w.heap.size+1+1,1,none⟩ (.int .i64 (o.id1:Int))).setCell ⟨w.heap.size+1+1,2,none⟩ (.string o.key)).setCell ⟨w.heap.size+1+1,3,none⟩ (.bool o.two)).setCell ⟨w.heap.size+1+1,4,none⟩ (.bool true))).alloc (.cells #[.int .i64 (o.id0:Int),.int .i64 (o.id1:Int),.string o.key,.bool o.two,.bool true] 294);refine bodyPost_ret (zF rfl _ _ (w.heap.size+1+1) 294 _ _ rfl (bR.ext mA) Tryz.underlying294 rfl Tryz.outSz) rfl ?_;exact⟨P6,F6,G6,l6,gR.at mA,nR.trans (zU.ext nR.env nR.sub mA),.inr ⟨k,{ o with news:=true },f,el,by rw[<- HNN.out,HS.out];rfl,hfr,rfl,(HE.out.mods (HR6.out.mF mR)).mods mA.ext⟩⟩
end
def zC2(key v:ByteArray):Option Err:=if qP key=false then some ([-1],2) else if 4096<v.size then some ([-1],8) else none
section
variable {P P' F F':NP}{ad:Nat->Addr}{w w':World}{c s:Nat}{G:GA}{l:List Nat}
theorem zHC(hL:yE F ad w)(gen:Nat)(key v:ByteArray)(hfu:zDm ad\/v.size<=4096) :
  Calls Tryz.prog 185 #[pgV c s gen,.string key,.string v] w λe w'=>∃ev,e=.returned ev/\zCa F ad w' ev (zC2 key v)/\zG w w':=by
 unfold pgV;have m0:zG w (w.alloc (gP c s gen)):=(zss w).alloc _;have hL0:=hL.mods m0.ext;have g2:=hL0.c2;have HL:=oh hL0;have M0:=oh m0;have HFU:=oh hfu;clear hL hL0 m0 hfu;cases hk:qP key with
 | false =>
  have HR:Hid (zC2 key v=some ([-1],2)):=oh (by unfold zC2;rw[if_pos hk]);have HK:=oh (zBd key);rw[hk] at HK;clear hk
  go_enter Tryz.func185, Tryz.ntmps185
  go_wp2_with fail;refine (HK.out _).mono ?_;rintro e w1 ⟨rfl,rfl⟩;go_wp2_with fail;refine (yR HL.out _ _ [] 2 (.sent 2 (by decide) (by decide))).mono ?_;rintro e w1 ⟨f,rfl,hE,hm⟩;have HE:=oh hE;have HM:=oh hm;clear hE hm;go_wp2_with fail;go_ret;exact⟨_,rfl,by rw[HR.out];exact⟨f,rfl,HE.out⟩,M0.out.trans HM.out⟩
 | true =>
  have HK:=oh (zBd key);rw[hk] at HK;by_cases hv:4096<v.size
  .have HR:Hid (zC2 key v=some ([-1],8)):=oh (by unfold zC2;rw[if_neg (by rw[hk];simp),if_pos hv]);have hv2:(4096:Int)<(v.size:Int):=by omega
   have g8:=HL.out.c8 (HFU.out.resolve_right (by omega));clear hk hv
   go_enter Tryz.func185, Tryz.ntmps185
   go_wp2_with fail;refine (HK.out _).mono ?_;rintro e w1 ⟨rfl,rfl⟩;go_wp2_with fail;refine (yR HL.out _ _ [] 8 (.sent 8 (by decide) (by decide))).mono ?_;rintro e w1 ⟨f,rfl,hE,hm⟩;have HE:=oh hE;have HM:=oh hm;clear hE hm;go_wp2_with fail;go_ret;exact⟨_,rfl,by rw[HR.out];exact⟨f,rfl,HE.out⟩,M0.out.trans HM.out⟩
  .have HR:Hid (zC2 key v=none):=oh (by unfold zC2;rw[if_neg (by rw[hk];simp),if_neg hv]);have hv2:¬ (4096:Int)<(v.size:Int):=by omega
   clear hk hv
   go_enter Tryz.func185, Tryz.ntmps185
   go_wp2_with fail;refine (HK.out _).mono ?_;rintro e w1 ⟨rfl,rfl⟩;go_wp2_with fail;go_ret;exact⟨_,rfl,by rw[HR.out];rfl,M0.out⟩
end
def zBK(key v:ByteArray):zJ:=⟨true,[⟨key,v,0,0⟩],[],[]⟩
theorem zDH{key v:ByteArray}(hk:qP key=true)(hv:v.size<=24):zQ (zBK key v)=true:=by
 unfold zQ zBK qZ;simp[hk,hv,jH]
theorem zGC{key v:ByteArray}(hk:qP key=true)(hv:v.size<=24):zH (zBK key v)<=61:=by
 have:=(jX key).1 hk;unfold zH zBK;simp[yI,yJ,zAe];omega
theorem zFe(key v:ByteArray):zCD zDf key ⟨key,v,0,0⟩=zBK key v:=rfl
theorem zRI{G:GA}{l:List Nat}{key v:ByteArray}(hk:qP key=true)(hv:v.size<=24)(hl:zGb l)(hlen:l.length<=G.blocks)(hco:G.cost+10<=1000000)(hs:256<=G.size):zGB G l 0 (zBK key v):=by
 have h1:=zGC hk hv;have h2:=zDH hk hv;refine⟨.inl rfl,hl,hlen,hco,by omega,λ_=>?_,λhn=>by omega,by simp[zBK]⟩;have:=zAa (vA h2);omega
def zTK(F P:NP)(ad:Nat->Addr)(w:World)(c s gen:Nat)(G:GA)(l:List Nat)(key v:ByteArray)(i:Nat)(e:Ending)(w':World):Prop :=
 ∃P' F',vJ F' w' P' c s (yG G l gen 0 (zBK key v)) (yS G l 0 (zBK key v))/\zU P P' F F' ad w w'/\e=.returned (.tuple #[.int .i64 (i:Int),.bool true,.nilIface])
section
variable {P P' F F':NP}{ad:Nat->Addr}{w w':World}{c s:Nat}{G:GA}{l:List Nat}
theorem zRJ(hL:yE F ad w)(hP:∀k,P k->F k)(h:vJ F w P c s G l)(gen:Nat)(hgen:gen<18446744073709551616)(key v:ByteArray)(hk:qP key=true)(hv:v.size<=24)(hl:zGb l)(hlen:l.length<=G.blocks)(hco:G.cost+10<=1000000)(i:Nat)(hi:qN l=some i) :
  Calls Tryz.prog 118 #[pgV c s gen,.int .i64 0,.string key,.string v] w (zTK F P ad w c s gen G l key v i):=by
 have m0:zG w (w.alloc (gP c s gen)):=(zss w).alloc _;have HB0:=oh (zK.new w (gP c s gen) 140);have HC:=zHC (c:=c) (s:=s) (hL.mods m0.ext) gen key v (.inr (by omega));rw[show zC2 key v=none by unfold zC2;rw[if_neg (by rw[hk];simp),if_neg (by omega)]] at HC;have hlim:=h.lim;have hst:qL G l gen 0 (zBK key v)=.inl (yG G l gen 0 (zBK key v),yS G l 0 (zBK key v),⟨i,0,e0,false,false⟩):=by
  have h1:=zGC hk hv;have hd:qO G l 0 (zBK key v)=some i:=by
   unfold qO;rw[if_pos ⟨zDH hk hv,by omega⟩];unfold zAC;rw[if_neg (by simp)];exact hi
  unfold qL;rw[if_pos (by omega),hd]
 have HST:=oh hst;have HOK:=oh (zRI hk hv hl hlen hco hlim.2.2.1);have HFT:Hid (zH (zBK key v)<=(G.size:Int)-24):=oh (by have:=zGC hk hv;omega);have HV:=oh hv;have HG:=oh h;have HP:=oh hP;have HL:=oh hL;have M0:=oh m0;have HC:=oh HC;have HBP:Hid (¬ P w.heap.size):=oh (λhp=>by have:=h.bd _ hp;omega);unfold pgV at HC ⊢;clear hL hP h m0 hk hv hl hlen hco hi hlim hst
 go_enter Tryz.func118, Tryz.ntmps118
 go_wp2_with fail;refine HC.out.mono ?_;rintro e w1 ⟨ev,rfl,hE,hm1⟩;cases hE
 have M1:=oh (M0.out.trans hm1);have HB1:=oh (HB0.out.ext hm1);obtain⟨w2,hw2⟩:∃w2,w2=w1.alloc (.cells vT 294):=⟨_,rfl⟩;have m2:zG w w2:=by rw[hw2];exact M1.out.alloc _
 have hz:w2.heap.size=w1.heap.size+1:=by rw[hw2];simp
 have hz1:w.heap.size<w1.heap.size:=HB1.out.lt;have HN2:Hid (zU P P F (λk=>F k\/k=w1.heap.size) ad w w2):=oh (zU.new HL.out HP.out (Q:=λk=>k=w1.heap.size) m2 (λk hk=>by omega) (λk hk=>by omega));have HG2:=oh (HG.out.plusNew HP.out (Q:=λk=>k=w1.heap.size) m2 (λk hk=>by omega));have HO:=oh (show jF (λk=>F k\/k=w1.heap.size) P w w2 w1.heap.size vT 294 from ⟨by rw[hw2];exact zK.new _ _ _,.inr rfl,λhp=>by have:=HG.out.bd _ hp;omega,by omega⟩);have b0:=zP (HB1.out.d 0 (.pointer (some ⟨c,0,none⟩)) rfl) (.cells vT 294);have b1:=zP (HB1.out.d 1 (.pointer (some ⟨s,0,none⟩)) rfl) (.cells vT 294);have b2:=zP (HB1.out.d 2 (.int .u64 (gen:Int)) rfl) (.cells vT 294);have HLF:=zPb (w:=w2) zDf rfl key v rfl HV.out (by rw[zFe];exact HFT.out) HN2.out.env HN2.out.sub HG2.out gen 0 hgen (.slice none 0 0) (.slice none 0 0) (.slice none 0 0) (Sl.nil _ _ _ _) (Sl.nil _ _ _ _) (Sl.nil _ _ _ _) (by simp[zDf]) (by rw[zFe];exact HOK.out);rw[zFe,HST.out] at HLF;unfold pgV at HLF;have HLF:=oh HLF;have HW2:=oh hw2;clear hm1 m2 hw2;go_wp2_with fail;rw[<- HW2.out];refine HLF.out.mono ?_;rintro e w3 ⟨P3,F3,G3,l3,hG3,hN3,⟨o,ho,rfl⟩|⟨k,o,f,el,ho,_⟩⟩
 .simp only[zOM,Sum.inl.injEq,Prod.mk.injEq] at ho;obtain⟨rfl,rfl,rfl⟩:=ho;have HO3:=oh (HO.out.nxt hN3);have HG3:=oh hG3;have HN3:=oh (HN2.out.trans hN3);have q0:=HO3.out.blk.k 0 rfl;have q1:=HO3.out.blk.k 1 rfl;have q2:=HO3.out.blk.k 2 rfl;have q3:=HO3.out.blk.k 3 rfl;have q4:=HO3.out.blk.k 4 rfl;have qf:=HO3.out.blk.frozen;have mR:=zA.set5 (F:=λk=>k=w1.heap.size) (zss w3) (R:=w1.heap.size) (.inr rfl) (.int .i64 (i:Int)) (.int .i64 0) (.string e0) (.bool false) (.bool true);have HGR:=oh (HG3.out.var HO3.out mR);have HNR:=oh (HN3.out.var HO3.out mR);have HBR:=oh (HO3.out.blk.set5 (.int .i64 (i:Int)) (.int .i64 0) (.string e0) (.bool false) (.bool true));unfold zGc;clear hG3 hN3 mR;go_wp2_with fail;have q0:=HBR.out.k 0 rfl;have q4:=HBR.out.k 4 rfl;go_quiet (fail)
  go_wp2_with fail;refine bodyPost_ret (v:=.tuple #[.int .i64 (i:Int),.bool true,.nilIface]) (by simp[results,Tryz.results118,go_sem]) rfl ?_;exact⟨P3,F3,HGR.out.at (zr.drewN _),HNR.out.trans (zU.ext HNR.out.env HNR.out.sub (zr.drewN _)),rfl⟩
 .cases ho
end
section
variable {P P' F F':NP}{ad:Nat->Addr}{w w':World}{S d c sp:Nat}{s:jM}{home root keys:Int}{G G':GA}{l l':List Nat}
theorem StR.at(h:StR F w P S d c sp s home root keys G l)(m:zG w w'):StR F w' P S d c sp s home root keys G l:=by
 obtain⟨h1,⟨a,cc,h2⟩,h3,h4⟩:=h;exact⟨h1.at m,⟨a,cc,h2.ext m⟩,h3,h4⟩
theorem StR.nxt(h:StR F w P S d c sp s home root keys G l)(n:zU P P' F F' ad w w')(hG:vJ F' w' P' c sp G' l'):StR F' w' P' S d c sp s home root keys G' l':=by
 obtain⟨h1,⟨a,cc,h2⟩,h3,h4⟩:=h;exact⟨hG,⟨a,cc,n.blk h2 h3⟩,n.not h2.lt h3,n.grow S h4⟩
theorem StR.set(h:StR F w P S d c sp s home root keys G l)(r k:Int):StR F ((w.setCell ⟨S,9,none⟩ (.int .i64 r)).setCell ⟨S,10,none⟩ (.int .i64 k)) P S d c sp s home r k G l:=by
 obtain⟨h1,⟨a,cc,h2⟩,h3,h4⟩:=h;have m:zA (λj=>j=S) w ((w.setCell ⟨S,9,none⟩ (.int .i64 r)).setCell ⟨S,10,none⟩ (.int .i64 k)):=zA.setCell (F:=λj=>j=S) (zA.setCell (F:=λj=>j=S) (zss w) (p:=⟨S,9,none⟩) (.inr rfl) _) (p:=⟨S,10,none⟩) (.inr rfl) _;exact⟨h1.plus m (λk hk e=>by have e':k=S:=e;exact h3 (e' ▸ hk)) (λk e=>by have e':k=S:=e;rw[e'];exact h4) (λ_ _ h=>h),⟨a,cc,by simpa[stC] using (h2.set 9 (.int .i64 r)).set 10 (.int .i64 k)⟩,h3,h4⟩
theorem zU.withS(n:zU P P' F F' ad w w'){w2:World}(hS:S<w.heap.size)(hF:F' S)(m:zA (λj=>j=S) w' w2):zU (yD P S) (yD P' S) F F' ad w w2 :=
 ⟨⟨(n.stp.mods.mono (λj h=>.inl h)).trans' m (λi _ h=>.inr h),λk hk h=>h.elim (λh=>.inl (n.stp.old k hk h)) .inr,λk h=>h.elim (λh=>uG (n.stp.bd k h) m.size) (λe=>by rw[e];exact uG hS (uT n.stp.mods.size m.size))⟩,
  λk h=>h.elim (λh=>n.sub k h) (λe=>by rw[e];exact hF),n.grow,n.oldF,n.env.mods (m.mono (λj h=>by have h':j=S:=h;rw[h'];exact hF))⟩
theorem StR.lt(h:StR F w P S d c sp s home root keys G l):S<w.heap.size:=by
 obtain⟨_,⟨a,cc,h2⟩,_,_⟩:=h;exact h2.lt
theorem zJu(r k:Int):zA (λj=>j=S) w ((w.setCell ⟨S,9,none⟩ (.int .i64 r)).setCell ⟨S,10,none⟩ (.int .i64 k)):=zA.setCell (F:=λj=>j=S) (zA.setCell (F:=λj=>j=S) (zss w) (p:=⟨S,9,none⟩) (.inr rfl) _) (p:=⟨S,10,none⟩) (.inr rfl) _
theorem zKk(h:StR F w P S d c sp s home root keys G l)(op:ByteArray) : Calls Tryz.prog 76 #[.pointer (some ⟨S,0,none⟩),.string op] w λe w'=>e=.returned .nilIface/\w=w':=by
 obtain⟨h1,⟨a,cc,h2⟩,h3,h4⟩:=h;have c12:=h2.d 12 (.bool false) rfl;clear h1 h2 h3 h4
 go_enter Tryz.func76, Tryz.ntmps76
 go_wp2_with fail;go_ret;exact⟨rfl,rfl⟩
theorem zTL(h:StR F w P S d c sp s home root keys G l) : Calls Tryz.prog 23 #[.pointer (some ⟨S,0,none⟩)] w λe w'=>e=.returned (.int .u64 (s.gen:Int))/\w=w':=by
 obtain⟨h1,⟨a,cc,h2⟩,h3,h4⟩:=h;have c3:=h2.d 3 (.int .u64 (s.gen:Int)) rfl;clear h1 h2 h3 h4
 go_enter Tryz.func23, Tryz.ntmps23
 go_wp2_with fail;go_ret;exact⟨rfl,rfl⟩
theorem Tryz.stPgSize:(Tryz.prog.info? 140).map (·.size)=some 3:=by kernel_rfl
theorem zKl(h:StR F w P S d c sp s home root keys G l)(hg:s.gen+1<18446744073709551616) : Calls Tryz.prog 78 #[.pointer (some ⟨S,0,none⟩)] w λe w'=>e=.returned (pgV c sp (s.gen+1))/\zG w w':=by
 obtain⟨h1,⟨a,cc,h2⟩,h3,h4⟩:=h;have c1:=h2.d 1 (.pointer (some ⟨c,0,none⟩)) rfl;have c2:=h2.d 2 (.pointer (some ⟨sp,0,none⟩)) rfl;have c3:=h2.d 3 (.int .u64 (s.gen:Int)) rfl;have hS:=h2.lt;have HB0:=oh (zK.new w #[.pointer none,.pointer none,.int .u64 0] 140);have hne:S≠w.heap.size:=λe=>by omega
 obtain⟨g,hgg⟩:∃g,g=s.gen:=⟨_,rfl⟩;have HPV:Hid (pgV c sp (s.gen+1)=.agg #[.pointer (some ⟨c,0,none⟩),.pointer (some ⟨sp,0,none⟩),.int .u64 ((g:Int)+1)]):=oh (by rw[hgg];rfl);rw[<- hgg] at c3 hg;clear h1 h2 h3 h4 hgg
 go_enter Tryz.func78, Tryz.ntmps78
 go_wp2_with fail;go_region
 go_wp2_with fail;refine bodyPost_ret (results_cell_row rfl _ _ w.heap.size 140 #[.pointer (some ⟨c,0,none⟩),.pointer (some ⟨sp,0,none⟩),.int .u64 ((g:Int)+1)] (0,0) _ rfl (zK.drew (zK.new w _ _)) Tryz.underlying140 rfl Tryz.stPgSize) rfl ?_;exact⟨by rw[HPV.out],((zss w).alloc _).drew⟩
def zSq(F P:NP)(ad:Nat->Addr)(w:World)(S d c sp:Nat)(s:jM)(home keys:Int)(G:GA)(l:List Nat)(key v:ByteArray)(i:Nat)(e:Ending)(w':World):Prop :=
 ∃P' F',e=.returned (.tuple #[.bool true,.nilIface])/\StR F' w' P' S d c sp s home (i:Int) (keys+1) (yG G l (s.gen+1) 0 (zBK key v)) (yS G l 0 (zBK key v))/\zU (yD P S) (yD P' S) F F' ad w w'
theorem zSr(hL:yE F ad w)(hP:∀k,P k->F k)(h:StR F w P S d c sp s home 0 keys G l)(hg:s.gen+1<18446744073709551616)(hkk:0<=keys/\keys<1000000)(key v:ByteArray)(hk:qP key=true)(hv:v.size<=24)(hl:zGb l)(hlen:l.length<=G.blocks)(hco:G.cost+10<=1000000)(i:Nat)(hi:qN l=some i) :
  Calls Tryz.prog 60 #[.pointer (some ⟨S,0,none⟩),.string key,.string v] w (zSq F P ad w S d c sp s home keys G l key v i):=by
 have HAL:=oh (λop=>zKk h op);have HPG:=oh (λW (m:zG w W)=>zKl (h.at m) hg);have HPU:=oh (λW (m:zG w W)=>zRJ (hL.mods m.ext) hP (h.at m).1 (s.gen+1) hg key v hk hv hl hlen hco i hi);have HST:=oh h;have HN:=oh (λW (m:zG w W)=>zU.ext hL hP m);have c9:Hid (∀W,zG w W->W.cell? ⟨S,9,none⟩=some (.int .i64 0)):=oh (λW m=>by obtain⟨_,⟨a,cc,h2⟩,_,_⟩:=h.at m;exact h2.cell rfl);have HKK:=oh hkk;clear hL hP h hg hk hv hl hlen hco hi hkk;obtain⟨pg,hpg⟩:∃pg,pg=pgV c sp (s.gen+1):=⟨_,rfl⟩;rw[<- hpg] at HPG HPU;clear hpg
 go_enter Tryz.func60, Tryz.ntmps60
 go_wp2_with fail;refine (HAL.out _).mono ?_;rintro e w1 ⟨rfl,rfl⟩;have zd:=c9.out _ (zss w).drew;go_wp2_with fail;go_region_held3 (λw'=>w'.cell? ⟨S,9,none⟩=some (.int .i64 0))
  (first|(with_reducible exact zd)|(with_reducible exact z5)|(with_reducible exact z6)|fail)
  (first
   | (go_at_call 78;(with_reducible refine (HPG.out _ (zss w).drew).mono ?_);rintro e w5 ⟨rfl,m5⟩;have x5:=(zss w).drew.trans m5;have z5:=c9.out _ x5)
   | (go_at_call 118;((with_reducible refine (HPU.out _ x5).mono ?_);rintro e w6 ⟨P6,F6,hG6,n6,rfl⟩;have h6:=(HST.out.at x5).nxt n6 hG6;have n06:=(HN.out _ x5).trans n6;have z6:w6.cell? ⟨S,9,none⟩=some (.int .i64 0):=(by obtain⟨_,⟨a,cc,h2⟩,_,_⟩:=h6;exact h2.cell rfl)))
   | fail)
 obtain⟨h7,⟨a,cc,hB6⟩,hn6,hf6⟩:=_root_.id h6;have s9:=hB6.d 9 (.int .i64 0) rfl;have s10:=hB6.d 10 (.int .i64 keys) rfl;have sf:=hB6.frozen;have H6:=oh h6;have N06:=oh n06;have HSW:=oh HST.out.lt;obtain⟨k1,k2⟩:=HKK.out;clear h7 hB6 hn6 hf6 h6 n06 n6 hG6 z5 z6 zd x5 m5;go_wp2_with fail;go_ret2
 exact⟨P6,F6,rfl,H6.out.set (i:Int) (keys+1),N06.out.withS HSW.out H6.out.2.2.2 (zJu _ _)⟩
end
end
section
open Go.RowKit
def zHN(G:GA)(gen:Nat)(e:zR)(v:ByteArray)(ids:List Nat):Prop :=
 (e.chain=0/\e.value=v/\ids=[])\/(e.chain≠0/\ChG G gen e.chain e.size v ids)
inductive jL (G:GA) (gen:Nat):List zR->List zE->List Nat->Prop
 | nil:jL G gen [] [] []
 | cons {e x ids es l q}:e.key=x.1->zHN G gen e x.2 ids->jL G gen es l q->jL G gen (e :: es) (x :: l) (ids++q)
abbrev zEk:=ByteArray->Option ByteArray->Nat->List zE->List Nat->Prop
inductive vY (T:zEk):ByteArray->Option ByteArray->List ByteArray->List Int->List zE->List Nat->Prop
 | one {lo hi c l q}:T lo hi c l q->vY T lo hi [] [(c:Int)] l q
 | cons {lo hi s c keys kids l1 l2 q1 q2}:T lo (some s) c l1 q1->inB lo hi s->vY T s hi keys kids l2 q2->vY T lo hi (s :: keys) ((c:Int) :: kids) (l1++l2) (q1++q2)
structure PgN(G:GA)(gen id:Nat)(n:zJ):Prop where
 lo:2<=id
 lt:id<G.blocks
 page:∃p,G.view id=some (.inl p)/\p.gen<=gen/\zAf p=.inl n
 fit:zH n<=(G.size:Int)-24
def zIR(G:GA)(gen:Nat)(T:zEk)(d:Nat)(lo:ByteArray)(hi:Option ByteArray)(n:zJ)(l:List zE)(q:List Nat):Prop :=
 (n.leaf=true/\d=0/\l≠[]/\jL G gen n.entries l q/\∀x∈l,inB lo hi x.1)\/(n.leaf=false/\vY T lo hi n.keys n.kids l q)
def TrD(G:GA)(gen:Nat):Nat->zEk
 | 0=>λ_ _ _ _ _=>False
 | d+1=>λlo hi id l pgs=>∃n q,PgN G gen id n/\zQ n=true/\pgs=id :: q/\zIR G gen (TrD G gen d) d lo hi n l q
section
variable {G G':GA}{gen gen':Nat}{T T':zEk}{lo:ByteArray}{hi:Option ByteArray}{l:List zE}{q:List Nat}{keys:List ByteArray}{kids:List Int}
theorem zKm{lo s x:ByteArray}{hi:Option ByteArray}(h1:inB lo hi s)(h2:inB s hi x):inB lo hi x:=⟨zFv h1.1 h2.1,h2.2⟩
theorem zL9{lo s x:ByteArray}{hi:Option ByteArray}(h1:inB lo hi s)(h2:inB lo (some s) x):inB lo hi x:=⟨h2.1,λh e=>qQ (h2.2 s rfl) (h1.2 h e)⟩
theorem vY.bounds(hT:∀lo hi c l q,T lo hi c l q->∀x∈l,inB lo hi x.1)(h:vY T lo hi keys kids l q):∀x∈l,inB lo hi x.1:=by
 induction h with
 | one h=>exact hT _ _ _ _ _ h
 | cons h1 h2 _ ih =>
  intro x hx;rcases uN.1 hx with hx|hx
  .exact zL9 h2 (hT _ _ _ _ _ h1 x hx)
  .exact zKm h2 (ih x hx)
theorem TrD.bounds:∀(d:Nat) (lo:ByteArray) (hi:Option ByteArray) (id:Nat) (l:List zE) (q:List Nat),TrD G gen d lo hi id l q->∀x∈l,inB lo hi x.1
 | 0,_,_,_,_,_,h=>h.elim
 | d+1,lo,hi,id,l,q,h=>by
  obtain⟨n,q,_,_,_,h⟩:=h;rcases h with ⟨_,_,_,_,h⟩|⟨_,h⟩
  .exact h
  .exact h.bounds (TrD.bounds d)
theorem vY.mono(h:vY T lo hi keys kids l q):(∀lo hi c l p,(∀x∈p,x∈q)->T lo hi c l p->T' lo hi c l p)->vY T' lo hi keys kids l q:=by
 induction h with
 | one h=>exact λhm=>.one (hm _ _ _ _ _ (λ_ hx=>hx) h)
 | cons h1 h2 _ ih=>exact λhm=>.cons (hm _ _ _ _ _ (λ_ hx=>wR _ hx) h1) h2 (ih (λlo hi c l p hp=>hm lo hi c l p (λx hx=>wQ _ (hp x hx))))
theorem zHN.mono{e:zR}{v:ByteArray}{ids:List Nat}(h:zHN G gen e v ids)(hg:gen<=gen')(hb:G'.blocks=G.blocks)(hs:G'.size=G.size)(hv:∀i∈ids,G'.view i=G.view i):zHN G' gen' e v ids :=
 h.imp id (λh=>⟨h.1,h.2.mono hg hb hs hv⟩)
theorem jL.mono{es:List zR}(h:jL G gen es l q):gen<=gen'->G'.blocks=G.blocks->G'.size=G.size->(∀i∈q,G'.view i=G.view i)->jL G' gen' es l q:=by
 induction h with
 | nil=>exact λ_ _ _ _=>.nil
 | cons h1 h2 _ ih=>exact λhg hb hs hv=>.cons h1 (h2.mono hg hb hs (λi hi=>hv i (wR _ hi))) (ih hg hb hs (λi hi=>hv i (wQ _ hi)))
theorem PgN.mono{id:Nat}{n:zJ}(h:PgN G gen id n)(hg:gen<=gen')(hb:G'.blocks=G.blocks)(hs:G'.size=G.size)(hv:G'.view id=G.view id):PgN G' gen' id n:=by
 obtain⟨p,h1,h2,h3⟩:=h.page;exact⟨h.lo,by rw[hb];exact h.lt,⟨p,hv.trans h1,uT h2 hg,h3⟩,by rw[hs];exact h.fit⟩
theorem TrD.mono(hg:gen<=gen')(hb:G'.blocks=G.blocks)(hs:G'.size=G.size):∀(d:Nat) (lo:ByteArray) (hi:Option ByteArray) (id:Nat) (l:List zE) (q:List Nat),(∀i∈q,G'.view i=G.view i)->TrD G gen d lo hi id l q->TrD G' gen' d lo hi id l q
 | 0,_,_,_,_,_,_,h=>h.elim
 | d+1,lo,hi,id,l,pgs,hv,h=>by
  obtain⟨n,q,h1,h2,rfl,h3⟩:=h;refine⟨n,q,h1.mono hg hb hs (hv id uH),h2,rfl,?_⟩;have hv2:∀i∈q,G'.view i=G.view i:=λi hi=>hv i (uI _ hi)
  rcases h3 with ⟨a1,a2,a3,a4,a5⟩|⟨a1,a2⟩
  .exact .inl ⟨a1,a2,a3,a4.mono hg hb hs hv2,a5⟩
  .exact .inr ⟨a1,a2.mono (λlo hi c l p hp=>TrD.mono hg hb hs d lo hi c l p (λi hi=>hv2 i (hp i hi)))⟩
theorem zIR.mono{d:Nat}{n:zJ}(h:zIR G gen (TrD G gen d) d lo hi n l q)(hg:gen<=gen')(hb:G'.blocks=G.blocks)(hs:G'.size=G.size)(hv:∀i∈q,G'.view i=G.view i):zIR G' gen' (TrD G' gen' d) d lo hi n l q:=by
 rcases h with ⟨a1,a2,a3,a4,a5⟩|⟨a1,a2⟩
 .exact .inl ⟨a1,a2,a3,a4.mono hg hb hs hv,a5⟩
 .exact .inr ⟨a1,a2.mono (λlo hi c l p hp=>TrD.mono hg hb hs d lo hi c l p (λi hi=>hv i (hp i hi)))⟩
theorem vY.len(h:vY T lo hi keys kids l q):kids.length=keys.length+1:=by
 induction h with
 | one=>rfl
 | cons _ _ _ ih=>simp[ih]
theorem vY.keysIn(h:vY T lo hi keys kids l q):∀s∈keys,inB lo hi s:=by
 induction h with
 | one=>intro s hs;simp at hs
 | cons _ h2 _ ih =>
  intro s hs;rcases uP.1 hs with rfl|hs
  .exact h2
  .exact zKm h2 (ih s hs)
theorem vY.join{s:ByteArray}{k1 k2:List ByteArray}{c1 c2:List Int}{l1 l2:List zE}{q1 q2:List Nat}(h2:vY T s hi k2 c2 l2 q2)(h1:vY T lo (some s) k1 c1 l1 q1):inB lo hi s->vY T lo hi (k1++s :: k2) (c1++c2) (l1++l2) (q1++q2):=by
 generalize ho:(some s:Option ByteArray)=o at h1
 induction h1 with
 | one h=>subst ho;exact λhs=>.cons h hs h2
 | cons h hb _ ih =>
  subst ho;intro hs;have h3:=ih rfl ⟨(by
   have:=hb.2 s rfl;exact zBj this),hs.2⟩
  simp only[wX,uM];exact .cons h (zL9 hs hb) h3
theorem vY.split:∀(k1:List ByteArray) {s:ByteArray} {k2:List ByteArray} {c1 c2:List Int} {lo:ByteArray} {l:List zE} {q:List Nat},vY T lo hi (k1++s :: k2) (c1++c2) l q->c1.length=k1.length+1->((k1++s :: k2).Pairwise λa b=>qH a b=true) ->
  ∃l1 l2 q1 q2,vY T lo (some s) k1 c1 l1 q1/\vY T s hi k2 c2 l2 q2/\l=l1++l2/\q=q1++q2/\inB lo hi s
 | [],s,k2,c1,c2,lo,l,q,h,hc,_=>by
  match c1,hc with
  | [c],_ =>
   generalize e1:([]++s :: k2:List ByteArray)=ks at h
   generalize e2:([c]++c2:List Int)=cs at h
   cases h with
   | one h=>simp at e1
   | cons h1 h2 h3 =>
    simp at e1 e2;obtain⟨rfl,rfl⟩:=e1;obtain⟨rfl,rfl⟩:=e2;exact⟨_,_,_,_,.one h1,h3,rfl,rfl,h2⟩
 | a :: k1,s,k2,c1,c2,lo,l,q,h,hc,hp=>by
  match c1,hc with
  | c :: c1,hc =>
   have hp2:=wT.1 hp;generalize e1:(a :: k1++s :: k2:List ByteArray)=ks at h
   generalize e2:(c :: c1++c2:List Int)=cs at h
   cases h with
   | one h=>simp at e1
   | cons h1 h2 h3 =>
    simp at e1 e2;obtain⟨rfl,rfl⟩:=e1;obtain⟨rfl,rfl⟩:=e2;obtain⟨l1,l2,q1,q2,j1,j2,rfl,rfl,j3⟩:=vY.split k1 h3 (by simpa using hc) hp2.2;exact⟨_,_,_,_,.cons h1 ⟨h2.1,λh e=>by injection e with e;subst e;exact hp2.1 _ (by simp)⟩ j1,j2,(uM _ _ _).symm,(uM _ _ _).symm,zKm h2 j3⟩
theorem zE1{key v:ByteArray}{r:List zE}:∀(l1:List zE),(∀x∈l1,qH x.1 key=true)->yM key v true (l1++r)=l1++yM key v true r
 | [],_=>rfl
 | x :: l1,h=>by
  rw[wX,yM,if_pos (h x uH),zE1 l1 (λy hy=>h y (uI _ hy))];rfl
theorem zD7{key v:ByteArray}{l2:List zE}(h2:∀x∈l2,qH key x.1=true):∀(lm:List zE),yM key v true (lm++l2)=yM key v true lm++l2
 | []=>by
  cases l2 with
  | nil=>rfl
  | cons x l =>
   have h:=h2 x uH;show yM key v true (x :: l)=(key,v) :: x :: l;unfold yM;rw[if_neg (by rw[zBj h];simp),if_neg (zBt h).symm]
 | x :: lm=>by
  rw[wX,yM,yM];split
  .rw[zD7 h2 lm];rfl
  .split
   .rfl
   .rfl
theorem zPc{key:ByteArray}{l1 lm l2:List zE}(h1:∀x∈l1,qH x.1 key=true)(h2:∀x∈l2,qH key x.1=true):yV key (l1++(lm++l2))=yV key lm:=by
 rw[zAQ,zAQ,zEK h1,zDW h2];simp
theorem vY.at_(hT:∀lo hi c l q,T lo hi c l q->∀x∈l,inB lo hi x.1)(h:vY T lo hi keys kids l q){key:ByteArray}:inB lo hi key ->
  ∃(k1 k2:List ByteArray) (c1:List Int) (c:Nat) (c2:List Int) (l1 lm l2:List zE) (q1 qm q2:List Nat) (lo':ByteArray) (hi':Option ByteArray),
   keys=k1++k2/\kids=c1++(c:Int) :: c2/\c1.length=k1.length/\zAh key keys=k1.length/\l=l1++(lm++l2)/\q=q1++(qm++q2)/\T lo' hi' c lm qm/\inB lo' hi' key /\
   (∀x∈l1,qH x.1 key=true)/\(∀x∈l2,qH key x.1=true) /\
   (∀(T':zEk) (ks:List ByteArray) (cs:List Int) (lm':List zE) (qm':List Nat),vY T' lo' hi' ks cs lm' qm'->(∀lo hi c l p,(∀x∈p,x∈q1\/x∈q2)->T lo hi c l p->T' lo hi c l p)->vY T' lo hi (k1++(ks++k2)) (c1++(cs++c2)) (l1++(lm'++l2)) (q1++(qm'++q2))):=by
 induction h with
 | @one lo hi c l q h =>
  intro hk;refine⟨[],[],[],c,[],[],l,[],[],q,[],lo,hi,rfl,rfl,rfl,rfl,by simp,by simp,h,hk,by simp,by simp,λT' ks cs lm' qm' h2 _=>by simpa using h2⟩
 | @cons lo hi s c keys kids l1 l2 q1 q2 h1 h2 h3 ih =>
  intro hk;cases hks:qH key s with
  | true =>
   refine⟨[],s :: keys,[],c,kids,[],l1,l2,[],q1,q2,lo,some s,rfl,rfl,rfl,?_,rfl,rfl,h1,⟨hk.1,λh e=>by injection e with e;subst e;exact hks⟩,by simp,λx hx=>?_,λT' ks cs lm' qm' j1 j2=>?_⟩
   .unfold zAh;rw[rS,hks];rfl
   .exact zCp hks (h3.bounds hT x hx).1
   .show vY T' lo hi (ks++s :: keys) (cs++kids) (lm'++l2) (qm'++q2);exact vY.join (h3.mono (λlo hi c l p hp=>j2 lo hi c l p (λx hx=>.inr (hp x hx)))) j1 h2
  | false =>
   obtain⟨k1,k2,c1,c',c2,m1,mm,m2,p1,pm,p2,lo',hi',rfl,rfl,e3,e4,rfl,rfl,e7,e8,e9,e10,e11⟩:=ih ⟨hks,hk.2⟩;refine⟨s :: k1,k2,(c:Int) :: c1,c',c2,l1++m1,mm,m2,q1++p1,pm,p2,lo',hi',rfl,rfl,by simp[e3],?_,by simp,by simp,e7,e8,λx hx=>?_,e10,λT' ks cs lm' qm' j1 j2=>?_⟩
   .unfold zAh at e4 ⊢;rw[rS,hks];simp[e4]
   .rcases uN.1 hx with hx|hx
    .exact zCp ((hT _ _ _ _ _ h1 x hx).2 s rfl) hks
    .exact e9 x hx
   .have:=vY.cons (T:=T') (j2 _ _ _ _ _ (λx hx=>.inl (wR _ hx)) h1) h2 (e11 T' ks cs lm' qm' j1 (λlo hi c l p hp=>j2 lo hi c l p (λx hx=>(hp x hx).imp (wQ _) id)));simpa using this
end
end
end Go.Proofs.YtgphfebjjedeaaaGreatDoor
