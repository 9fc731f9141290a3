import Derived.Test.YtalpfcaakpgkmaaGreatDoorR25
import Derived.Deep.RegionHeld3
namespace Go.Proofs.YtalpfcaakpgkmaaGreatDoor
open Lib renaming hid->oh
set_option maxRecDepth 100000
section
open Go.RowKit
attribute [local go_sem ↓] Go.wp_at_zero Go.wp_at_succ
def zKi(F:NP)(ad:Nat->Addr)(w:World)(lf:Bool)(b:List UInt8)(e:Ending)(w':World):Prop :=
 zF w w'/\((∃n ve vk vi,zEk lf b=some n/\e=.returned (.tuple #[.agg #[.bool lf,ve,vk,vi],.nilIface])/\Sl F w' 4 zAQ ve n.entries/\Sl F w' 1 vW vk n.keys/\Sl F w' 1 yI vi n.kids) \/
  (zEk lf b=none/\∃f,e=.returned (.tuple #[.agg gB,zP f])/\vN F ad w' (zP f) [-1] 1))
theorem Tryz.nodeSize:(Tryz.prog.info? 200).map (·.size)=some 4:=by kernel_rfl
section
variable {F:NP}{ad:Nat->Addr}{w wr w2:World}
theorem zLt(b:List UInt8)(r:RdA)(hb:b.length<=1000){k:Nat}(h0:0<=r.at_)(h:r.at_<=1020+10 * (k:Int)):0<=(jG b r).2.at_/\(jG b r).2.at_<=1020+10 * ((k+1:Nat):Int):=by
 have:=zIP b r;omega
set_option maxHeartbeats 4000000 in
theorem zKj(hL:yH F ad w)(bv:Value)(b:List UInt8)(hb:Sl F w 1 zZ bv b)(Az:b.length<=1000) :
  Calls Tryz.prog 156 #[.bool true,bv] w (zKi F ad w true b):=by
 have HL:=oh hL;have Cy:Hid (jI F ad w (((w.alloc gB).alloc (.cells #[bv,.int .i64 0,.bool false] 369)).alloc (.cells #[.bool true,.slice none 0 0,.slice none 0 0,.slice none 0 0] 200)) true bv b ⟨0,false⟩ [] [] [] (.slice none 0 0) (.slice none 0 0) (.slice none 0 0) (.slice none 0 0) (.slice none 0 0) (.slice none 0 0)):=oh
  ⟨(((zss w).alloc _).alloc _).alloc _,hL,hb,by
   have:=(zG.new (w.alloc gB) #[bv,.int .i64 0,.bool false] 369).alloc (.cells #[.bool true,.slice none 0 0,.slice none 0 0,.slice none 0 0] 200);simpa using this,by
   have:=zG.new ((w.alloc gB).alloc (.cells #[bv,.int .i64 0,.bool false] 369)) #[.bool true,.slice none 0 0,.slice none 0 0,.slice none 0 0] 200;simpa using this,yC.nil _ _ _ _ _ _,yC.nil _ _ _ _ _ _,yC.nil _ _ _ _ _ _,((zG.new w _ _).alloc _).alloc _⟩
 have HB:=oh hb;obtain⟨mny,r0,hx⟩:∃n r1,vM b ⟨0,false⟩ 2=(n,r1):=⟨_,_,rfl⟩;have Dh:mny<=65535:=by have:=zJm b ⟨0,false⟩;rw[hx] at this;exact this
 have C5:r0.at_=2:=by have:=zCf b ⟨0,false⟩ 2;rw[hx] at this;exact this
 have C6:=oh C5;have HX:=oh hx;have Cz:Hid (zAR true b=(⟨true,(qH b mny r0 []).1,[],[]⟩,(qH b mny r0 []).2)):=oh (by unfold zAR;simp only[hx,tU]);have Bq:=oh Az;obtain⟨ab,cb,rfl,Di,Bg,Dj,_⟩:=hb;clear hL hx C5;unfold maxLen at Bg
 go_enter Tryz.func156, Tryz.ntmps156
 go_wp2_with fail;refine (Cy.out.num 2 (.inr (.inl rfl)) (Int.le_refl 0) (show (0:Int)<=1000000000000 by omega) mny HX.out).mono ?_;rintro e w1 ⟨rfl,C7,_⟩;have D0:=oh C7;clear C7;go_wp2_with fail;go_loopg [9] mny (λm i wr=>∃(k:Nat) (at_:Int) (bd:Bool) (es:List zM) (ve:Value),k+m=mny/\i=.int .i64 k/\Hid (qH b m ⟨at_,bd⟩ es=qH b mny r0 [])/\Hid (jI F ad w wr true (.slice ab b.length cb) b ⟨at_,bd⟩ es [] [] ve (.slice none 0 0) (.slice none 0 0) ve (.slice none 0 0) (.slice none 0 0))/\es.length<=k/\0<=at_/\at_<=1020+10 * (k:Int))
 case atStart=>exact⟨0,r0.at_,r0.bad,[],_,by omega,rfl,oh rfl,D0,uD 0,by have:=C6.out;omega,by have:=C6.out;omega⟩
 case round =>
  obtain⟨k,at_,bd,es,ve,Dk,rfl,HZ,HS,Dl,C8,D1⟩:=hrel;have b2:=HS.out.box.d 2 (.bool bd) rfl;by_cases Bh:k<mny/\bd=false
  .obtain⟨Bi,rfl⟩:=Bh;obtain⟨m,rfl⟩:∃m,gk=m+1:=⟨gk-1,by omega⟩;have Ae:=zLt b ⟨at_,false⟩ Bq.out (k:=k) C8 D1;have C9:Hid (qH b m (jG b ⟨at_,false⟩).2 (es++[(jG b ⟨at_,false⟩).1])=qH b mny r0 []):=oh (by
    have:=HZ.out;rw[qH] at this;simpa using this)
   clear HZ;obtain⟨key,r1,hk⟩:∃s r1,jW b ⟨at_,false⟩=(s,r1):=⟨_,_,rfl⟩;have B0:=zFB b ⟨at_,false⟩;rw[hk] at B0;obtain⟨q,r2,hq⟩:∃n r2,vM b r1 1=(n,r2):=⟨_,_,rfl⟩;have Bj:=zED b r1 1 (.inl rfl);rw[hq] at Bj;simp only at B0 Bj;have HK:=oh hk;have HQ:=oh hq;have As:Hid (0<=r1.at_/\r1.at_<=1000000/\0<=r2.at_/\r2.at_<=1000000):=oh (by have:=Bq.out;omega);have Dm:=oh Bj.1;clear hk hq B0 Bj;go_wp2_with fail;refine (HS.out.text C8 (show at_<=1000000000000 by omega) key HK.out).mono ?_;rintro e w2 ⟨rfl,Ca,_⟩;have Bk:=oh Ca;clear Ca;go_wp2_with fail;have D2:=oh (Bk.out.step ((zss w2).alloc (.cells #[.string key,.string ⟨#[]⟩,.int .i64 0,.int .i64 0] 208)));refine (D2.out.num 1 (.inl rfl) As.out.1 (by have:=As.out;omega) q HQ.out).mono ?_;rintro e w3 ⟨rfl,Cb,A6⟩;have Cc:=(zG.new w2 #[.string key,.string ⟨#[]⟩,.int .i64 0,.int .i64 0] 208).mods A6 (by have:=Bk.out.base;omega);have Cd:Hid (ve.ownBlock≠some w2.heap.size):=oh (λe=>by have:=Bk.out.oe.lt _ e;omega);have Ce:=oh Cc;have Cf:=oh Cb;have Br:=Bk.out.base;clear Cc Cb A6;by_cases Bl:q=0
   .obtain⟨v,r3,hv⟩:∃s r3,jW b r2=(s,r3):=⟨_,_,rfl⟩;have HV:=oh hv;have B1:Hid (jG b ⟨at_,false⟩=(⟨key,v,0,0⟩,r3)):=oh (by unfold jG;simp only[HK.out,HQ.out,if_pos Bl,HV.out]);clear hv;subst Bl;go_wp2_with fail;refine (Cf.out.text As.out.2.2.1 (by have:=As.out;omega) v HV.out).mono ?_;rintro e w4 ⟨rfl,Af,Ag⟩;have A4:=Ce.out.mods Ag (by omega);have e1:=A4.d 1 (.string ⟨#[]⟩) rfl;have ef:=A4.frozen;have Aw:Hid (jI F ad w (w4.setCell ⟨w2.heap.size,1,none⟩ (.string v)) true (.slice ab b.length cb) b r3 es [] [] ve (.slice none 0 0) (.slice none 0 0) ve (.slice none 0 0) (.slice none 0 0)):=oh
     (Af.far (X:=w2.heap.size) Br (zA.at _ w4 _ 1 _ rfl) Cd.out (by simp[Value.ownBlock]) (by simp[Value.ownBlock]))
    have B2:zG (w4.setCell ⟨w2.heap.size,1,none⟩ (.string v)) w2.heap.size #[.string key,.string v,.int .i64 0,.int .i64 0] 208:=by simpa using A4.set 1 (.string v)
    have Ac:=oh B2;clear Af Ag A4 B2;have x0:=Ac.out.d 0 (.string key) rfl;have x1:=Ac.out.d 1 (.string v) rfl;have x2:=Ac.out.d 2 (.int .i64 0) rfl;have x3:=Ac.out.d 3 (.int .i64 0) rfl;have n1:=Aw.out.nd.d 1 ve rfl;go_wp2_with (at_builtin;go_loud (refine yX Tryz.elE zBl rfl _ _ rfl (w.heap.size+3) ve _ es [⟨key,v,0,0⟩] rfl rfl (Aw.out.oe.ext (zr.alloc _)) (Sl.one (F:=NoF) (zS (by simp)) (λf=>f)) (by simp only[uG,uL];omega) (by have:=Aw.out.base;simp at this ⊢;omega) (λf=>f) ?_;simp only[uG,uL,wG];intro a2 c2 w5 B3 B4 At;have Ad:=(Aw.out.step (zr.alloc _)).appE B4 B3;have z1:=Ad.nd.d 1 ve rfl;have zf:=Ad.nd.frozen 1));have B5:Hid (jI F ad w (w5.setCell ⟨w.heap.size+1+1,1,none⟩ (.slice a2 (es.length+1) c2)) true (.slice ab b.length cb) b r3 (es++[⟨key,v,0,0⟩]) [] [] (.slice a2 (es.length+1) c2) (.slice none 0 0) (.slice none 0 0) (.slice a2 (es.length+1) c2) (.slice none 0 0) (.slice none 0 0)):=oh
     (Ad.put 1 (.slice a2 (es.length+1) c2) (.slice a2 (es.length+1) c2) (.slice none 0 0) (.slice none 0 0) rfl)
    clear Ad B3 B4 At;rw[B1.out] at Ae;simp only at Ae;have B6:=oh Ae;have Bs:Hid (qH b m r3 (es++[⟨key,v,0,0⟩])=qH b mny r0 []):=oh (by have:=C9.out;rw[B1.out] at this;exact this);clear Ae;go_wp2_with fail;go_roundg m
    case measure=>omega
    case rel=>exact⟨k+1,r3.at_,r3.bad,es++[⟨key,v,0,0⟩],_,by omega,by go_num,Bs,B5,by rw[uC,uG,uL];omega,B6.out.1,B6.out.2⟩
   .have Dn:((q:Int) == 0)=false:=by rw[uR];omega
    obtain⟨c,r3,hc⟩:∃n r3,vM b r2 4=(n,r3):=⟨_,_,rfl⟩;obtain⟨z,r4,hz⟩:∃n r4,vM b r3 4=(n,r4):=⟨_,_,rfl⟩;have Bt:=zED b r2 4 (.inr (.inr rfl));rw[hc] at Bt;have HC:=oh hc;have Cg:=oh hz;have Ch:Hid (0<=r3.at_/\r3.at_<=10000000):=oh (by have:=As.out;simp only at Bt;omega);have B1:Hid (jG b ⟨at_,false⟩=(⟨key,⟨#[]⟩,(c:Int),(z:Int)⟩,r4)):=oh (by unfold jG;simp only[HK.out,HQ.out,if_neg Bl,HC.out,Cg.out]);clear hc hz Bt Bl;go_wp2_with fail;refine (Cf.out.num 4 (.inr (.inr rfl)) As.out.2.2.1 (by have:=As.out;omega) c HC.out).mono ?_;rintro e w4 ⟨rfl,Af,Ag⟩;have A4:=Ce.out.mods Ag (by omega);have D3:=oh A4;have Aw:=oh Af;clear A4 Af Ag;go_wp2_with fail;refine (Aw.out.num 4 (.inr (.inr rfl)) Ch.out.1 (by have:=Ch.out;omega) z Cg.out).mono ?_;rintro e w4b ⟨rfl,Af,Ag⟩;have A4:=D3.out.mods Ag (by omega);have e2:=A4.d 2 (.int .i64 0) rfl;have e3:=A4.d 3 (.int .i64 0) rfl;have ef:=A4.frozen;have A3:Hid (jI F ad w ((w4b.setCell ⟨w2.heap.size,2,none⟩ (.int .i64 (c:Int))).setCell ⟨w2.heap.size,3,none⟩ (.int .i64 (z:Int))) true (.slice ab b.length cb) b r4 es [] [] ve (.slice none 0 0) (.slice none 0 0) ve (.slice none 0 0) (.slice none 0 0)):=oh
     (Af.far (X:=w2.heap.size) Br ((zA.at (λk=>k=w2.heap.size) w4b _ 2 _ rfl).trans (zA.at (λk=>k=w2.heap.size) _ _ 3 _ rfl)) Cd.out (by simp[Value.ownBlock]) (by simp[Value.ownBlock]))
    have B2:zG ((w4b.setCell ⟨w2.heap.size,2,none⟩ (.int .i64 (c:Int))).setCell ⟨w2.heap.size,3,none⟩ (.int .i64 (z:Int))) w2.heap.size #[.string key,.string ⟨#[]⟩,.int .i64 (c:Int),.int .i64 (z:Int)] 208:=by simpa using (A4.set 2 (.int .i64 (c:Int))).set 3 (.int .i64 (z:Int))
    have Ac:=oh B2;clear Af Ag A4 B2;have x0:=Ac.out.d 0 (.string key) rfl;have x1:=Ac.out.d 1 (.string ⟨#[]⟩) rfl;have x2:=Ac.out.d 2 (.int .i64 (c:Int)) rfl;have x3:=Ac.out.d 3 (.int .i64 (z:Int)) rfl;have n1:=A3.out.nd.d 1 ve rfl;go_wp2_with (at_builtin;go_loud (refine yX Tryz.elE zBl rfl _ _ rfl (w.heap.size+3) ve _ es [⟨key,⟨#[]⟩,(c:Int),(z:Int)⟩] rfl rfl (A3.out.oe.ext (zr.alloc _)) (Sl.one (F:=NoF) (zS (by simp)) (λf=>f)) (by simp only[uG,uL];omega) (by have:=A3.out.base;simp at this ⊢;omega) (λf=>f) ?_;simp only[uG,uL,wG];intro a2 c2 w5 B3 B4 At;have Ad:=(A3.out.step (zr.alloc _)).appE B4 B3;have z1:=Ad.nd.d 1 ve rfl;have zf:=Ad.nd.frozen 1));have B5:Hid (jI F ad w (w5.setCell ⟨w.heap.size+1+1,1,none⟩ (.slice a2 (es.length+1) c2)) true (.slice ab b.length cb) b r4 (es++[⟨key,⟨#[]⟩,(c:Int),(z:Int)⟩]) [] [] (.slice a2 (es.length+1) c2) (.slice none 0 0) (.slice none 0 0) (.slice a2 (es.length+1) c2) (.slice none 0 0) (.slice none 0 0)):=oh
     (Ad.put 1 (.slice a2 (es.length+1) c2) (.slice a2 (es.length+1) c2) (.slice none 0 0) (.slice none 0 0) rfl)
    clear Ad B3 B4 At;rw[B1.out] at Ae;simp only at Ae;have B6:=oh Ae;have Bs:Hid (qH b m r4 (es++[⟨key,⟨#[]⟩,(c:Int),(z:Int)⟩])=qH b mny r0 []):=oh (by have:=C9.out;rw[B1.out] at this;exact this);clear Ae;go_wp2_with fail;go_roundg m
    case measure=>omega
    case rel=>exact⟨k+1,r4.at_,r4.bad,es++[⟨key,⟨#[]⟩,(c:Int),(z:Int)⟩],_,by omega,by go_num,Bs,B5,by rw[uC,uG,uL];omega,B6.out.1,B6.out.2⟩
  .have B7:Hid (qH b mny r0 []=(es,⟨at_,bd⟩)):=oh (by
    rw[<- HZ.out];cases gk with
    | zero=>rfl
    | succ m =>
     rw[qH];have:bd=true:=by
      cases bd
      .exact absurd ⟨by omega,rfl⟩ Bh
      .rfl
     rw[this];rfl)
   have Ci:Hid (zAR true b=(⟨true,es,[],[]⟩,⟨at_,bd⟩)):=oh (by rw[Cz.out,B7.out]);have Bm:Hid (zEk true b=if bd=false/\zO ⟨true,es,[],[]⟩=true/\yE ⟨true,es,[],[]⟩=b then some ⟨true,es,[],[]⟩ else none):=oh (by unfold zEk;simp only[Ci.out]);obtain⟨pa,pc,rfl,D4,Bu⟩:=HS.out.oe.form;unfold maxLen at Bu;have A0:zO ⟨true,es,[],[]⟩=true->(yE ⟨true,es,[],[]⟩).length<=100000:=λhr=>by
    have:=zGD true b Bq.out;rw[Ci.out] at this;exact this hr
   have B8:=oh (zEx (F:=GB F w) HS.out.env ⟨true,es,[],[]⟩ (.slice pa es.length pc) (.slice none 0 0) (.slice none 0 0) (HS.out.slE HS.out.gb (by omega)) (Sl.nil _ _ _ _) (Sl.nil _ _ _ _) A0);have n0:=HS.out.nd.d 0 (.bool true) rfl;have n1:=HS.out.nd.d 1 (.slice pa es.length pc) rfl;have n2:=HS.out.nd.d 2 (.slice none 0 0) rfl;have n3:=HS.out.nd.d 3 (.slice none 0 0) rfl;have B9:(k<mny/\bd=true)\/(mny<=k/\bd=true)\/(mny<=k/\bd=false):=by
    by_cases h1:k<mny
    .cases bd
     .exact absurd ⟨h1,rfl⟩ Bh
     .exact .inl ⟨h1,rfl⟩
    .cases bd
     .exact .inr (.inr ⟨by omega,rfl⟩)
     .exact .inr (.inl ⟨by omega,rfl⟩)
   have Ba:=A0;have Bv:=oh A0;clear HZ B7 A0 Bh Ba;rcases B9 with ⟨Bi,rfl⟩|⟨Bi,rfl⟩|⟨Bi,rfl⟩
   rotate_left 2;focus
    have A0:=Bv.out;go_wp2_with fail;refine (B8.out).mono ?_;rintro e w6 hP;obtain⟨Bb,hP⟩:=hP;have A3:=oh (HS.out.step Bb);clear Bb;rcases hP with ⟨Ax,a6,c6,rfl,Cj⟩|⟨Ax,f6,rfl,D5⟩
    focus
     have Bn:=oh Ax;have Bw:=oh (yC.sl (F:=NoF) Cj jN.len (by have:=A0 Ax;omega));clear Ax Cj A0;have b2b:=A3.out.box.d 2 (.bool false) rfl;go_wp2_with fail;refine (zDJ (F:=NoF) (G:=F) _ _ _ b Bw.out (HB.out.ext A3.out.ext)).mono ?_;rintro e w8 ⟨rfl,Ck⟩;have A2:=oh (A3.out.step Ck);clear Ck;by_cases Ay:yE ⟨true,es,[],[]⟩=b
     .rw[wL Ay];have Bo:=oh Ay;clear Ay;have n0:=A2.out.nd.d 0 (.bool true) rfl;have n1:=A2.out.nd.d 1 (.slice pa es.length pc) rfl;have n2:=A2.out.nd.d 2 (.slice none 0 0) rfl;have n3:=A2.out.nd.d 3 (.slice none 0 0) rfl;have r0:=A2.out.res.d 0 (.bool false) rfl;have r1:=A2.out.res.d 1 (.slice none 0 0) rfl;have r2:=A2.out.res.d 2 (.slice none 0 0) rfl;have r3:=A2.out.res.d 3 (.slice none 0 0) rfl;have rf:=A2.out.res.frozen;have Bx:=oh (A2.out.res.set4 (.bool true) (.slice pa es.length pc) (.slice none 0 0) (.slice none 0 0));have By:=oh (zA.set4 (F:=λk=>k=w.heap.size) (zss w8) (.inr rfl) (.bool true) (.slice pa es.length pc) (.slice none 0 0) (.slice none 0 0));go_wp2_with fail;refine bodyPost_ret (zC rfl _ _ w.heap.size 200 #[.bool true,.slice pa es.length pc,.slice none 0 0,.slice none 0 0] _ rfl Bx.out Tryz.underlying200 rfl Tryz.nodeSize) rfl ?_;refine⟨zA.set4 A2.out.ext (.inl (uD _)) _ _ _ _,.inl ⟨⟨true,es,[],[]⟩,.slice pa es.length pc,.slice none 0 0,.slice none 0 0,by rw[Bm.out];exact if_pos (by first|exact⟨rfl,Bn.out,Bo.out⟩|exact⟨trivial,Bn.out,Bo.out⟩),rfl,?_,?_,?_⟩⟩
      .exact (A2.out.slE (G:=GB F w) A2.out.gb (by omega)).step (By.out.mono (λk (hk:k=w.heap.size)=>.inr ⟨by omega,by omega⟩)) (λk _ hn hf=>hn (.inl hf))
      .exact (A2.out.slK (G:=GB F w) A2.out.gb (by simp)).step (By.out.mono (λk (hk:k=w.heap.size)=>.inr ⟨by omega,by omega⟩)) (λk _ hn hf=>hn (.inl hf))
      .exact (A2.out.slI (G:=GB F w) A2.out.gb (by simp)).step (By.out.mono (λk (hk:k=w.heap.size)=>.inr ⟨by omega,by omega⟩)) (λk _ hn hf=>hn (.inl hf))
     rw[wM Ay];have Bo:=oh Ay;clear Ay;have A3:=A2;have b2c:=A3.out.box.d 2 (.bool false) rfl;have Bz:Hid (zEk true b=none):=oh (by rw[Bm.out];exact if_neg (λh=>Bo.out h.2.2))
    rotate_left;focus
     have Bn:=oh Ax;clear Ax D5;have b2c:=A3.out.box.d 2 (.bool false) rfl;have Bz:Hid (zEk true b=none):=oh (by rw[Bm.out];exact if_neg (λh=>by have:=h.2.1;rw[Bn.out] at this;cases this))
   rotate_left 2;iterate 2
    focus
     go_wp2_with fail;refine (B8.out).mono ?_;rintro e w6 hP;obtain⟨Bb,hP⟩:=hP;have A3:=oh (HS.out.step Bb);clear Bb;rcases hP with ⟨_,a6,c6,rfl,_⟩|⟨_,f6,rfl,_⟩
     all_goals
      have b2c:=A3.out.box.d 2 (.bool true) rfl;have Bz:Hid (zEk true b=none):=oh (by rw[Bm.out];exact if_neg (λh=>by have:=h.1;cases this))
    rotate_left 2
   all_goals
    have g1:=A3.out.env.c1;go_wp2_with fail;refine (vI A3.out.env _ _ [] 1 (.sent 1 (by decide) (by decide))).mono ?_;rintro e w7 ⟨f7,rfl,Cl,Cm⟩;have Ah:=A3.out.step Cm;have r0:=Ah.res.d 0 (.bool false) rfl;have r1:=Ah.res.d 1 (.slice none 0 0) rfl;have r2:=Ah.res.d 2 (.slice none 0 0) rfl;have r3:=Ah.res.d 3 (.slice none 0 0) rfl;have rf:=Ah.res.frozen;have B5:=oh Ah;have D6:=oh Cl;have Bx:=oh (Ah.res.set4 (.bool false) (.slice none 0 0) (.slice none 0 0) (.slice none 0 0));clear Ah Cl Cm;go_wp2_with fail;refine bodyPost_ret (zC rfl _ _ w.heap.size 200 gB _ rfl Bx.out Tryz.underlying200 rfl Tryz.nodeSize) rfl ?_;exact⟨zA.set4 B5.out.ext (.inl (uD _)) _ _ _ _,.inr ⟨Bz.out,f7,rfl,D6.out.step (zA.set4 (zss w7) (.inr (.inr ⟨uD _,by omega⟩)) _ _ _ _) (λk _ hn hf=>hn (.inl hf))⟩⟩
end
section
variable {P P' F F':NP}{ad:Nat->Addr}{w w':World}{c s:Nat}{G:GA}{l:List Nat}
theorem zEz(n:zI)(ve vk vi:Value)(w:World)(Cn:Sl F w 4 zAQ ve n.entries)(Co:Sl F w 1 vW vk n.keys)(hb:zH n<=4611686018427387904)(z:Int)(hz : -4611686018427387904<=z)(Br:z<=9223372036854775807) :
  Calls Tryz.prog 232 #[.agg #[.bool n.leaf,ve,vk,vi],.int .i64 z] w λe w'=>e=.returned (.bool (decide (zH n<=z-24)))/\zF w w':=by
 have HW:=λW (m:zF w W)=>zHz (vi:=vi) n ve vk W (Cn.ext m) (Co.ext m) hb
 obtain⟨ea,ec,rfl,_,_,_,_⟩:=Cn;obtain⟨ka,kc,rfl,_,_,_,_⟩:=Co;have D7:=oh HW;have Do:IntKind.i64.wrap (z-24)=z-24:=by rw[IntWalk.i64_in _ (by omega)]
 clear HW
 go_enter Tryz.func232, Tryz.ntmps232
 go_wp2_with fail;refine (D7.out _ ?_).mono ?_
 .first|exact zA.refl _ _|exact zr.alloc _
 rintro e w1 ⟨rfl,hm⟩;have HM:=oh hm;clear hm;go_wp2_with fail;go_ret;exact⟨rfl,by first|exact HM.out|exact ((zss w).alloc _).trans HM.out⟩
theorem zEE[zQ](h:jK F w P c s G l)(gen:Nat) : Calls Tryz.prog 233 #[pgV c s gen] w λe w'=>e=.returned (.int .i64 (G.size:Int))/\zF w w':=by
 unfold pgV;have m0:zF w (w.alloc (gP c s gen)):=(zss w).alloc _;obtain⟨d,HH,h1,h2⟩:=zQS (h.at m0);have gf1:=Tryz.geoF1;have H1:=oh h1;have H2:=oh h2;have M0:=oh m0;clear h1 h2 h m0
 go_enter Tryz.func233, Tryz.ntmps233
 go_wp2_with fail;refine H1.out.mono ?_;rintro e w1 ⟨rfl,rfl⟩;go_wp2_with fail;refine (H2.out _ zr).mono ?_;rintro e w2 ⟨rfl,hm⟩;have HM:=oh hm;clear hm;go_wp2_with fail;go_ret;exact⟨rfl,M0.out.trans HM.out⟩
def qT(G:GA)(l:List Nat)(old:Nat):GA :=
 if old=0\/vS l old=true then G else if vP l=none then G else G.drop old
def jC(l:List Nat)(old:Nat):List Nat :=
 if old=0 then zA1 l else if vS l old=true then l else match vP l with
  | none=>l
  | some i=>(yT (l.set i 2) old).1
def jD(l:List Nat)(old:Nat):Option Nat:=if old≠0/\vS l old=true then some old else vP l
def zHg(l:List Nat)(old:Nat):Prop:=old=0\/l[old]? = some 1\/l[old]? = some 2
def zSU(ad:Nat->Addr)(o:Option Nat)(F':NP)(w':World)(e:Ending):Prop :=
 (∃i,o=some i/\e=.returned (.tuple #[.int .i64 (i:Int),.nilIface]))\/(o=none/\∃f,e=.returned (.tuple #[.int .i64 0,zP f])/\vN F' ad w' (zP f) [-1] 3)
theorem zPD{l:List Nat}{i old:Nat}(hi:vP l=some i)(h2:2<=old)(h1:l[old]? = some 1):(yT (l.set i 2) old).2=none:=by
 have D8:i≠old:=λe=>by
  have:=(zAP hi).1;rw[e,h1] at this;simp at this
 have Bi:=(uA.1 h1).1;have hc:qF (l.set i 2) (old:Int)=none:=by
  unfold qF;rw[if_neg (by rw[tN];omega)]
 unfold yT;rw[hc];simp only[uH,uS D8,h1];simp
theorem zPE[zQ](hL:yH F ad w)(hP:∀k,P k->F k)(h:jK F w P c s G l)(gen old:Nat)(Cp:zHg l old)(C0:old=0\/2<=old)(D9:old<256) :
  Calls Tryz.prog 234 #[pgV c s gen,.int .i64 (old:Int)] w (zCH F P ad w c s (qT G l old) (jC l old) (zSU ad (jD l old))):=by
 have m0:zF w (w.alloc (gP c s gen)):=(zss w).alloc _;have Cq:=oh (zG.new w (gP c s gen) 117);have Dp:=oh m0;have HP:=oh hP;have HG:=oh (h.at m0);have HL:=oh (hL.mods m0.ext);have Bp:Hid (zX P P F F ad w _):=oh (zX.ext hL hP m0);have Cr:Hid (¬ P w.heap.size):=oh (λhp=>by have:=h.bd _ hp;omega);have Da:=oh Cp;clear hL hP h m0 Cp;unfold pgV;by_cases hz:old=0
 .subst hz;have HT:=oh (zMv HL.out HP.out HG.out);have HE:Hid (qT G l 0=G/\jC l 0=zA1 l/\jD l 0=vP l):=oh ⟨by unfold qT;rw[if_pos (.inl rfl)],by unfold jC;rw[if_pos rfl],by unfold jD;rw[if_neg (by simp)]⟩;clear C0 D9
  go_enter Tryz.func234, Tryz.ntmps234
  go_wp2_with fail;refine HT.out.mono ?_;rintro e w1 ⟨P1,F1,Bc,Au,hr⟩;have Bd:=oh Bc;have Av:=oh Au;clear Bc Au;rcases hr with ⟨i,hi,Db,rfl⟩|⟨hi,f,rfl,hE⟩
  .have HI:=oh hi;clear hi;go_wp2_with fail;go_ret2
   refine⟨P1,F1,?_,Bp.out.trans Av.out,?_⟩
   .rw[HE.out.1,HE.out.2.1];exact Bd.out
   .rw[HE.out.2.2];exact .inl ⟨i,HI.out,rfl⟩
  .have HI:=oh hi;have C1:=oh hE;clear hi hE;go_wp2_with fail;go_ret2
   refine⟨P1,F1,?_,Bp.out.trans Av.out,?_⟩
   .rw[HE.out.1,HE.out.2.1];exact Bd.out
   .rw[HE.out.2.2];exact .inr ⟨HI.out,f,rfl,C1.out⟩
 .have Dq:¬ (old:Int)=0:=by omega
  have h2:2<=old:=by omega
  have HF:=oh (zRc HG.out (old:Int));cases A5:vS l (old:Int) with
  | true =>
   rw[A5] at HF;have HE:Hid (qT G l old=G/\jC l old=l/\jD l old=some old):=oh ⟨by unfold qT;rw[if_pos (.inr A5)],by unfold jC;rw[if_neg hz,if_pos A5],by unfold jD;rw[if_pos ⟨hz,A5⟩]⟩;clear A5 hz C0
   go_enter Tryz.func234, Tryz.ntmps234
   go_wp2_with fail;refine HF.out.mono ?_;rintro e w1 ⟨rfl,rfl⟩;go_wp2_with fail;go_ret2
   refine⟨P,F,?_,Bp.out,?_⟩
   .rw[HE.out.1,HE.out.2.1];exact HG.out
   .rw[HE.out.2.2];exact .inl ⟨old,rfl,rfl⟩
  | false =>
   rw[A5] at HF;have h1:l[old]? = some 1:=by
    rcases Da.out with h|h|h
    .exact absurd h hz
    .exact h
    .unfold vS at A5;rw[uH,h] at A5;simp at A5
   have HE:Hid (qT G l old=(if vP l=none then G else G.drop old)/\jC l old=(match vP l with|none=>l|some i=>(yT (l.set i 2) old).1)/\jD l old=vP l):=oh
    ⟨by unfold qT;rw[if_neg (by rw[A5];simp[hz])],by unfold jC;rw[if_neg hz,if_neg (by rw[A5];simp)],by unfold jD;rw[if_neg (by rw[A5];simp)]⟩
   have H1:=oh h1;have HT:=oh (zMv HL.out HP.out HG.out);clear A5 hz C0 h1
   go_enter Tryz.func234, Tryz.ntmps234
   go_wp2_with fail;refine HF.out.mono ?_;rintro e w1 ⟨rfl,rfl⟩;go_wp2_with fail;refine HT.out.mono ?_;rintro e w1 ⟨P1,F1,Bc,Au,hr⟩;have Cs:=oh (Au.blk Cq.out Cr.out);have C2:Hid (¬ P1 w.heap.size):=oh (Au.not Cq.out.lt Cr.out);have Bd:=oh Bc;have Av:=oh (Bp.out.trans Au);clear Bc Au;rcases hr with ⟨i,hi,Db,rfl⟩|⟨hi,f,rfl,hE⟩
   .have Ct:Hid (zA1 l=l.set i 2):=oh (by unfold zA1;rw[hi]);have Dc:Hid ((yT (zA1 l) (old:Int)).2=none):=oh (by rw[Ct.out];exact zPD hi h2 H1.out);have HI:=oh hi;clear hi;have b0:=Cs.out.d 0 (.pointer (some ⟨c,0,none⟩)) rfl;go_wp2_with fail;refine (zQQ Av.out.env Av.out.sub Bd.out old).mono ?_;rintro e w2 ⟨P2,F2,Cu,C3,bb,rfl⟩;have Dd:=oh (C3.blk Cs.out C2.out);have b1:=Dd.out.d 1 (.pointer (some ⟨s,0,none⟩)) rfl;have De:=oh Cu;have C4:=oh (Av.out.trans C3);clear Cu C3;go_wp2_with fail;refine (zQR C4.out.env C4.out.sub De.out (old:Int)).mono ?_;rintro e w3 ⟨P3,F3,Cv,Cw,ev,rfl,Cx⟩;rw[Dc.out] at Cx;cases Cx
    have Df:=oh Cv;have Dg:=oh (C4.out.trans Cw);clear Cv Cw;go_wp2_with fail;go_ret2
    refine⟨P3,F3,?_,Dg.out,?_⟩
    .rw[HE.out.1,HE.out.2.1,HI.out,if_neg (by simp)];simp only;rw[<- Ct.out];exact Df.out
    .rw[HE.out.2.2];exact .inl ⟨i,HI.out,rfl⟩
   .have HI:=oh hi;have C1:=oh hE;clear hi hE;go_wp2_with fail;go_ret2
    refine⟨P1,F1,?_,Av.out,?_⟩
    .rw[HE.out.1,HE.out.2.1,HI.out,if_pos rfl];have:zA1 l=l:=by unfold zA1;rw[HI.out]
     rw[<- this];exact Bd.out
    .rw[HE.out.2.2];exact .inr ⟨HI.out,f,rfl,C1.out⟩
end
theorem zPF(s:ByteArray)(w:World) : Calls Tryz.prog 38 #[.string s] w λe w'=>e=.returned (.bool (jO s))/\w=w':=by
 obtain⟨n,hn⟩:∃n,n=s.size:=⟨_,rfl⟩;have HN:Hid (jO s=(decide (1<=(n:Int)) && decide ((n:Int)<=32))):=oh (by rw[hn];rfl);rw[hn] at HN;clear hn;by_cases h1:0<(s.size:Int)
 all_goals
  have h2:=oh h1
  go_enter Tryz.func38, Tryz.ntmps38
  go_wp2
  go_ret;exact⟨yB (by have:=h2.out;rw[HN.out];first|(rw[wL (show 1<=(s.size:Int) by omega)];simp;done)|(rw[wM (show ¬ 1<=(s.size:Int) by omega)];simp;done)),rfl⟩
end
section
open Go.RowKit
def iL(l:List Nat):List Int:=l.map (λ(i:Nat)=>(i:Int))
theorem zDq(a b:List Nat):iL (a++b)=iL a++iL b:=rH
variable {G:GA}{gen:Nat}{st st1:WkS}{id:Int}{p:zY}
theorem zEF:∀(n:Nat) (l:List Int),l.Nodup->(∀i∈l,0<=i/\i<(n:Int))->l.length<=n
 | 0,[],_,_=>uD _
 | 0,i :: l,_,h=>by have:=h i uK;omega
 | n+1,l,hn,h=>by
  by_cases hm:(n:Int)∈l
  .have h1:=zEF n (l.erase (n:Int)) (hn.erase _) (λi hi=>by
    rw[hn.mem_erase_iff] at hi;have:=h i hi.2;have:=hi.1;omega)
   rw[List.length_erase_of_mem hm] at h1;omega
  .have:=zEF n l hn (λi hi=>by
    have h1:=h i hi;have h2:i≠(n:Int):=λe=>hm (e ▸ hi)
    omega)
   omega
theorem Sl.slc{α:Type}{F:NP}{w:World}{sz:Nat}{enc:α->List Value}{a:Option Addr}{n c:Nat}{l:List α}(h:Sl F w sz enc (.slice a n c) l)(i j:Nat)(Dr:i<=j)(hj:j<=n) :
  Sl F w sz enc (.slice (if c=i then a else a.map (·.add (i * sz))) (j-i) (c-i)) ((l.drop i).take (j-i)):=by
 obtain⟨a',cap,he,h1,h2,h3,h4⟩:=h;simp only[Value.slice.injEq] at he;obtain⟨rfl,rfl,rfl⟩:=he;have A0:((l.drop i).take (j-i)).length=j-i:=by simp;omega
 refine⟨_,c-i,by rw[A0],by rw[A0];omega,by omega,by rw[A0];omega,?_⟩;rcases h4 with rfl|⟨b,off,rfl,hb,hF,hc⟩
 .exact .inl (by simp)
 .by_cases hz:c=i
  .exact .inl (tE (by rw[A0];omega))
  .refine .inr ⟨b,off+i * sz,?_,hb,hF,λk x hk q u hu=>?_⟩
   .rw[if_neg hz];simp only[Option.map_some,Addr.add];by_cases h0:i * sz=0
    .rw[if_pos h0,h0];rfl
    .rw[if_neg h0]
   .have B0:k<j-i:=by
     have:=(uA.1 hk).1;rwa [A0] at this
    rw[List.getElem?_take_of_lt B0,rD] at hk;have:=hc (i+k) x hk q u hu;rw[<- this];congr 2
    rw[pF];omega
theorem Sl.tail_{α:Type}{F:NP}{w:World}{sz:Nat}{enc:α->List Value}{a:Option Addr}{n c:Nat}{l:List α}(h:Sl F w sz enc (.slice a n c) l)(i:Nat)(hi:i<=n) :
  Sl F w sz enc (.slice (if c=i then a else a.map (·.add (i * sz))) (n-i) (c-i)) (l.drop i):=by
 have:=h.slc i n hi (uD _);obtain⟨a',cap,he, -⟩:=_root_.id h;simp only[Value.slice.injEq] at he;rw[he.2.1] at this ⊢;rwa [uY (by simp)] at this
section
variable {F H:NP}{w w':World}
theorem zGf(lv mv:Value)(L M:List zM)(hl:Sl F w 4 zAQ lv L)(hm:Sl H w 4 zAQ mv M)(i many:Nat)(h1:i+many<=L.length)(hb:L.length<=1000000)(Bg:M.length<=1000000) :
  Calls Tryz.prog 227 #[lv,.int .i64 (i:Int),.int .i64 (many:Int),mv] w λe w'=>∃v,e=.returned v/\yC (λ_=>False) w' w.heap.size 208 4 zAQ v (L.take i++M++L.drop (i+many))/\zF w w':=by
 obtain⟨la,lc,rfl,l1,l2,l3, -⟩:=_root_.id hl;unfold maxLen at l2;have HL:=oh hl;have HM:=oh hm;have Ai:Hid (yC (λ_=>False) (w.alloc (.cells #[] 208)) w.heap.size 208 4 zAQ (.slice (some ⟨w.heap.size,0,none⟩) 0 0) ([]:List zM)):=oh (yC.empty (λk f=>f.elim) _ _ _ zBl.len);have Aj:Hid (zF w (w.alloc (.cells #[] 208))):=oh ((zss w).alloc _);obtain⟨ma,mc,rfl,m1,m2,m3, -⟩:=hm;have u1:IntKind.i64.wrap ((i:Int)+(many:Int))=((i+many:Nat):Int):=by rw[IntWalk.i64_in _ (by omega)];omega
 have lt1:(L.take i).length=i:=by rw[wB];omega
 have lt2:(L.drop (i+many)).length=L.length-(i+many):=wN;have A1:=oh lt1;have Ak:=oh lt2;clear hl lt1 lt2;have p1:Hid (Sl F w 4 zAQ (.slice la i lc) (L.take i)):=oh (HL.out.pre i (by omega));have p3:Hid (Sl F w 4 zAQ (.slice (if lc=i+many then la else la.map (·.add ((i+many) * 4))) (L.length-(i+many)) (lc-(i+many))) (L.drop (i+many))):=oh (by have:=HL.out.tail_ (i+many) h1;simpa only[wC] using this);obtain⟨R,hR⟩:∃R,R=L.take i++M++L.drop (i+many):=⟨_,rfl⟩;rw[<- hR];have HR:=oh hR;clear hR
 go_enter Tryz.func227, Tryz.ntmps227
 go_wp2_with (first
  | (at_builtin;refine yX Tryz.elE zBl rfl _ _ rfl w.heap.size _ (.slice la i lc) [] (L.take i) rfl rfl Ai.out (p1.out.ext Aj.out) (by rw[A1.out];simp only[uL];omega) (by simp) (λf=>f) ?_;rw[wP,uL,A1.out,wG];intro a1 c1 w1 Al Am A7;have An:=oh Al;have A8:Hid (zF w w1):=oh (zA.past Aj.out (Am.mono (λk hk=>(Ai.out.lt k hk).1)));clear Al Am A7)
  | (at_builtin;refine yX Tryz.elE zBl rfl _ _ rfl w.heap.size (.slice a1 i c1) (.slice ma M.length mc) (L.take i) M rfl rfl An.out (HM.out.ext A8.out) (by rw[A1.out];omega) A8.out.size (λf=>f) ?_;rw[A1.out];intro a2 c2 w2 Ao Ap A9;have Aq:=oh Ao;have Aa:Hid (zF w w2):=oh (zA.past A8.out (Ap.mono (λk hk=>(An.out.lt k hk).1)));clear Ao Ap A9)
  | (at_builtin;refine yX Tryz.elE zBl rfl _ _ rfl w.heap.size (.slice a2 (i+M.length) c2) _ (L.take i++M) (L.drop (i+many)) rfl rfl Aq.out (p3.out.ext Aa.out) (by rw[uC,A1.out,Ak.out];omega) Aa.out.size (λf=>f) ?_;rw[uC,A1.out,Ak.out];intro a3 c3 w3 Ar A6 Ab;have Be:=oh Ar;have Bf:Hid (zF w w3):=oh (zA.past Aa.out (A6.mono (λk hk=>(Aq.out.lt k hk).1)));clear Ar A6 Ab)
  | fail)
 all_goals
  go_ret;exact⟨_,rfl,by rw[HR.out];exact Be.out,Bf.out⟩
theorem zPG(lv:Value)(L:List zM)(hl:Sl F w 4 zAQ lv L)(k:Nat)(hk:k=L.length)(hb:L.length<=1000000) :
  Calls Tryz.prog 227 #[lv,.int .i64 (k:Int),.int .i64 0,.slice none 0 0] w λe w'=>∃a c,e=.returned (.slice a k c)/\yC (λ_=>False) w' w.heap.size 208 4 zAQ (.slice a k c) L/\zF w w':=by
 have h:=zGf lv (.slice none 0 0) L [] hl (Sl.nil (λ_=>False) w 4 zAQ) k 0 (by omega) hb (by simp);refine h.mono ?_;rintro e w' ⟨v,rfl,ho,hm⟩;have e1:L.take k++[]++L.drop (k+0)=L:=by rw[uT,wJ,uZ]
 rw[e1] at ho;obtain⟨a,c,rfl,_⟩:=ho.form;subst hk;exact⟨a,c,rfl,ho,hm⟩
theorem zPH(lv:Value)(L:List zM)(hl:Sl F w 4 zAQ lv L)(k:Nat)(hk:k=L.length)(hb:L.length<=1000000) :
  Calls Tryz.prog 227 #[lv,.int .i64 0,.int .i64 0,.slice none 0 0] w λe w'=>∃a c,e=.returned (.slice a k c)/\yC (λ_=>False) w' w.heap.size 208 4 zAQ (.slice a k c) L/\zF w w':=by
 have h:=zGf lv (.slice none 0 0) L [] hl (Sl.nil (λ_=>False) w 4 zAQ) 0 0 (by omega) hb (by simp);refine h.mono ?_;rintro e w' ⟨v,rfl,ho,hm⟩;have e1:L.take 0++[]++L.drop (0+0)=L:=by simp
 rw[e1] at ho;obtain⟨a,c,rfl,_⟩:=ho.form;subst hk;exact⟨a,c,rfl,ho,hm⟩
theorem zGg(lv mv:Value)(L M:List ByteArray)(hl:Sl F w 1 vW lv L)(hm:Sl H w 1 vW mv M)(i many:Nat)(h1:i+many<=L.length)(hb:L.length<=1000000)(Bg:M.length<=1000000) :
  Calls Tryz.prog 230 #[lv,.int .i64 (i:Int),.int .i64 (many:Int),mv] w λe w'=>∃v,e=.returned v/\yC (λ_=>False) w' w.heap.size 9 1 vW v (L.take i++M++L.drop (i+many))/\zF w w':=by
 obtain⟨la,lc,rfl,l1,l2,l3, -⟩:=_root_.id hl;unfold maxLen at l2;have HL:=oh hl;have HM:=oh hm;have Ai:Hid (yC (λ_=>False) (w.alloc (.cells #[] 9)) w.heap.size 9 1 vW (.slice (some ⟨w.heap.size,0,none⟩) 0 0) ([]:List ByteArray)):=oh (yC.empty (λk f=>f.elim) _ _ _ zBm.len);have Aj:Hid (zF w (w.alloc (.cells #[] 9))):=oh ((zss w).alloc _);obtain⟨ma,mc,rfl,m1,m2,m3, -⟩:=hm;have u1:IntKind.i64.wrap ((i:Int)+(many:Int))=((i+many:Nat):Int):=by rw[IntWalk.i64_in _ (by omega)];omega
 have lt1:(L.take i).length=i:=by rw[wB];omega
 have lt2:(L.drop (i+many)).length=L.length-(i+many):=wN;have A1:=oh lt1;have Ak:=oh lt2;clear hl lt1 lt2;have p1:Hid (Sl F w 1 vW (.slice la i lc) (L.take i)):=oh (HL.out.pre i (by omega));have p3:Hid (Sl F w 1 vW (.slice (if lc=i+many then la else la.map (·.add (i+many))) (L.length-(i+many)) (lc-(i+many))) (L.drop (i+many))):=oh (by have:=HL.out.tail_ (i+many) h1;simpa only[wC] using this);obtain⟨R,hR⟩:∃R,R=L.take i++M++L.drop (i+many):=⟨_,rfl⟩;rw[<- hR];have HR:=oh hR;clear hR
 go_enter Tryz.func230, Tryz.ntmps230
 go_wp2_with (first
  | (at_builtin;refine yX Tryz.elS zBm rfl _ _ rfl w.heap.size _ (.slice la i lc) [] (L.take i) rfl rfl Ai.out (p1.out.ext Aj.out) (by rw[A1.out];simp only[uL];omega) (by simp) (λf=>f) ?_;rw[wP,uL,A1.out,wG];intro a1 c1 w1 Al Am A7;have An:=oh Al;have A8:Hid (zF w w1):=oh (zA.past Aj.out (Am.mono (λk hk=>(Ai.out.lt k hk).1)));clear Al Am A7)
  | (at_builtin;refine yX Tryz.elS zBm rfl _ _ rfl w.heap.size (.slice a1 i c1) (.slice ma M.length mc) (L.take i) M rfl rfl An.out (HM.out.ext A8.out) (by rw[A1.out];omega) A8.out.size (λf=>f) ?_;rw[A1.out];intro a2 c2 w2 Ao Ap A9;have Aq:=oh Ao;have Aa:Hid (zF w w2):=oh (zA.past A8.out (Ap.mono (λk hk=>(An.out.lt k hk).1)));clear Ao Ap A9)
  | (at_builtin;refine yX Tryz.elS zBm rfl _ _ rfl w.heap.size (.slice a2 (i+M.length) c2) _ (L.take i++M) (L.drop (i+many)) rfl rfl Aq.out (p3.out.ext Aa.out) (by rw[uC,A1.out,Ak.out];omega) Aa.out.size (λf=>f) ?_;rw[uC,A1.out,Ak.out];intro a3 c3 w3 Ar A6 Ab;have Be:=oh Ar;have Bf:Hid (zF w w3):=oh (zA.past Aa.out (A6.mono (λk hk=>(Aq.out.lt k hk).1)));clear Ar A6 Ab)
  | fail)
 all_goals
  go_ret;exact⟨_,rfl,by rw[HR.out];exact Be.out,Bf.out⟩
theorem zJn(lv:Value)(L:List ByteArray)(hl:Sl F w 1 vW lv L)(k:Nat)(hk:k=L.length)(hb:L.length<=1000000) :
  Calls Tryz.prog 230 #[lv,.int .i64 (k:Int),.int .i64 0,.slice none 0 0] w λe w'=>∃a c,e=.returned (.slice a k c)/\yC (λ_=>False) w' w.heap.size 9 1 vW (.slice a k c) L/\zF w w':=by
 have h:=zGg lv (.slice none 0 0) L [] hl (Sl.nil (λ_=>False) w 1 vW) k 0 (by omega) hb (by simp);refine h.mono ?_;rintro e w' ⟨v,rfl,ho,hm⟩;have e1:L.take k++[]++L.drop (k+0)=L:=by rw[uT,wJ,uZ]
 rw[e1] at ho;obtain⟨a,c,rfl,_⟩:=ho.form;subst hk;exact⟨a,c,rfl,ho,hm⟩
theorem zJo(lv:Value)(L:List ByteArray)(hl:Sl F w 1 vW lv L)(k:Nat)(hk:k=L.length)(hb:L.length<=1000000) :
  Calls Tryz.prog 230 #[lv,.int .i64 0,.int .i64 0,.slice none 0 0] w λe w'=>∃a c,e=.returned (.slice a k c)/\yC (λ_=>False) w' w.heap.size 9 1 vW (.slice a k c) L/\zF w w':=by
 have h:=zGg lv (.slice none 0 0) L [] hl (Sl.nil (λ_=>False) w 1 vW) 0 0 (by omega) hb (by simp);refine h.mono ?_;rintro e w' ⟨v,rfl,ho,hm⟩;have e1:L.take 0++[]++L.drop (0+0)=L:=by simp
 rw[e1] at ho;obtain⟨a,c,rfl,_⟩:=ho.form;subst hk;exact⟨a,c,rfl,ho,hm⟩
theorem zFD(lv mv:Value)(L M:List Int)(hl:Sl F w 1 yI lv L)(hm:Sl H w 1 yI mv M)(i many:Nat)(h1:i+many<=L.length)(hb:L.length<=1000000)(Bg:M.length<=1000000) :
  Calls Tryz.prog 229 #[lv,.int .i64 (i:Int),.int .i64 (many:Int),mv] w λe w'=>∃v,e=.returned v/\yC (λ_=>False) w' w.heap.size 3 1 yI v (L.take i++M++L.drop (i+many))/\zF w w':=by
 obtain⟨la,lc,rfl,l1,l2,l3, -⟩:=_root_.id hl;unfold maxLen at l2;have HL:=oh hl;have HM:=oh hm;have Ai:Hid (yC (λ_=>False) (w.alloc (.cells #[] 3)) w.heap.size 3 1 yI (.slice (some ⟨w.heap.size,0,none⟩) 0 0) ([]:List Int)):=oh (yC.empty (λk f=>f.elim) _ _ _ vH.len);have Aj:Hid (zF w (w.alloc (.cells #[] 3))):=oh ((zss w).alloc _);obtain⟨ma,mc,rfl,m1,m2,m3, -⟩:=hm;have u1:IntKind.i64.wrap ((i:Int)+(many:Int))=((i+many:Nat):Int):=by rw[IntWalk.i64_in _ (by omega)];omega
 have lt1:(L.take i).length=i:=by rw[wB];omega
 have lt2:(L.drop (i+many)).length=L.length-(i+many):=wN;have A1:=oh lt1;have Ak:=oh lt2;clear hl lt1 lt2;have p1:Hid (Sl F w 1 yI (.slice la i lc) (L.take i)):=oh (HL.out.pre i (by omega));have p3:Hid (Sl F w 1 yI (.slice (if lc=i+many then la else la.map (·.add (i+many))) (L.length-(i+many)) (lc-(i+many))) (L.drop (i+many))):=oh (by have:=HL.out.tail_ (i+many) h1;simpa only[wC] using this);obtain⟨R,hR⟩:∃R,R=L.take i++M++L.drop (i+many):=⟨_,rfl⟩;rw[<- hR];have HR:=oh hR;clear hR
 go_enter Tryz.func229, Tryz.ntmps229
 go_wp2_with (first
  | (at_builtin;refine yX Tryz.elI vH rfl _ _ rfl w.heap.size _ (.slice la i lc) [] (L.take i) rfl rfl Ai.out (p1.out.ext Aj.out) (by rw[A1.out];simp only[uL];omega) (by simp) (λf=>f) ?_;rw[wP,uL,A1.out,wG];intro a1 c1 w1 Al Am A7;have An:=oh Al;have A8:Hid (zF w w1):=oh (zA.past Aj.out (Am.mono (λk hk=>(Ai.out.lt k hk).1)));clear Al Am A7)
  | (at_builtin;refine yX Tryz.elI vH rfl _ _ rfl w.heap.size (.slice a1 i c1) (.slice ma M.length mc) (L.take i) M rfl rfl An.out (HM.out.ext A8.out) (by rw[A1.out];omega) A8.out.size (λf=>f) ?_;rw[A1.out];intro a2 c2 w2 Ao Ap A9;have Aq:=oh Ao;have Aa:Hid (zF w w2):=oh (zA.past A8.out (Ap.mono (λk hk=>(An.out.lt k hk).1)));clear Ao Ap A9)
  | (at_builtin;refine yX Tryz.elI vH rfl _ _ rfl w.heap.size (.slice a2 (i+M.length) c2) _ (L.take i++M) (L.drop (i+many)) rfl rfl Aq.out (p3.out.ext Aa.out) (by rw[uC,A1.out,Ak.out];omega) Aa.out.size (λf=>f) ?_;rw[uC,A1.out,Ak.out];intro a3 c3 w3 Ar A6 Ab;have Be:=oh Ar;have Bf:Hid (zF w w3):=oh (zA.past Aa.out (A6.mono (λk hk=>(Aq.out.lt k hk).1)));clear Ar A6 Ab)
  | fail)
 all_goals
  go_ret;exact⟨_,rfl,by rw[HR.out];exact Be.out,Bf.out⟩
theorem zJp(lv:Value)(L:List Int)(hl:Sl F w 1 yI lv L)(k:Nat)(hk:k=L.length)(hb:L.length<=1000000) :
  Calls Tryz.prog 229 #[lv,.int .i64 (k:Int),.int .i64 0,.slice none 0 0] w λe w'=>∃a c,e=.returned (.slice a k c)/\yC (λ_=>False) w' w.heap.size 3 1 yI (.slice a k c) L/\zF w w':=by
 have h:=zFD lv (.slice none 0 0) L [] hl (Sl.nil (λ_=>False) w 1 yI) k 0 (by omega) hb (by simp);refine h.mono ?_;rintro e w' ⟨v,rfl,ho,hm⟩;have e1:L.take k++[]++L.drop (k+0)=L:=by rw[uT,wJ,uZ]
 rw[e1] at ho;obtain⟨a,c,rfl,_⟩:=ho.form;subst hk;exact⟨a,c,rfl,ho,hm⟩
theorem zJq(lv:Value)(L:List Int)(hl:Sl F w 1 yI lv L)(k:Nat)(hk:k=L.length)(hb:L.length<=1000000) :
  Calls Tryz.prog 229 #[lv,.int .i64 0,.int .i64 0,.slice none 0 0] w λe w'=>∃a c,e=.returned (.slice a k c)/\yC (λ_=>False) w' w.heap.size 3 1 yI (.slice a k c) L/\zF w w':=by
 have h:=zFD lv (.slice none 0 0) L [] hl (Sl.nil (λ_=>False) w 1 yI) 0 0 (by omega) hb (by simp);refine h.mono ?_;rintro e w' ⟨v,rfl,ho,hm⟩;have e1:L.take 0++[]++L.drop (0+0)=L:=by simp
 rw[e1] at ho;obtain⟨a,c,rfl,_⟩:=ho.form;subst hk;exact⟨a,c,rfl,ho,hm⟩
end
end
end Go.Proofs.YtalpfcaakpgkmaaGreatDoor
