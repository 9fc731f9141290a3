import Derived.Test.YtgphfebjjedeaaaGreatDoorS22
import Derived.Deep.RegionHeld3
namespace Go.Proofs.YtgphfebjjedeaaaGreatDoor
open Lib renaming hid->oh
set_option maxRecDepth 100000
section
open Go.RowKit
attribute [local go_sem ↓] Go.wp_at_zero Go.wp_at_succ
def zFy(F:NP)(ad:Nat->Addr)(w:World)(lf:Bool)(b:List UInt8)(e:Ending)(w':World):Prop :=
 zF w w'/\((∃n ve vk vi,zB4 lf b=some n/\e=.returned (.tuple #[.agg #[.bool lf,ve,vk,vi],.nilIface])/\Sl F w' 4 zAA ve n.entries/\Sl F w' 1 zBP vk n.keys/\Sl F w' 1 yX vi n.kids) \/
  (zB4 lf b=none/\∃f,e=.returned (.tuple #[.agg gB,zD f])/\yG F ad w' (zD f) [-1] 1))
theorem Tryz.nodeSize:(Tryz.prog.info? 277).map (·.size)=some 4:=by kernel_rfl
section
variable {F:NP}{ad:Nat->Addr}{w wr w2:World}
theorem zGn(b:List UInt8)(r:RdA)(hb:b.length<=1000){k:Nat}(h0:0<=r.at_)(h:r.at_<=1020+10 * (k:Int)):0<=(yZ b r).2.at_/\(yZ b r).2.at_<=1020+10 * ((k+1:Nat):Int):=by
 have:=zEd b r;omega
set_option maxHeartbeats 4000000 in
theorem zFz(hL:zZ F ad w)(bv:Value)(b:List UInt8)(hb:Sl F w 1 zM bv b)(h1000:b.length<=1000) :
  Calls Tryz.prog 244 #[.bool true,bv] w (zFy F ad w true b):=by
 have HL:=oh hL;have HS0:Hid (qB F ad w (((w.alloc gB).alloc (.cells #[bv,.int .i64 0,.bool false] 458)).alloc (.cells #[.bool true,.slice none 0 0,.slice none 0 0,.slice none 0 0] 277)) true bv b ⟨0,false⟩ [] [] [] (.slice none 0 0) (.slice none 0 0) (.slice none 0 0) (.slice none 0 0) (.slice none 0 0) (.slice none 0 0)):=oh
  ⟨(((zss w).alloc _).alloc _).alloc _,hL,hb,by
   have:=(zJ.new (w.alloc gB) #[bv,.int .i64 0,.bool false] 458).alloc (.cells #[.bool true,.slice none 0 0,.slice none 0 0,.slice none 0 0] 277);simpa using this,by
   have:=zJ.new ((w.alloc gB).alloc (.cells #[bv,.int .i64 0,.bool false] 458)) #[.bool true,.slice none 0 0,.slice none 0 0,.slice none 0 0] 277;simpa using this,yA.nil _ _ _ _ _ _,yA.nil _ _ _ _ _ _,yA.nil _ _ _ _ _ _,((zJ.new w _ _).alloc _).alloc _⟩
 have HB:=oh hb;obtain⟨mny,r0,hx⟩:∃n r1,yQ b ⟨0,false⟩ 2=(n,r1):=⟨_,_,rfl⟩;have hmn:mny<=65535:=by have:=zFQ b ⟨0,false⟩;rw[hx] at this;exact this
 have hr0:r0.at_=2:=by have:=zAj b ⟨0,false⟩ 2;rw[hx] at this;exact this
 have HR0:=oh hr0;have HX:=oh hx;have HND:Hid (qT true b=(⟨true,(yB b mny r0 []).1,[],[]⟩,(yB b mny r0 []).2)):=oh (by unfold qT;simp only[hx,rE]);have H10:=oh h1000;obtain⟨ab,cb,rfl,hb1,hb2,hb3,_⟩:=hb;clear hL hx hr0;unfold maxLen at hb2
 go_enter Tryz.func244, Tryz.ntmps244
 go_wp2_with fail;refine (HS0.out.num 2 (.inr (.inl rfl)) (Int.le_refl 0) (show (0:Int)<=1000000000000 by omega) mny HX.out).mono ?_;rintro e w1 ⟨rfl,hS1,_⟩;have HS1:=oh hS1;clear hS1;go_wp2_with fail;go_loopg [9] mny (λm i wr=>∃(k:Nat) (at_:Int) (bd:Bool) (es:List zS) (ve:Value),k+m=mny/\i=.int .i64 k/\Hid (yB b m ⟨at_,bd⟩ es=yB b mny r0 [])/\Hid (qB F ad w wr true (.slice ab b.length cb) b ⟨at_,bd⟩ es [] [] ve (.slice none 0 0) (.slice none 0 0) ve (.slice none 0 0) (.slice none 0 0))/\es.length<=k/\0<=at_/\at_<=1020+10 * (k:Int))
 case atStart=>exact⟨0,r0.at_,r0.bad,[],_,by omega,rfl,oh rfl,HS1,uI 0,by have:=HR0.out;omega,by have:=HR0.out;omega⟩
 case round =>
  obtain⟨k,at_,bd,es,ve,hkm,rfl,HZ,HS,hes,ha0,ha1⟩:=hrel;have b2:=HS.out.box.d 2 (.bool bd) rfl;by_cases hgo:k<mny/\bd=false
  .obtain⟨hlt,rfl⟩:=hgo;obtain⟨m,rfl⟩:∃m,gk=m+1:=⟨gk-1,by omega⟩;have hat:=zGn b ⟨at_,false⟩ H10.out (k:=k) ha0 ha1;have HZ2:Hid (yB b m (yZ b ⟨at_,false⟩).2 (es++[(yZ b ⟨at_,false⟩).1])=yB b mny r0 []):=oh (by
    have:=HZ.out;rw[yB] at this;simpa using this)
   clear HZ;obtain⟨key,r1,hk⟩:∃s r1,qL b ⟨at_,false⟩=(s,r1):=⟨_,_,rfl⟩;have hk1:=zCS b ⟨at_,false⟩;rw[hk] at hk1;obtain⟨q,r2,hq⟩:∃n r2,yQ b r1 1=(n,r2):=⟨_,_,rfl⟩;have hq1:=zBp b r1 1 (.inl rfl);rw[hq] at hq1;simp only at hk1 hq1;have HK:=oh hk;have HQ:=oh hq;have HR1:Hid (0<=r1.at_/\r1.at_<=1000000/\0<=r2.at_/\r2.at_<=1000000):=oh (by have:=H10.out;omega);have HQ1:=oh hq1.1;clear hk hq hk1 hq1;go_wp2_with fail;refine (HS.out.text ha0 (show at_<=1000000000000 by omega) key HK.out).mono ?_;rintro e w2 ⟨rfl,hS2,_⟩;have HS2:=oh hS2;clear hS2;go_wp2_with fail;have HS3:=oh (HS2.out.step ((zss w2).alloc (.cells #[.string key,.string ⟨#[]⟩,.int .i64 0,.int .i64 0] 289)));refine (HS3.out.num 1 (.inl rfl) HR1.out.1 (by have:=HR1.out;omega) q HQ.out).mono ?_;rintro e w3 ⟨rfl,hS4,hm3⟩;have hB3:=(zJ.new w2 #[.string key,.string ⟨#[]⟩,.int .i64 0,.int .i64 0] 289).mods hm3 (by have:=HS2.out.base;omega);have HVX:Hid (ve.ownBlock≠some w2.heap.size):=oh (λe=>by have:=HS2.out.oe.lt _ e;omega);have HB3:=oh hB3;have HS4:=oh hS4;have hz2:=HS2.out.base;clear hB3 hS4 hm3;by_cases hq0:q=0
   .obtain⟨v,r3,hv⟩:∃s r3,qL b r2=(s,r3):=⟨_,_,rfl⟩;have HV:=oh hv;have HRE:Hid (yZ b ⟨at_,false⟩=(⟨key,v,0,0⟩,r3)):=oh (by unfold yZ;simp only[HK.out,HQ.out,if_pos hq0,HV.out]);clear hv;subst hq0;go_wp2_with fail;refine (HS4.out.text HR1.out.2.2.1 (by have:=HR1.out;omega) v HV.out).mono ?_;rintro e w4 ⟨rfl,hS5,hm4⟩;have hB4:=HB3.out.mods hm4 (by omega);have e1:=hB4.d 1 (.string ⟨#[]⟩) rfl;have ef:=hB4.frozen;have HS5:Hid (qB F ad w (w4.setCell ⟨w2.heap.size,1,none⟩ (.string v)) true (.slice ab b.length cb) b r3 es [] [] ve (.slice none 0 0) (.slice none 0 0) ve (.slice none 0 0) (.slice none 0 0)):=oh
     (hS5.far (X:=w2.heap.size) hz2 (zA.at _ w4 _ 1 _ rfl) HVX.out (by simp[Value.ownBlock]) (by simp[Value.ownBlock]))
    have hB5:zJ (w4.setCell ⟨w2.heap.size,1,none⟩ (.string v)) w2.heap.size #[.string key,.string v,.int .i64 0,.int .i64 0] 289:=by simpa using hB4.set 1 (.string v)
    have HB5:=oh hB5;clear hS5 hm4 hB4 hB5;have x0:=HB5.out.d 0 (.string key) rfl;have x1:=HB5.out.d 1 (.string v) rfl;have x2:=HB5.out.d 2 (.int .i64 0) rfl;have x3:=HB5.out.d 3 (.int .i64 0) rfl;have n1:=HS5.out.nd.d 1 ve rfl;go_wp2_with (at_builtin;go_loud (refine vY Tryz.elE zBL rfl _ _ rfl (w.heap.size+3) ve _ es [⟨key,v,0,0⟩] rfl rfl (HS5.out.oe.ext (zr.alloc _)) (Sl.one (F:=NoF) (zU (by simp)) (λf=>f)) (by simp only[uG,uK];omega) (by have:=HS5.out.base;simp at this ⊢;omega) (λf=>f) ?_;simp only[uG,uK,uZ];intro a2 c2 w5 hO5 hm5 hat5;have hS6:=(HS5.out.step (zr.alloc _)).appE hm5 hO5;have z1:=hS6.nd.d 1 ve rfl;have zf:=hS6.nd.frozen 1));have HS7:Hid (qB F ad w (w5.setCell ⟨w.heap.size+1+1,1,none⟩ (.slice a2 (es.length+1) c2)) true (.slice ab b.length cb) b r3 (es++[⟨key,v,0,0⟩]) [] [] (.slice a2 (es.length+1) c2) (.slice none 0 0) (.slice none 0 0) (.slice a2 (es.length+1) c2) (.slice none 0 0) (.slice none 0 0)):=oh
     (hS6.put 1 (.slice a2 (es.length+1) c2) (.slice a2 (es.length+1) c2) (.slice none 0 0) (.slice none 0 0) rfl)
    clear hS6 hO5 hm5 hat5;rw[HRE.out] at hat;simp only at hat;have HAT:=oh hat;have HZ3:Hid (yB b m r3 (es++[⟨key,v,0,0⟩])=yB b mny r0 []):=oh (by have:=HZ2.out;rw[HRE.out] at this;exact this);clear hat;go_wp2_with fail;go_roundg m
    case measure=>omega
    case rel=>exact⟨k+1,r3.at_,r3.bad,es++[⟨key,v,0,0⟩],_,by omega,by go_num,HZ3,HS7,by rw[uC,uG,uK];omega,HAT.out.1,HAT.out.2⟩
   .have hqb:((q:Int) == 0)=false:=by rw[uO];omega
    obtain⟨c,r3,hc⟩:∃n r3,yQ b r2 4=(n,r3):=⟨_,_,rfl⟩;obtain⟨z,r4,hz⟩:∃n r4,yQ b r3 4=(n,r4):=⟨_,_,rfl⟩;have hc1:=zBp b r2 4 (.inr (.inr rfl));rw[hc] at hc1;have HC:=oh hc;have HZZ:=oh hz;have HR3:Hid (0<=r3.at_/\r3.at_<=10000000):=oh (by have:=HR1.out;simp only at hc1;omega);have HRE:Hid (yZ b ⟨at_,false⟩=(⟨key,⟨#[]⟩,(c:Int),(z:Int)⟩,r4)):=oh (by unfold yZ;simp only[HK.out,HQ.out,if_neg hq0,HC.out,HZZ.out]);clear hc hz hc1 hq0;go_wp2_with fail;refine (HS4.out.num 4 (.inr (.inr rfl)) HR1.out.2.2.1 (by have:=HR1.out;omega) c HC.out).mono ?_;rintro e w4 ⟨rfl,hS5,hm4⟩;have hB4:=HB3.out.mods hm4 (by omega);have HB4:=oh hB4;have HS5:=oh hS5;clear hB4 hS5 hm4;go_wp2_with fail;refine (HS5.out.num 4 (.inr (.inr rfl)) HR3.out.1 (by have:=HR3.out;omega) z HZZ.out).mono ?_;rintro e w4b ⟨rfl,hS5,hm4⟩;have hB4:=HB4.out.mods hm4 (by omega);have e2:=hB4.d 2 (.int .i64 0) rfl;have e3:=hB4.d 3 (.int .i64 0) rfl;have ef:=hB4.frozen;have HS6:Hid (qB F ad w ((w4b.setCell ⟨w2.heap.size,2,none⟩ (.int .i64 (c:Int))).setCell ⟨w2.heap.size,3,none⟩ (.int .i64 (z:Int))) true (.slice ab b.length cb) b r4 es [] [] ve (.slice none 0 0) (.slice none 0 0) ve (.slice none 0 0) (.slice none 0 0)):=oh
     (hS5.far (X:=w2.heap.size) hz2 ((zA.at (λk=>k=w2.heap.size) w4b _ 2 _ rfl).trans (zA.at (λk=>k=w2.heap.size) _ _ 3 _ rfl)) HVX.out (by simp[Value.ownBlock]) (by simp[Value.ownBlock]))
    have hB5:zJ ((w4b.setCell ⟨w2.heap.size,2,none⟩ (.int .i64 (c:Int))).setCell ⟨w2.heap.size,3,none⟩ (.int .i64 (z:Int))) w2.heap.size #[.string key,.string ⟨#[]⟩,.int .i64 (c:Int),.int .i64 (z:Int)] 289:=by simpa using (hB4.set 2 (.int .i64 (c:Int))).set 3 (.int .i64 (z:Int))
    have HB5:=oh hB5;clear hS5 hm4 hB4 hB5;have x0:=HB5.out.d 0 (.string key) rfl;have x1:=HB5.out.d 1 (.string ⟨#[]⟩) rfl;have x2:=HB5.out.d 2 (.int .i64 (c:Int)) rfl;have x3:=HB5.out.d 3 (.int .i64 (z:Int)) rfl;have n1:=HS6.out.nd.d 1 ve rfl;go_wp2_with (at_builtin;go_loud (refine vY Tryz.elE zBL rfl _ _ rfl (w.heap.size+3) ve _ es [⟨key,⟨#[]⟩,(c:Int),(z:Int)⟩] rfl rfl (HS6.out.oe.ext (zr.alloc _)) (Sl.one (F:=NoF) (zU (by simp)) (λf=>f)) (by simp only[uG,uK];omega) (by have:=HS6.out.base;simp at this ⊢;omega) (λf=>f) ?_;simp only[uG,uK,uZ];intro a2 c2 w5 hO5 hm5 hat5;have hS6:=(HS6.out.step (zr.alloc _)).appE hm5 hO5;have z1:=hS6.nd.d 1 ve rfl;have zf:=hS6.nd.frozen 1));have HS7:Hid (qB F ad w (w5.setCell ⟨w.heap.size+1+1,1,none⟩ (.slice a2 (es.length+1) c2)) true (.slice ab b.length cb) b r4 (es++[⟨key,⟨#[]⟩,(c:Int),(z:Int)⟩]) [] [] (.slice a2 (es.length+1) c2) (.slice none 0 0) (.slice none 0 0) (.slice a2 (es.length+1) c2) (.slice none 0 0) (.slice none 0 0)):=oh
     (hS6.put 1 (.slice a2 (es.length+1) c2) (.slice a2 (es.length+1) c2) (.slice none 0 0) (.slice none 0 0) rfl)
    clear hS6 hO5 hm5 hat5;rw[HRE.out] at hat;simp only at hat;have HAT:=oh hat;have HZ3:Hid (yB b m r4 (es++[⟨key,⟨#[]⟩,(c:Int),(z:Int)⟩])=yB b mny r0 []):=oh (by have:=HZ2.out;rw[HRE.out] at this;exact this);clear hat;go_wp2_with fail;go_roundg m
    case measure=>omega
    case rel=>exact⟨k+1,r4.at_,r4.bad,es++[⟨key,⟨#[]⟩,(c:Int),(z:Int)⟩],_,by omega,by go_num,HZ3,HS7,by rw[uC,uG,uK];omega,HAT.out.1,HAT.out.2⟩
  .have HEND:Hid (yB b mny r0 []=(es,⟨at_,bd⟩)):=oh (by
    rw[<- HZ.out];cases gk with
    | zero=>rfl
    | succ m =>
     rw[yB];have:bd=true:=by
      cases bd
      .exact absurd ⟨by omega,rfl⟩ hgo
      .rfl
     rw[this];rfl)
   have HNN:Hid (qT true b=(⟨true,es,[],[]⟩,⟨at_,bd⟩)):=oh (by rw[HND.out,HEND.out]);have HGN:Hid (zB4 true b=if bd=false/\zY ⟨true,es,[],[]⟩=true/\zT ⟨true,es,[],[]⟩=b then some ⟨true,es,[],[]⟩ else none):=oh (by unfold zB4;simp only[HNN.out]);obtain⟨pa,pc,rfl,hpc1,hpc2⟩:=HS.out.oe.form;unfold maxLen at hpc2;have hlen:zY ⟨true,es,[],[]⟩=true->(zT ⟨true,es,[],[]⟩).length<=100000:=λhr=>by
    have:=zDG true b H10.out;rw[HNN.out] at this;exact this hr
   have HPUT:=oh (zCJ (F:=GB F w) HS.out.env ⟨true,es,[],[]⟩ (.slice pa es.length pc) (.slice none 0 0) (.slice none 0 0) (HS.out.slE HS.out.gb (by omega)) (Sl.nil _ _ _ _) (Sl.nil _ _ _ _) hlen);have n0:=HS.out.nd.d 0 (.bool true) rfl;have n1:=HS.out.nd.d 1 (.slice pa es.length pc) rfl;have n2:=HS.out.nd.d 2 (.slice none 0 0) rfl;have n3:=HS.out.nd.d 3 (.slice none 0 0) rfl;have hcase:(k<mny/\bd=true)\/(mny<=k/\bd=true)\/(mny<=k/\bd=false):=by
    by_cases h1:k<mny
    .cases bd
     .exact absurd ⟨h1,rfl⟩ hgo
     .exact .inl ⟨h1,rfl⟩
    .cases bd
     .exact .inr (.inr ⟨by omega,rfl⟩)
     .exact .inr (.inl ⟨by omega,rfl⟩)
   have hlenN:=hlen;have HLEN:=oh hlen;clear HZ HEND hlen hgo hlenN;rcases hcase with ⟨hlt,rfl⟩|⟨hlt,rfl⟩|⟨hlt,rfl⟩
   rotate_left 2;focus
    have hlen:=HLEN.out;go_wp2_with fail;refine (HPUT.out).mono ?_;rintro e w6 hP;obtain⟨hx6,hP⟩:=hP;have HS6:=oh (HS.out.step hx6);clear hx6;rcases hP with ⟨hrt,a6,c6,rfl,hO6⟩|⟨hrt,f6,rfl,hE6⟩
    focus
     have HRT:=oh hrt;have HSL6:=oh (yA.sl (F:=NoF) hO6 qJ.len (by have:=hlen hrt;omega));clear hrt hO6 hlen;have b2b:=HS6.out.box.d 2 (.bool false) rfl;go_wp2_with fail;refine (zA5 (F:=NoF) (G:=F) _ _ _ b HSL6.out (HB.out.ext HS6.out.ext)).mono ?_;rintro e w8 ⟨rfl,hm8⟩;have HS8:=oh (HS6.out.step hm8);clear hm8;by_cases heq:zT ⟨true,es,[],[]⟩=b
     .rw[uU heq];have HEQ:=oh heq;clear heq;have n0:=HS8.out.nd.d 0 (.bool true) rfl;have n1:=HS8.out.nd.d 1 (.slice pa es.length pc) rfl;have n2:=HS8.out.nd.d 2 (.slice none 0 0) rfl;have n3:=HS8.out.nd.d 3 (.slice none 0 0) rfl;have r0:=HS8.out.res.d 0 (.bool false) rfl;have r1:=HS8.out.res.d 1 (.slice none 0 0) rfl;have r2:=HS8.out.res.d 2 (.slice none 0 0) rfl;have r3:=HS8.out.res.d 3 (.slice none 0 0) rfl;have rf:=HS8.out.res.frozen;have HRB:=oh (HS8.out.res.set4 (.bool true) (.slice pa es.length pc) (.slice none 0 0) (.slice none 0 0));have HMR:=oh (zA.set4 (F:=λk=>k=w.heap.size) (zss w8) (.inr rfl) (.bool true) (.slice pa es.length pc) (.slice none 0 0) (.slice none 0 0));go_wp2_with fail;refine bodyPost_ret (zG rfl _ _ w.heap.size 277 #[.bool true,.slice pa es.length pc,.slice none 0 0,.slice none 0 0] _ rfl HRB.out Tryz.underlying277 rfl Tryz.nodeSize) rfl ?_;refine⟨zA.set4 HS8.out.ext (.inl (uI _)) _ _ _ _,.inl ⟨⟨true,es,[],[]⟩,.slice pa es.length pc,.slice none 0 0,.slice none 0 0,by rw[HGN.out];exact if_pos (by first|exact⟨rfl,HRT.out,HEQ.out⟩|exact⟨trivial,HRT.out,HEQ.out⟩),rfl,?_,?_,?_⟩⟩
      .exact (HS8.out.slE (G:=GB F w) HS8.out.gb (by omega)).step (HMR.out.mono (λk (hk:k=w.heap.size)=>.inr ⟨by omega,by omega⟩)) (λk _ hn hf=>hn (.inl hf))
      .exact (HS8.out.slK (G:=GB F w) HS8.out.gb (by simp)).step (HMR.out.mono (λk (hk:k=w.heap.size)=>.inr ⟨by omega,by omega⟩)) (λk _ hn hf=>hn (.inl hf))
      .exact (HS8.out.slI (G:=GB F w) HS8.out.gb (by simp)).step (HMR.out.mono (λk (hk:k=w.heap.size)=>.inr ⟨by omega,by omega⟩)) (λk _ hn hf=>hn (.inl hf))
     rw[uX heq];have HEQ:=oh heq;clear heq;have HS6:=HS8;have b2c:=HS6.out.box.d 2 (.bool false) rfl;have HNE:Hid (zB4 true b=none):=oh (by rw[HGN.out];exact if_neg (λh=>HEQ.out h.2.2))
    rotate_left;focus
     have HRT:=oh hrt;clear hrt hE6;have b2c:=HS6.out.box.d 2 (.bool false) rfl;have HNE:Hid (zB4 true b=none):=oh (by rw[HGN.out];exact if_neg (λh=>by have:=h.2.1;rw[HRT.out] at this;cases this))
   rotate_left 2;iterate 2
    focus
     go_wp2_with fail;refine (HPUT.out).mono ?_;rintro e w6 hP;obtain⟨hx6,hP⟩:=hP;have HS6:=oh (HS.out.step hx6);clear hx6;rcases hP with ⟨_,a6,c6,rfl,_⟩|⟨_,f6,rfl,_⟩
     all_goals
      have b2c:=HS6.out.box.d 2 (.bool true) rfl;have HNE:Hid (zB4 true b=none):=oh (by rw[HGN.out];exact if_neg (λh=>by have:=h.1;cases this))
    rotate_left 2
   all_goals
    have g1:=HS6.out.env.c1;go_wp2_with fail;refine (yD HS6.out.env _ _ [] 1 (.sent 1 (by decide) (by decide))).mono ?_;rintro e w7 ⟨f7,rfl,hE7,hm7⟩;have hS7:=HS6.out.step hm7;have r0:=hS7.res.d 0 (.bool false) rfl;have r1:=hS7.res.d 1 (.slice none 0 0) rfl;have r2:=hS7.res.d 2 (.slice none 0 0) rfl;have r3:=hS7.res.d 3 (.slice none 0 0) rfl;have rf:=hS7.res.frozen;have HS7:=oh hS7;have HE7:=oh hE7;have HRB:=oh (hS7.res.set4 (.bool false) (.slice none 0 0) (.slice none 0 0) (.slice none 0 0));clear hS7 hE7 hm7;go_wp2_with fail;refine bodyPost_ret (zG rfl _ _ w.heap.size 277 gB _ rfl HRB.out Tryz.underlying277 rfl Tryz.nodeSize) rfl ?_;exact⟨zA.set4 HS7.out.ext (.inl (uI _)) _ _ _ _,.inr ⟨HNE.out,f7,rfl,HE7.out.step (zA.set4 (zss w7) (.inr (.inr ⟨uI _,by omega⟩)) _ _ _ _) (λk _ hn hf=>hn (.inl hf))⟩⟩
end
end
section
open Go.RowKit
def jN(p:zX):zK ⊕ Err :=
 if p.kind=3\/p.kind=2 then (match zB4 (decide (p.kind=3)) p.body with|some n=>.inl n|none=>.inr ([zAE p.id],5)) else .inr ([zAE p.id],5)
def GA.load(G:GA)(id:Int):zK ⊕ Err :=
 match G.get id with
 | .inr (l,k)=>.inr (-1 :: l,k)
 | .inl p=>match jN p with
  | .inl n=>.inl n
  | .inr (l,k)=>.inr (-1 :: l,k)
def findA(G:GA)(key:ByteArray):Nat->List (Int × Nat)->Int->(List (Int × Nat) × zK) ⊕ Err
 | 0,_,id=>.inr ([zAE id],5)
 | f+1,st,id=>match G.load id with
  | .inr e=>.inr e
  | .inl n=>if n.leaf then .inl (st++[(id,(jD n key).1)],n) else findA G key f (st++[(id,(jD n key).1)]) (n.kids.getD (jD n key).1 0)
def zCK(G:GA)(key:ByteArray):Nat->Int->Prop
 | 0,_=>True
 | f+1,id=>G.knows id/\∀n,G.load id=.inl n->n.leaf=false->zCK G key f (n.kids.getD (jD n key).1 0)
def zAn(G:GA)(e:zS):ByteArray ⊕ Err :=
 if e.chain=0 then .inl e.value else match zCD G e.chain e.size with
  | none=>.inl ⟨((vQ G e.size.toNat e.chain e.size).1.flatMap (·.2)).toArray⟩
  | some (l,k)=>.inr (-1 :: l,k)
def zCT(G:GA)(e:zS):Prop:=e.chain≠0->25<=e.size->e.size<=4096->zBU G e.size.toNat e.chain e.size
def zMK(G:GA)(root:Int)(key:ByteArray):(List (Int × Nat) × Bool) ⊕ Err :=
 match zAc key with
 | some e=>.inr e
 | none=>if root=0 then .inl ([],false) else match findA G key 16 [] root with
  | .inr (l,k)=>.inr (-1 :: l,k)
  | .inl (st,n)=>.inl (st,(jD n key).2)
def zAr(G:GA)(root:Int)(key:ByteArray):Option ByteArray ⊕ Err :=
 match zAc key with
 | some e=>.inr e
 | none=>if root=0 then .inl none else match findA G key 16 [] root with
  | .inr (l,k)=>.inr (-1 :: l,k)
  | .inl (_,n)=>match n.entries[(jD n key).1]? with
   | none=>.inl none
   | some e=>if (jD n key).2=true then (match zAn G e with | .inl v=>.inl (some v) | .inr (l,k)=>.inr (-1 :: l,k)) else .inl none
def zJ6(G:GA)(root:Int)(key:ByteArray):Prop:=zCK G key 16 root/\∀st n e,findA G key 16 [] root=.inl (st,n)->n.entries[(jD n key).1]? = some e->zCT G e
theorem zE3{p:zX}{n:zK}(h:jN p=.inl n):zY n=true/\n.leaf=decide (p.kind=3):=by
 unfold jN at h;split at h
 .split at h
  .rename_i h1;injection h with h;subst h;unfold zB4 at h1;simp only at h1;split at h1
   .rename_i h2;injection h1 with h1;subst h1;refine⟨h2.2.1,?_⟩;unfold qT;simp only;split
    .rename_i h3;simpa using h3.symm
    .rename_i h3;simpa using h3
   .cases h1
  .cases h
 .cases h
theorem GA.load_right{G:GA}{id:Int}{n:zK}(h:G.load id=.inl n):zY n=true:=by
 unfold GA.load at h;split at h
 .cases h
 .split at h
  .rename_i h1;injection h with h;subst h;exact (zE3 h1).1
  .cases h
theorem zDr{G:GA}{key:ByteArray}:∀(f:Nat) (pre:List (Int × Nat)) (id:Int) {st:List (Int × Nat)} {n:zK},findA G key f pre id=.inl (st,n)->zY n=true/\n.leaf=true
 | 0,_,_,_,_,h=>by cases h
 | f+1,pre,id,st,n,h=>by
  rw[findA] at h;split at h
  .cases h
  .rename_i m hm;split at h
   .rename_i hl;injection h with h;injection h with _ h;subst h;exact⟨GA.load_right hm,hl⟩
   .exact zDr f _ _ h
def GA.node(G:GA)(id:Nat):Option zK:=if id<G.blocks then (match G.view id with
 | some (.inl p)=>(match jN p with | .inl n=>some n | .inr _=>none)
 | _=>none) else none
theorem GA.node_load{G:GA}{id:Nat}{n:zK}(h:G.node id=some n):G.knows (id:Int)/\G.load (id:Int)=.inl n:=by
 unfold GA.node at h;split at h
 .rename_i hlt;split at h
  .rename_i p hp;refine⟨λ_=>⟨_,by rw[uL];exact hp⟩,?_⟩;unfold GA.load;rw[zJy hlt hp];simp only;split at h
   .rename_i h1;injection h with h;subst h;rw[h1]
   .cases h
  .cases h
 .cases h
theorem zF0{n:zK}{i:Nat}{k:Int}(h:n.kids[i]? = some k):n.kids.getD i 0=k:=by
 simp[List.getD,h]
theorem zEK.findA{G:GA}{key:ByteArray}{id d:Nat}{st:List (Nat × Nat)}{m:zK}(h:zEK G.node key id d st m):∀(f:Nat) (pre:List (Int × Nat)),d<=f->(∀id n k,G.node id=some n->k∈n.kids->0<=k) ->
  Go.Proofs.YtgphfebjjedeaaaGreatDoor.findA G key f pre (id:Int)=.inl (pre++st.map (λx=>((x.1:Int),x.2)),m)/\zCK G key f (id:Int):=by
 induction h with
 | @leaf id n h1 h2 =>
  intro f pre hf hk;obtain⟨f,rfl⟩:∃g,f=g+1:=⟨f-1,by omega⟩;obtain⟨k1,k2⟩:=GA.node_load h1;refine⟨?_,k1,λn2 e hl=>?_⟩
  .rw[Go.Proofs.YtgphfebjjedeaaaGreatDoor.findA,k2];simp only[h2,rE,zBm h2];rfl
  .rw[k2] at e;injection e with e;subst e;rw[h2] at hl;cases hl
 | @inner id n d st m k h1 h2 h3 h4 ih =>
  intro f pre hf hk;obtain⟨f,rfl⟩:∃g,f=g+1:=⟨f-1,by omega⟩;obtain⟨k1,k2⟩:=GA.node_load h1;have hk0:=hk _ n k h1 (uP h3);obtain⟨j1,j2⟩:=ih f (pre++[((id:Int),zBI key n.keys)]) (by omega) hk;have hkc:((k.toNat:Nat):Int)=k:=by omega
  rw[hkc] at j1 j2;have hkd:=zF0 h3;refine⟨?_,k1,λn2 e hl=>?_⟩
  .rw[Go.Proofs.YtgphfebjjedeaaaGreatDoor.findA,k2];simp only[h2,wI,rF,zCG h2,hkd];rw[j1];simp
  .rw[k2] at e;injection e with e;subst e;rw[zCG h2];simp only[hkd];exact j2
theorem zHc{G:GA}{id:Nat}{n:zK}(h:G.node id=some n):zY n=true:=GA.load_right (GA.node_load h).2
theorem zIw{G:GA}(id:Nat)(n:zK)(k:Int)(h:G.node id=some n)(hk:k∈n.kids):0<=k:=by
 have hr:=zHc h;cases hl:n.leaf with
 | true =>
  unfold zY at hr;rw[if_pos hl] at hr;simp only[uF,wN] at hr;rw[hr.1.1.2] at hk;cases hk
 | false =>
  have:=(zBi hr hl).2.2 k hk;omega
def GA.R(G:GA)(c s:Int):Option ByteArray:=match zCD G c s with
 | none=>some ⟨((vQ G s.toNat c s).1.flatMap (·.2)).toArray⟩
 | some _=>none
end
section
open Go.RowKit
attribute [local go_sem ↓] Go.wp_at_zero Go.wp_at_succ
section
variable {P P' F F':NP}{ad:Nat->Addr}{w w':World}{c s:Nat}{G:GA}{l:List Nat}
theorem zGo(n:zK)(ve vk vi:Value)(w:World)(hve:Sl F w 4 zAA ve n.entries)(hvk:Sl F w 1 zBP vk n.keys)(hb:yM n<=4611686018427387904)(z:Int)(hz : -4611686018427387904<=z)(hz2:z<=9223372036854775807) :
  Calls Tryz.prog 274 #[.agg #[.bool n.leaf,ve,vk,vi],.int .i64 z] w λe w'=>e=.returned (.bool (decide (yM n<=z-24)))/\zF w w':=by
 have HW:=λW (m:zF w W)=>zG5 (vi:=vi) n ve vk W (hve.ext m) (hvk.ext m) hb
 obtain⟨ea,ec,rfl,_,_,_,_⟩:=hve;obtain⟨ka,kc,rfl,_,_,_,_⟩:=hvk;have HWL:=oh HW;have hz3:IntKind.i64.wrap (z-24)=z-24:=by rw[IntWalk.i64_in _ (by omega)]
 clear HW
 go_enter Tryz.func274, Tryz.ntmps274
 go_wp2_with fail;refine (HWL.out _ ?_).mono ?_
 .first|exact zA.refl _ _|exact zr.alloc _
 rintro e w1 ⟨rfl,hm⟩;have HM:=oh hm;clear hm;go_wp2_with fail;go_ret;exact⟨rfl,by first|exact HM.out|exact ((zss w).alloc _).trans HM.out⟩
theorem zEf(h:jC F w P c s G l)(gen:Nat) : Calls Tryz.prog 275 #[pgV c s gen] w λe w'=>e=.returned (.int .i64 (G.size:Int))/\zF w w':=by
 unfold pgV;have m0:zF w (w.alloc (gP c s gen)):=(zss w).alloc _;obtain⟨d,HH,h1,h2⟩:=zJu (h.at m0);have gf1:=Tryz.geoF1;have H1:=oh h1;have H2:=oh h2;have M0:=oh m0;clear h1 h2 h m0
 go_enter Tryz.func275, Tryz.ntmps275
 go_wp2_with fail;refine H1.out.mono ?_;rintro e w1 ⟨rfl,rfl⟩;go_wp2_with fail;refine (H2.out _ zr).mono ?_;rintro e w2 ⟨rfl,hm⟩;have HM:=oh hm;clear hm;go_wp2_with fail;go_ret;exact⟨rfl,M0.out.trans HM.out⟩
def qE(G:GA)(l:List Nat)(old:Nat):GA :=
 if old=0\/qX l old=true then G else if qG l=none then G else G.drop old
def vN(l:List Nat)(old:Nat):List Nat :=
 if old=0 then zAm l else if qX l old=true then l else match qG l with
  | none=>l
  | some i=>(jV (l.set i 2) old).1
def vO(l:List Nat)(old:Nat):Option Nat:=if old≠0/\qX l old=true then some old else qG l
def zF1(l:List Nat)(old:Nat):Prop:=old=0\/l[old]? = some 1\/l[old]? = some 2
def zLT(ad:Nat->Addr)(o:Option Nat)(F':NP)(w':World)(e:Ending):Prop :=
 (∃i,o=some i/\e=.returned (.tuple #[.int .i64 (i:Int),.nilIface]))\/(o=none/\∃f,e=.returned (.tuple #[.int .i64 0,zD f])/\yG F' ad w' (zD f) [-1] 3)
theorem zIx{l:List Nat}{i old:Nat}(hi:qG l=some i)(h2:2<=old)(h1:l[old]? = some 1):(jV (l.set i 2) old).2=none:=by
 have hne:i≠old:=λe=>by
  have:=(jY hi).1;rw[e,h1] at this;simp at this
 have hlt:=(uB.1 h1).1;have hc:vK (l.set i 2) (old:Int)=none:=by
  unfold vK;rw[if_neg (by rw[tI];omega)]
 unfold jV;rw[hc];simp only[uL,wE hne,h1];simp
theorem zIy(hL:zZ F ad w)(hP:∀k,P k->F k)(h:jC F w P c s G l)(gen old:Nat)(hok:zF1 l old)(ho2:old=0\/2<=old)(hob:old<256) :
  Calls Tryz.prog 276 #[pgV c s gen,.int .i64 (old:Int)] w (zAl F P ad w c s (qE G l old) (vN l old) (zLT ad (vO l old))):=by
 have m0:zF w (w.alloc (gP c s gen)):=(zss w).alloc _;have HB0:=oh (zJ.new w (gP c s gen) 140);have HM0:=oh m0;have HP:=oh hP;have HG:=oh (h.at m0);have HL:=oh (hL.mods m0.ext);have HN0:Hid (zR P P F F ad w _):=oh (zR.ext hL hP m0);have HBP:Hid (¬ P w.heap.size):=oh (λhp=>by have:=h.bd _ hp;omega);have HOK:=oh hok;clear hL hP h m0 hok;unfold pgV;by_cases hz:old=0
 .subst hz;have HT:=oh (zJt HL.out HP.out HG.out);have HE:Hid (qE G l 0=G/\vN l 0=zAm l/\vO l 0=qG l):=oh ⟨by unfold qE;rw[if_pos (.inl rfl)],by unfold vN;rw[if_pos rfl],by unfold vO;rw[if_neg (by simp)]⟩;clear ho2 hob
  go_enter Tryz.func276, Tryz.ntmps276
  go_wp2_with fail;refine HT.out.mono ?_;rintro e w1 ⟨P1,F1,hG1,hN1,hr⟩;have HG1:=oh hG1;have HN1:=oh hN1;clear hG1 hN1;rcases hr with ⟨i,hi,hil,rfl⟩|⟨hi,f,rfl,hE⟩
  .have HI:=oh hi;clear hi;go_wp2_with fail;go_ret2
   refine⟨P1,F1,?_,HN0.out.trans HN1.out,?_⟩
   .rw[HE.out.1,HE.out.2.1];exact HG1.out
   .rw[HE.out.2.2];exact .inl ⟨i,HI.out,rfl⟩
  .have HI:=oh hi;have HEE:=oh hE;clear hi hE;go_wp2_with fail;go_ret2
   refine⟨P1,F1,?_,HN0.out.trans HN1.out,?_⟩
   .rw[HE.out.1,HE.out.2.1];exact HG1.out
   .rw[HE.out.2.2];exact .inr ⟨HI.out,f,rfl,HEE.out⟩
 .have hz1:¬ (old:Int)=0:=by omega
  have h2:2<=old:=by omega
  have HF:=oh (zKq HG.out (old:Int));cases hfr:qX l (old:Int) with
  | true =>
   rw[hfr] at HF;have HE:Hid (qE G l old=G/\vN l old=l/\vO l old=some old):=oh ⟨by unfold qE;rw[if_pos (.inr hfr)],by unfold vN;rw[if_neg hz,if_pos hfr],by unfold vO;rw[if_pos ⟨hz,hfr⟩]⟩;clear hfr hz ho2
   go_enter Tryz.func276, Tryz.ntmps276
   go_wp2_with fail;refine HF.out.mono ?_;rintro e w1 ⟨rfl,rfl⟩;go_wp2_with fail;go_ret2
   refine⟨P,F,?_,HN0.out,?_⟩
   .rw[HE.out.1,HE.out.2.1];exact HG.out
   .rw[HE.out.2.2];exact .inl ⟨old,rfl,rfl⟩
  | false =>
   rw[hfr] at HF;have h1:l[old]? = some 1:=by
    rcases HOK.out with h|h|h
    .exact absurd h hz
    .exact h
    .unfold qX at hfr;rw[uL,h] at hfr;simp at hfr
   have HE:Hid (qE G l old=(if qG l=none then G else G.drop old)/\vN l old=(match qG l with|none=>l|some i=>(jV (l.set i 2) old).1)/\vO l old=qG l):=oh
    ⟨by unfold qE;rw[if_neg (by rw[hfr];simp[hz])],by unfold vN;rw[if_neg hz,if_neg (by rw[hfr];simp)],by unfold vO;rw[if_neg (by rw[hfr];simp)]⟩
   have H1:=oh h1;have HT:=oh (zJt HL.out HP.out HG.out);clear hfr hz ho2 h1
   go_enter Tryz.func276, Tryz.ntmps276
   go_wp2_with fail;refine HF.out.mono ?_;rintro e w1 ⟨rfl,rfl⟩;go_wp2_with fail;refine HT.out.mono ?_;rintro e w1 ⟨P1,F1,hG1,hN1,hr⟩;have HB1:=oh (hN1.blk HB0.out HBP.out);have HBP1:Hid (¬ P1 w.heap.size):=oh (hN1.not HB0.out.lt HBP.out);have HG1:=oh hG1;have HN1:=oh (HN0.out.trans hN1);clear hG1 hN1;rcases hr with ⟨i,hi,hil,rfl⟩|⟨hi,f,rfl,hE⟩
   .have HTK:Hid (zAm l=l.set i 2):=oh (by unfold zAm;rw[hi]);have HGV:Hid ((jV (zAm l) (old:Int)).2=none):=oh (by rw[HTK.out];exact zIx hi h2 H1.out);have HI:=oh hi;clear hi;have b0:=HB1.out.d 0 (.pointer (some ⟨c,0,none⟩)) rfl;go_wp2_with fail;refine (zLP HN1.out.env HN1.out.sub HG1.out old).mono ?_;rintro e w2 ⟨P2,F2,hG2,hN2,bb,rfl⟩;have HB2:=oh (hN2.blk HB1.out HBP1.out);have b1:=HB2.out.d 1 (.pointer (some ⟨s,0,none⟩)) rfl;have HG2:=oh hG2;have HN2:=oh (HN1.out.trans hN2);clear hG2 hN2;go_wp2_with fail;refine (zLQ HN2.out.env HN2.out.sub HG2.out (old:Int)).mono ?_;rintro e w3 ⟨P3,F3,hG3,hN3,ev,rfl,hev⟩;rw[HGV.out] at hev;cases hev
    have HG3:=oh hG3;have HN3:=oh (HN2.out.trans hN3);clear hG3 hN3;go_wp2_with fail;go_ret2
    refine⟨P3,F3,?_,HN3.out,?_⟩
    .rw[HE.out.1,HE.out.2.1,HI.out,if_neg (by simp)];simp only;rw[<- HTK.out];exact HG3.out
    .rw[HE.out.2.2];exact .inl ⟨i,HI.out,rfl⟩
   .have HI:=oh hi;have HEE:=oh hE;clear hi hE;go_wp2_with fail;go_ret2
    refine⟨P1,F1,?_,HN1.out,?_⟩
    .rw[HE.out.1,HE.out.2.1,HI.out,if_pos rfl];have:zAm l=l:=by unfold zAm;rw[HI.out]
     rw[<- this];exact HG1.out
    .rw[HE.out.2.2];exact .inr ⟨HI.out,f,rfl,HEE.out⟩
end
end
section
open Go.RowKit
def GA.total(G:GA):Prop:=∀i,i<G.blocks->∃r,G.view i=some r
theorem GA.total.knows{G:GA}(h:G.total)(id:Int):G.knows id:=λhc=>by
 unfold GA.check at hc;split at hc
 .cases hc
 .exact h _ (by omega)
theorem GA.total.walk{G:GA}(h:G.total):∀(f:Nat) (id n:Int),zBU G f id n
 | 0,_,_=>trivial
 | f+1,id,n=>by
  rw[zBU];exact λ_=>⟨h.knows id,λx _ _=>GA.total.walk h f _ _⟩
theorem zIz{G:GA}(h:G.total)(p:zX):(G.put p).total:=λi hi=>by
 show ∃r,upd G.view p.id.toNat (some (.inl p)) i=some r;by_cases e:i=p.id.toNat
 .subst e;rw[zBY];exact⟨_,rfl⟩
 .rw[zCf _ _ e];exact h i hi
theorem GA.total.find{G:GA}(h:G.total)(key:ByteArray):∀(f:Nat) (id:Int),zCK G key f id
 | 0,_=>trivial
 | f+1,id=>⟨h.knows id,λ_ _ _=>GA.total.find h key f _⟩
theorem GA.total.value{G:GA}(h:G.total)(e:zS):zCT G e:=λ_ _ _=>h.walk _ _ _
theorem GA.total.look{G:GA}(h:G.total)(root:Int)(key:ByteArray):zJ6 G root key:=⟨h.find key 16 root,λ_ _ e _ _=>h.value e⟩
structure zDU(R:Int->Int->Option ByteArray)(m:zK)(p:List qM):Prop where
 leaf:m.leaf=true
 right:zY m=true
 len:m.entries.length=p.length
 tells:∀(i:Nat) (e:zS) (x:qM),m.entries[i]? = some e->p[i]? = some x->e.key=x.1/\zB5 R e=some x.2
theorem Tr.path{V:Nat->Option zK}{R:Int->Int->Option ByteArray}{lo:ByteArray}{hi:Option ByteArray}{id d:Nat}{l:List qM}(h:Tr V R lo hi id d l)(key:ByteArray):inB lo hi key ->
  ∃st m p,zEK V key id d st m/\zDU R m p/\st.length=d/\vM key l=vM key p:=by
 induction h with
 | @leaf lo hi id n l h1 h2 h3 h4 h5 h6=>exact λ_=>⟨_,n,l,.leaf h1 h2,⟨h2,h3,h4,h5⟩,rfl,rfl⟩
 | @inner lo hi id n d parts h1 h2 h3 h4 h5 h6 ih =>
  intro hk;obtain⟨r1,r2,_⟩:=zBi h3 h2;obtain⟨k,p,q1,q2,q3,q4⟩:=zHA r1 r2 h4 h5 hk;obtain⟨st,m,p2,s1,s2,s4,s5⟩:=ih _ k p q1 q2 q3;exact⟨_,m,p2,.inner h1 h2 q1 s1,s2,by rw[uG,s4],q4.trans s5⟩
noncomputable def GA.R2 (G:GA) (c s:Int):Option ByteArray:=open Classical in if zBU G s.toNat c s then G.R c s else none
theorem GA.R2_some{G:GA}{c s:Int}{v:ByteArray}(h:G.R2 c s=some v):zBU G s.toNat c s/\G.R c s=some v:=by
 unfold GA.R2 at h;split at h
 .rename_i hw;exact⟨hw,h⟩
 .cases h
theorem zGp{G:GA}{e:zS}{v:ByteArray}(h:zB5 G.R2 e=some v):zAn G e=.inl v/\zCT G e:=by
 unfold zB5 at h;unfold zAn zCT;by_cases hc:e.chain=0
 .rw[if_pos hc] at h ⊢;exact⟨by rw[Option.some.inj h],λhn=>absurd hc hn⟩
 .rw[if_neg hc] at h ⊢;obtain⟨h1,h2⟩:=GA.R2_some h;refine⟨?_,λ_ _ _=>h1⟩;unfold GA.R at h2;split at h2
  .rename_i h3;rw[h3];simp only;rw[Option.some.inj h2]
  .cases h2
theorem zIB(k:ByteArray):inB e0 none k:=by
 refine⟨?_,λh hh=>by cases hh⟩;unfold ltS;have:e0.toList=[]:=by simp[ByteArray.toList_eq]
 rw[this];cases k.toList <;> rfl
def zJ7(G:GA)(root d:Nat)(l:List qM):Prop :=
 (l=[]/\root=0/\d=0)\/(2<=root/\root<256/\d<=16/\Tr G.node G.R2 e0 none root d l)
theorem zEg{key:ByteArray}(h:zAK key=true):zAc key=none:=by unfold zAc;rw[if_pos h]
def stI(st:List (Nat × Nat)):List (Int × Nat):=st.map λx=>((x.1:Int),x.2)
theorem zKt{R:Int->Int->Option ByteArray}{m:zK}{p:List qM}(h:zDU R m p)(key:ByteArray):vM key p=zCQ R key m:=zIY (zGN h.right h.leaf) h.len h.tells key
theorem zDU.ent{R:Int->Int->Option ByteArray}{m:zK}{p:List qM}(h:zDU R m p){i:Nat}{e:zS}(he:m.entries[i]? = some e):∃v,zB5 R e=some v:=by
 have hi:=(uB.1 he).1;have hp:i<p.length:=by rw[<- h.len];exact hi
 exact⟨_,(h.tells i e _ he (uA hp)).2⟩
theorem zI0{R:Int->Int->Option ByteArray}{m:zK}{p:List qM}(h:zDU R m p)(key:ByteArray) :
  (zEJ key m.entries=true/\∃e v,m.entries[zBJ key m.entries]? = some e/\e.key=key/\zB5 R e=some v/\vM key p=some v)\/(zEJ key m.entries=false/\vM key p=none):=by
 rw[zKt h];unfold zCQ zEJ;cases hm:m.entries[zBJ key m.entries]? with
 | none=>exact .inr ⟨rfl,rfl⟩
 | some e =>
  simp only;by_cases hk:e.key=key
  .rw[if_pos hk,uU hk];obtain⟨v,hv⟩:=h.ent hm;exact .inl ⟨rfl,e,v,rfl,hk,hv,hv⟩
  .rw[if_neg hk,uX hk];exact .inr ⟨rfl,rfl⟩
theorem Tr.onG{G:GA}{root d:Nat}{l:List qM}(h:Tr G.node G.R2 e0 none root d l)(hd:d<=16)(key:ByteArray) :
  ∃st m p,zEK G.node key root d st m/\zDU G.R2 m p/\st.length=d/\vM key l=vM key p/\Go.Proofs.YtgphfebjjedeaaaGreatDoor.findA G key 16 [] (root:Int)=.inl (stI st,m)/\zCK G key 16 (root:Int):=by
 obtain⟨st,m,p,h1,h2,h3,h4⟩:=h.path key (zIB key);obtain⟨k1,k2⟩:=h1.findA 16 [] hd (λid n k hn hk=>zIw id n k hn hk);exact⟨st,m,p,h1,h2,h3,h4,by rw[k1];rfl,k2⟩
theorem zJ7.look{G:GA}{root d:Nat}{l:List qM}(h:zJ7 G root d l){key:ByteArray}(hk:zAK key=true):zAr G (root:Int) key=.inl (vM key l):=by
 rcases h with ⟨rfl,rfl,rfl⟩|⟨h1,_,h2,h3⟩
 .unfold zAr;rw[zEg hk];rfl
 .obtain⟨st,m,p,k1,k2,k3,k4,k5,k6⟩:=h3.onG h2 key;unfold zAr;rw[zEg hk,k5];simp only;rw[if_neg (by omega),zBm k2.leaf,k4];rcases zI0 k2 key with ⟨j1,e,v,j2,j3,j4,j5⟩|⟨j1,j2⟩
  .simp only[j1,j2,rE,(zGp j4).1,j5]
  .rw[j2];simp only[j1];split <;> rfl
abbrev StC:=List (zK × Int)
inductive TrE (V:Nat->Option zK):Nat->NP
 | leaf {id n}:V id=some n->n.leaf=true->n.entries≠[]->TrE V id 1
 | inner {id n d}:V id=some n->n.leaf=false->(∀k∈n.kids,TrE V k.toNat d)->TrE V id (d+1)
def zLp(G:GA)(root d:Nat)(l:List qM):Prop:=zJ7 G root d l/\(root≠0->TrE G.node root d)
end
end Go.Proofs.YtgphfebjjedeaaaGreatDoor
