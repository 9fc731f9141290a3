import Derived.Test.YtdnbmdghmmpgcaaGreatDoorQ24
import Derived.Deep.RegionHeld3
namespace Go.Proofs.YtdnbmdghmmpgcaaGreatDoor
open Lib renaming hid->oh
set_option maxRecDepth 100000
section
open Go.RowKit
attribute [local go_sem ↓] Go.wp_at_zero Go.wp_at_succ
theorem zPD(s:ByteArray)(w:World) : Calls Tryz.prog 56 #[.string s] w λe w'=>e=.returned (.bool (qS s))/\w=w':=by
 obtain⟨n,hn⟩:∃n,n=s.size:=⟨_,rfl⟩;have HN:Hid (qS s=(decide (1<=(n:Int)) && decide ((n:Int)<=32))):=oh (by rw[hn];rfl);rw[hn] at HN;clear hn;by_cases h1:0<(s.size:Int)
 all_goals
  have h2:=oh h1
  go_enter Tryz.func56, Tryz.ntmps56
  go_wp2
  go_ret;exact⟨zY (by have:=h2.out;rw[HN.out];first|(rw[uT (show 1<=(s.size:Int) by omega)];simp;done)|(rw[uX (show ¬ 1<=(s.size:Int) by omega)];simp;done)),rfl⟩
def zKX(F:Nat->Prop)(ad:Nat->Addr)(w:World)(lf:Bool)(b:List UInt8)(e:Ending)(w':World):Prop :=
 zG w w'/\((∃n ve vk vi,zEU lf b=some n/\e=.returned (.tuple #[.agg #[.bool lf,ve,vk,vi],.nilIface])/\Sl F w' 4 jX ve n.entries/\Sl F w' 1 jD vk n.keys/\Sl F w' 1 yP vi n.kids) \/
  (zEU lf b=none/\∃f,e=.returned (.tuple #[.agg gB,zJ f])/\yY F ad w' (zJ f) [-1] 1))
theorem Tryz.nodeSize:(Tryz.prog.info? 272).map (·.size)=some 4:=by kernel_rfl
section
variable {F:Nat->Prop}{ad:Nat->Addr}{w wr w2:World}
theorem zLl(b:List UInt8)(r:RdA)(hb:b.length<=1000){k:Nat}(h0:0<=r.at_)(h:r.at_<=1020+10 * (k:Int)):0<=(vU b r).2.at_/\(vU b r).2.at_<=1020+10 * ((k+1:Nat):Int):=by
 have:=zIJ b r;omega
set_option maxHeartbeats 4000000 in
theorem zKY(hL:yG F ad w)(bv:Value)(b:List UInt8)(hb:Sl F w 1 zT bv b)(h1000:b.length<=1000) :
  Calls Tryz.prog 220 #[.bool true,bv] w (zKX F ad w true b):=by
 have HL:=oh hL;have HS0:Hid (vZ F ad w (((w.alloc gB).alloc (.cells #[bv,.int .i64 0,.bool false] 410)).alloc (.cells #[.bool true,.slice none 0 0,.slice none 0 0,.slice none 0 0] 272)) true bv b ⟨0,false⟩ [] [] [] (.slice none 0 0) (.slice none 0 0) (.slice none 0 0) (.slice none 0 0) (.slice none 0 0) (.slice none 0 0)):=oh
  ⟨(((zA.refl _ w).alloc _).alloc _).alloc _,hL,hb,by
   have:=(zK.new (w.alloc gB) #[bv,.int .i64 0,.bool false] 410).alloc (.cells #[.bool true,.slice none 0 0,.slice none 0 0,.slice none 0 0] 272);simpa using this,by
   have:=zK.new ((w.alloc gB).alloc (.cells #[bv,.int .i64 0,.bool false] 410)) #[.bool true,.slice none 0 0,.slice none 0 0,.slice none 0 0] 272;simpa using this,yA.nil _ _ _ _ _ _,yA.nil _ _ _ _ _ _,yA.nil _ _ _ _ _ _,((zK.new w _ _).alloc _).alloc _⟩
 have HB:=oh hb;obtain⟨mny,r0,hx⟩:∃n r1,vI b ⟨0,false⟩ 2=(n,r1):=⟨_,_,rfl⟩;have hmn:mny<=65535:=by have:=zJe b ⟨0,false⟩;rw[hx] at this;exact this
 have hr0:r0.at_=2:=by have:=zCP b ⟨0,false⟩ 2;rw[hx] at this;exact this
 have HR0:=oh hr0;have HX:=oh hx;have HND:Hid (jZ true b=(⟨true,(yZ b mny r0 []).1,[],[]⟩,(yZ b mny r0 []).2)):=oh (by unfold jZ;simp only[hx,tS]);have H10:=oh h1000;obtain⟨ab,cb,rfl,hb1,hb2,hb3,_⟩:=hb;clear hL hx hr0;unfold maxLen at hb2
 go_enter Tryz.func220, Tryz.ntmps220
 go_wp2_with fail;refine (HS0.out.num 2 (.inr (.inl rfl)) (Int.le_refl 0) (show (0:Int)<=1000000000000 by omega) mny HX.out).mono ?_;rintro e w1 ⟨rfl,hS1,_⟩;have HS1:=oh hS1;clear hS1;go_wp2_with fail;go_loopg [9] mny (λm i wr=>∃(k:Nat) (at_:Int) (bd:Bool) (es:List zQ) (ve:Value),k+m=mny/\i=.int .i64 k/\Hid (yZ b m ⟨at_,bd⟩ es=yZ b mny r0 [])/\Hid (vZ F ad w wr true (.slice ab b.length cb) b ⟨at_,bd⟩ es [] [] ve (.slice none 0 0) (.slice none 0 0) ve (.slice none 0 0) (.slice none 0 0))/\es.length<=k/\0<=at_/\at_<=1020+10 * (k:Int))
 case atStart=>exact⟨0,r0.at_,r0.bad,[],_,by omega,rfl,oh rfl,HS1,uK 0,by have:=HR0.out;omega,by have:=HR0.out;omega⟩
 case round =>
  obtain⟨k,at_,bd,es,ve,hkm,rfl,HZ,HS,hes,ha0,ha1⟩:=hrel;have b2:=HS.out.box.cell (o:=2) (v:=.bool bd) rfl;by_cases hgo:k<mny/\bd=false
  .obtain⟨hlt,rfl⟩:=hgo;obtain⟨m,rfl⟩:∃m,gk=m+1:=⟨gk-1,by omega⟩;have hat:=zLl b ⟨at_,false⟩ H10.out (k:=k) ha0 ha1;have HZ2:Hid (yZ b m (vU b ⟨at_,false⟩).2 (es++[(vU b ⟨at_,false⟩).1])=yZ b mny r0 []):=oh (by
    have:=HZ.out;rw[yZ] at this;simpa using this)
   clear HZ;obtain⟨key,r1,hk⟩:∃s r1,jK b ⟨at_,false⟩=(s,r1):=⟨_,_,rfl⟩;have hk1:=zE7 b ⟨at_,false⟩;rw[hk] at hk1;obtain⟨q,r2,hq⟩:∃n r2,vI b r1 1=(n,r2):=⟨_,_,rfl⟩;have hq1:=zDx b r1 1 (.inl rfl);rw[hq] at hq1;simp only at hk1 hq1;have HK:=oh hk;have HQ:=oh hq;have HR1:Hid (0<=r1.at_/\r1.at_<=1000000/\0<=r2.at_/\r2.at_<=1000000):=oh (by have:=H10.out;omega);have HQ1:=oh hq1.1;clear hk hq hk1 hq1;go_wp2_with fail;refine (HS.out.text ha0 (show at_<=1000000000000 by omega) key HK.out).mono ?_;rintro e w2 ⟨rfl,hS2,_⟩;have HS2:=oh hS2;clear hS2;go_wp2_with fail;have HS3:=oh (HS2.out.step ((zA.refl _ w2).alloc (.cells #[.string key,.string ⟨#[]⟩,.int .i64 0,.int .i64 0] 281)));refine (HS3.out.num 1 (.inl rfl) HR1.out.1 (by have:=HR1.out;omega) q HQ.out).mono ?_;rintro e w3 ⟨rfl,hS4,hm3⟩;have hB3:=(zK.new w2 #[.string key,.string ⟨#[]⟩,.int .i64 0,.int .i64 0] 281).mods hm3 (by have:=HS2.out.base;omega);have HVX:Hid (ve.ownBlock≠some w2.heap.size):=oh (λe=>by have:=HS2.out.oe.lt _ e;omega);have HB3:=oh hB3;have HS4:=oh hS4;have hz2:=HS2.out.base;clear hB3 hS4 hm3;by_cases hq0:q=0
   .obtain⟨v,r3,hv⟩:∃s r3,jK b r2=(s,r3):=⟨_,_,rfl⟩;have HV:=oh hv;have HRE:Hid (vU b ⟨at_,false⟩=(⟨key,v,0,0⟩,r3)):=oh (by unfold vU;simp only[HK.out,HQ.out,if_pos hq0,HV.out]);clear hv;subst hq0;go_wp2_with fail;refine (HS4.out.text HR1.out.2.2.1 (by have:=HR1.out;omega) v HV.out).mono ?_;rintro e w4 ⟨rfl,hS5,hm4⟩;have hB4:=HB3.out.mods hm4 (by omega);have e1:=hB4.cell (o:=1) (v:=.string ⟨#[]⟩) rfl;have ef:=hB4.frozen;have HS5:Hid (vZ F ad w (w4.setCell ⟨w2.heap.size,1,none⟩ (.string v)) true (.slice ab b.length cb) b r3 es [] [] ve (.slice none 0 0) (.slice none 0 0) ve (.slice none 0 0) (.slice none 0 0)):=oh
     (hS5.far (X:=w2.heap.size) hz2 (zA.at _ w4 _ 1 _ rfl) HVX.out (by simp[Value.ownBlock]) (by simp[Value.ownBlock]))
    have hB5:zK (w4.setCell ⟨w2.heap.size,1,none⟩ (.string v)) w2.heap.size #[.string key,.string v,.int .i64 0,.int .i64 0] 281:=by simpa using hB4.set 1 (.string v)
    have HB5:=oh hB5;clear hS5 hm4 hB4 hB5;have x0:=HB5.out.cell (o:=0) (v:=.string key) rfl;have x1:=HB5.out.cell (o:=1) (v:=.string v) rfl;have x2:=HB5.out.cell (o:=2) (v:=.int .i64 0) rfl;have x3:=HB5.out.cell (o:=3) (v:=.int .i64 0) rfl;have n1:=HS5.out.nd.cell (o:=1) (v:=ve) rfl;go_wp2_with (at_builtin;go_loud (refine yH Tryz.elE zBV rfl _ _ rfl (w.heap.size+3) ve _ es [⟨key,v,0,0⟩] rfl rfl (HS5.out.oe.ext ((zA.refl _ _).alloc _)) (Sl.one (F:=NoF) (zO (by simp)) (λf=>f)) (by simp only[uD,uF];omega) (by have:=HS5.out.base;simp at this ⊢;omega) (λf=>f) ?_;simp only[uD,uF,uS];intro a2 c2 w5 hO5 hm5 hat5;have hS6:=(HS5.out.step ((zA.refl _ _).alloc _)).appE hm5 hO5;have z1:=hS6.nd.cell (o:=1) (v:=ve) rfl;have zf:=hS6.nd.frozen 1));have HS7:Hid (vZ F ad w (w5.setCell ⟨w.heap.size+1+1,1,none⟩ (.slice a2 (es.length+1) c2)) true (.slice ab b.length cb) b r3 (es++[⟨key,v,0,0⟩]) [] [] (.slice a2 (es.length+1) c2) (.slice none 0 0) (.slice none 0 0) (.slice a2 (es.length+1) c2) (.slice none 0 0) (.slice none 0 0)):=oh
     (hS6.put 1 (.slice a2 (es.length+1) c2) (.slice a2 (es.length+1) c2) (.slice none 0 0) (.slice none 0 0) rfl)
    clear hS6 hO5 hm5 hat5;rw[HRE.out] at hat;simp only at hat;have HAT:=oh hat;have HZ3:Hid (yZ b m r3 (es++[⟨key,v,0,0⟩])=yZ b mny r0 []):=oh (by have:=HZ2.out;rw[HRE.out] at this;exact this);clear hat;go_wp2_with fail;go_roundg m
    case measure=>omega
    case rel=>exact⟨k+1,r3.at_,r3.bad,es++[⟨key,v,0,0⟩],_,by omega,by go_num,HZ3,HS7,by rw[uA,uD,uF];omega,HAT.out.1,HAT.out.2⟩
   .have hqb:((q:Int) == 0)=false:=by rw[uU];omega
    obtain⟨c,r3,hc⟩:∃n r3,vI b r2 4=(n,r3):=⟨_,_,rfl⟩;obtain⟨z,r4,hz⟩:∃n r4,vI b r3 4=(n,r4):=⟨_,_,rfl⟩;have hc1:=zDx b r2 4 (.inr (.inr rfl));rw[hc] at hc1;have HC:=oh hc;have HZZ:=oh hz;have HR3:Hid (0<=r3.at_/\r3.at_<=10000000):=oh (by have:=HR1.out;simp only at hc1;omega);have HRE:Hid (vU b ⟨at_,false⟩=(⟨key,⟨#[]⟩,(c:Int),(z:Int)⟩,r4)):=oh (by unfold vU;simp only[HK.out,HQ.out,if_neg hq0,HC.out,HZZ.out]);clear hc hz hc1 hq0;go_wp2_with fail;refine (HS4.out.num 4 (.inr (.inr rfl)) HR1.out.2.2.1 (by have:=HR1.out;omega) c HC.out).mono ?_;rintro e w4 ⟨rfl,hS5,hm4⟩;have hB4:=HB3.out.mods hm4 (by omega);have HB4:=oh hB4;have HS5:=oh hS5;clear hB4 hS5 hm4;go_wp2_with fail;refine (HS5.out.num 4 (.inr (.inr rfl)) HR3.out.1 (by have:=HR3.out;omega) z HZZ.out).mono ?_;rintro e w4b ⟨rfl,hS5,hm4⟩;have hB4:=HB4.out.mods hm4 (by omega);have e2:=hB4.cell (o:=2) (v:=.int .i64 0) rfl;have e3:=hB4.cell (o:=3) (v:=.int .i64 0) rfl;have ef:=hB4.frozen;have HS6:Hid (vZ F ad w ((w4b.setCell ⟨w2.heap.size,2,none⟩ (.int .i64 (c:Int))).setCell ⟨w2.heap.size,3,none⟩ (.int .i64 (z:Int))) true (.slice ab b.length cb) b r4 es [] [] ve (.slice none 0 0) (.slice none 0 0) ve (.slice none 0 0) (.slice none 0 0)):=oh
     (hS5.far (X:=w2.heap.size) hz2 ((zA.at (λk=>k=w2.heap.size) w4b _ 2 _ rfl).trans (zA.at (λk=>k=w2.heap.size) _ _ 3 _ rfl)) HVX.out (by simp[Value.ownBlock]) (by simp[Value.ownBlock]))
    have hB5:zK ((w4b.setCell ⟨w2.heap.size,2,none⟩ (.int .i64 (c:Int))).setCell ⟨w2.heap.size,3,none⟩ (.int .i64 (z:Int))) w2.heap.size #[.string key,.string ⟨#[]⟩,.int .i64 (c:Int),.int .i64 (z:Int)] 281:=by simpa using (hB4.set 2 (.int .i64 (c:Int))).set 3 (.int .i64 (z:Int))
    have HB5:=oh hB5;clear hS5 hm4 hB4 hB5;have x0:=HB5.out.cell (o:=0) (v:=.string key) rfl;have x1:=HB5.out.cell (o:=1) (v:=.string ⟨#[]⟩) rfl;have x2:=HB5.out.cell (o:=2) (v:=.int .i64 (c:Int)) rfl;have x3:=HB5.out.cell (o:=3) (v:=.int .i64 (z:Int)) rfl;have n1:=HS6.out.nd.cell (o:=1) (v:=ve) rfl;go_wp2_with (at_builtin;go_loud (refine yH Tryz.elE zBV rfl _ _ rfl (w.heap.size+3) ve _ es [⟨key,⟨#[]⟩,(c:Int),(z:Int)⟩] rfl rfl (HS6.out.oe.ext ((zA.refl _ _).alloc _)) (Sl.one (F:=NoF) (zO (by simp)) (λf=>f)) (by simp only[uD,uF];omega) (by have:=HS6.out.base;simp at this ⊢;omega) (λf=>f) ?_;simp only[uD,uF,uS];intro a2 c2 w5 hO5 hm5 hat5;have hS6:=(HS6.out.step ((zA.refl _ _).alloc _)).appE hm5 hO5;have z1:=hS6.nd.cell (o:=1) (v:=ve) rfl;have zf:=hS6.nd.frozen 1));have HS7:Hid (vZ F ad w (w5.setCell ⟨w.heap.size+1+1,1,none⟩ (.slice a2 (es.length+1) c2)) true (.slice ab b.length cb) b r4 (es++[⟨key,⟨#[]⟩,(c:Int),(z:Int)⟩]) [] [] (.slice a2 (es.length+1) c2) (.slice none 0 0) (.slice none 0 0) (.slice a2 (es.length+1) c2) (.slice none 0 0) (.slice none 0 0)):=oh
     (hS6.put 1 (.slice a2 (es.length+1) c2) (.slice a2 (es.length+1) c2) (.slice none 0 0) (.slice none 0 0) rfl)
    clear hS6 hO5 hm5 hat5;rw[HRE.out] at hat;simp only at hat;have HAT:=oh hat;have HZ3:Hid (yZ b m r4 (es++[⟨key,⟨#[]⟩,(c:Int),(z:Int)⟩])=yZ b mny r0 []):=oh (by have:=HZ2.out;rw[HRE.out] at this;exact this);clear hat;go_wp2_with fail;go_roundg m
    case measure=>omega
    case rel=>exact⟨k+1,r4.at_,r4.bad,es++[⟨key,⟨#[]⟩,(c:Int),(z:Int)⟩],_,by omega,by go_num,HZ3,HS7,by rw[uA,uD,uF];omega,HAT.out.1,HAT.out.2⟩
  .have HEND:Hid (yZ b mny r0 []=(es,⟨at_,bd⟩)):=oh (by
    rw[<- HZ.out];cases gk with
    | zero=>rfl
    | succ m =>
     rw[yZ];have:bd=true:=by
      cases bd
      .exact absurd ⟨by omega,rfl⟩ hgo
      .rfl
     rw[this];rfl)
   have HNN:Hid (jZ true b=(⟨true,es,[],[]⟩,⟨at_,bd⟩)):=oh (by rw[HND.out,HEND.out]);have HGN:Hid (zEU true b=if bd=false/\zP ⟨true,es,[],[]⟩=true/\yD ⟨true,es,[],[]⟩=b then some ⟨true,es,[],[]⟩ else none):=oh (by unfold zEU;simp only[HNN.out]);obtain⟨pa,pc,rfl,hpc1,hpc2⟩:=HS.out.oe.form;unfold maxLen at hpc2;have hlen:zP ⟨true,es,[],[]⟩=true->(yD ⟨true,es,[],[]⟩).length<=100000:=λhr=>by
    have:=zGG true b H10.out;rw[HNN.out] at this;exact this hr
   have HPUT:=oh (zEl (F:=GB F w) HS.out.env ⟨true,es,[],[]⟩ (.slice pa es.length pc) (.slice none 0 0) (.slice none 0 0) (HS.out.slE HS.out.gb (by omega)) (Sl.nil _ _ _ _) (Sl.nil _ _ _ _) hlen);have n0:=HS.out.nd.cell (o:=0) (v:=.bool true) rfl;have n1:=HS.out.nd.cell (o:=1) (v:=.slice pa es.length pc) rfl;have n2:=HS.out.nd.cell (o:=2) (v:=.slice none 0 0) rfl;have n3:=HS.out.nd.cell (o:=3) (v:=.slice none 0 0) rfl;have hcase:(k<mny/\bd=true)\/(mny<=k/\bd=true)\/(mny<=k/\bd=false):=by
    by_cases h1:k<mny
    .cases bd
     .exact absurd ⟨h1,rfl⟩ hgo
     .exact .inl ⟨h1,rfl⟩
    .cases bd
     .exact .inr (.inr ⟨by omega,rfl⟩)
     .exact .inr (.inl ⟨by omega,rfl⟩)
   have hlenN:=hlen;have HLEN:=oh hlen;clear HZ HEND hlen hgo hlenN;rcases hcase with ⟨hlt,rfl⟩|⟨hlt,rfl⟩|⟨hlt,rfl⟩
   rotate_left 2;focus
    have hlen:=HLEN.out;go_wp2_with fail;refine (HPUT.out).mono ?_;rintro e w6 hP;obtain⟨hx6,hP⟩:=hP;have HS6:=oh (HS.out.step hx6);clear hx6;rcases hP with ⟨hrt,a6,c6,rfl,hO6⟩|⟨hrt,f6,rfl,hE6⟩
    focus
     have HRT:=oh hrt;have HSL6:=oh (yA.sl (F:=NoF) hO6 qN.len (by have:=hlen hrt;omega));clear hrt hO6 hlen;have b2b:=HS6.out.box.cell (o:=2) (v:=.bool false) rfl;go_wp2_with fail;refine (zCv (F:=NoF) (G:=F) _ _ _ b HSL6.out (HB.out.ext HS6.out.ext)).mono ?_;rintro e w8 ⟨rfl,hm8⟩;have HS8:=oh (HS6.out.step hm8);clear hm8;by_cases heq:yD ⟨true,es,[],[]⟩=b
     .rw[uT heq];have HEQ:=oh heq;clear heq;have n0:=HS8.out.nd.cell (o:=0) (v:=.bool true) rfl;have n1:=HS8.out.nd.cell (o:=1) (v:=.slice pa es.length pc) rfl;have n2:=HS8.out.nd.cell (o:=2) (v:=.slice none 0 0) rfl;have n3:=HS8.out.nd.cell (o:=3) (v:=.slice none 0 0) rfl;have r0:=HS8.out.res.cell (o:=0) (v:=.bool false) rfl;have r1:=HS8.out.res.cell (o:=1) (v:=.slice none 0 0) rfl;have r2:=HS8.out.res.cell (o:=2) (v:=.slice none 0 0) rfl;have r3:=HS8.out.res.cell (o:=3) (v:=.slice none 0 0) rfl;have rf:=HS8.out.res.frozen;have HRB:=oh (HS8.out.res.set4 (.bool true) (.slice pa es.length pc) (.slice none 0 0) (.slice none 0 0));have HMR:=oh (zA.set4 (F:=λk=>k=w.heap.size) (zA.refl _ w8) (.inr rfl) (.bool true) (.slice pa es.length pc) (.slice none 0 0) (.slice none 0 0));go_wp2_with fail;refine bodyPost_ret (zF rfl _ _ w.heap.size 272 #[.bool true,.slice pa es.length pc,.slice none 0 0,.slice none 0 0] _ rfl HRB.out Tryz.underlying272 rfl Tryz.nodeSize) rfl ?_;refine⟨zA.set4 HS8.out.ext (.inl (uK _)) _ _ _ _,.inl ⟨⟨true,es,[],[]⟩,.slice pa es.length pc,.slice none 0 0,.slice none 0 0,by rw[HGN.out];exact if_pos (by first|exact⟨rfl,HRT.out,HEQ.out⟩|exact⟨trivial,HRT.out,HEQ.out⟩),rfl,?_,?_,?_⟩⟩
      .exact (HS8.out.slE (G:=GB F w) HS8.out.gb (by omega)).step (HMR.out.mono (λk (hk:k=w.heap.size)=>.inr ⟨by omega,by omega⟩)) (λk _ hn hf=>hn (.inl hf))
      .exact (HS8.out.slK (G:=GB F w) HS8.out.gb (by simp)).step (HMR.out.mono (λk (hk:k=w.heap.size)=>.inr ⟨by omega,by omega⟩)) (λk _ hn hf=>hn (.inl hf))
      .exact (HS8.out.slI (G:=GB F w) HS8.out.gb (by simp)).step (HMR.out.mono (λk (hk:k=w.heap.size)=>.inr ⟨by omega,by omega⟩)) (λk _ hn hf=>hn (.inl hf))
     rw[uX heq];have HEQ:=oh heq;clear heq;have HS6:=HS8;have b2c:=HS6.out.box.cell (o:=2) (v:=.bool false) rfl;have HNE:Hid (zEU true b=none):=oh (by rw[HGN.out];exact if_neg (λh=>HEQ.out h.2.2))
    rotate_left;focus
     have HRT:=oh hrt;clear hrt hE6;have b2c:=HS6.out.box.cell (o:=2) (v:=.bool false) rfl;have HNE:Hid (zEU true b=none):=oh (by rw[HGN.out];exact if_neg (λh=>by have:=h.2.1;rw[HRT.out] at this;cases this))
   rotate_left 2;iterate 2
    focus
     go_wp2_with fail;refine (HPUT.out).mono ?_;rintro e w6 hP;obtain⟨hx6,hP⟩:=hP;have HS6:=oh (HS.out.step hx6);clear hx6;rcases hP with ⟨_,a6,c6,rfl,_⟩|⟨_,f6,rfl,_⟩
     all_goals
      have b2c:=HS6.out.box.cell (o:=2) (v:=.bool true) rfl;have HNE:Hid (zEU true b=none):=oh (by rw[HGN.out];exact if_neg (λh=>by have:=h.1;cases this))
    rotate_left 2
   all_goals
    have g1:=HS6.out.env.c1;go_wp2_with fail;refine (yW HS6.out.env _ _ [] 1 (.sent 1 (by decide) (by decide))).mono ?_;rintro e w7 ⟨f7,rfl,hE7,hm7⟩;have hS7:=HS6.out.step hm7;have r0:=hS7.res.cell (o:=0) (v:=.bool false) rfl;have r1:=hS7.res.cell (o:=1) (v:=.slice none 0 0) rfl;have r2:=hS7.res.cell (o:=2) (v:=.slice none 0 0) rfl;have r3:=hS7.res.cell (o:=3) (v:=.slice none 0 0) rfl;have rf:=hS7.res.frozen;have HS7:=oh hS7;have HE7:=oh hE7;have HRB:=oh (hS7.res.set4 (.bool false) (.slice none 0 0) (.slice none 0 0) (.slice none 0 0));clear hS7 hE7 hm7;go_wp2_with fail;refine bodyPost_ret (zF rfl _ _ w.heap.size 272 gB _ rfl HRB.out Tryz.underlying272 rfl Tryz.nodeSize) rfl ?_;exact⟨zA.set4 HS7.out.ext (.inl (uK _)) _ _ _ _,.inr ⟨HNE.out,f7,rfl,HE7.out.step (zA.set4 (zA.refl _ w7) (.inr (.inr ⟨uK _,by omega⟩)) _ _ _ _) (λk _ hn hf=>hn (.inl hf))⟩⟩
end
end
section
open Go.RowKit
def zAd(p:yI):zI ⊕ Err :=
 if p.kind=3\/p.kind=2 then (match zEU (decide (p.kind=3)) p.body with|some n=>.inl n|none=>.inr ([zBm p.id],5)) else .inr ([zBm p.id],5)
def GA.load(G:GA)(id:Int):zI ⊕ Err :=
 match G.get id with
 | .inr (l,k)=>.inr (-1 :: l,k)
 | .inl p=>match zAd p with
  | .inl n=>.inl n
  | .inr (l,k)=>.inr (-1 :: l,k)
def zDy(G:GA)(e:zQ):ByteArray ⊕ Err :=
 if e.chain=0 then .inl e.value else match zAa G e.chain e.size with
  | none=>.inl ⟨((qV G e.size.toNat e.chain e.size).1.flatMap (·.2)).toArray⟩
  | some (l,k)=>.inr (-1 :: l,k)
def zGH(G:GA)(e:zQ):Prop:=e.chain≠0->25<=e.size->e.size<=4096->zBI G e.size.toNat e.chain e.size
theorem zI6{p:yI}{n:zI}(h:zAd p=.inl n):zP n=true/\n.leaf=decide (p.kind=3):=by
 unfold zAd at h;split at h
 .split at h
  .rename_i h1;injection h with h;subst h;unfold zEU at h1;simp only at h1;split at h1
   .rename_i h2;injection h1 with h1;subst h1;refine⟨h2.2.1,?_⟩;unfold jZ;simp only;split
    .rename_i h3;simpa using h3.symm
    .rename_i h3;simpa using h3
   .cases h1
  .cases h
 .cases h
theorem GA.load_right{G:GA}{id:Int}{n:zI}(h:G.load id=.inl n):zP n=true:=by
 unfold GA.load at h;split at h
 .cases h
 .split at h
  .rename_i h1;injection h with h;subst h;exact (zI6 h1).1
  .cases h
def GA.node(G:GA)(id:Nat):Option zI:=if id<G.blocks then (match G.view id with
 | some (.inl p)=>(match zAd p with | .inl n=>some n | .inr _=>none)
 | _=>none) else none
theorem GA.node_load{G:GA}{id:Nat}{n:zI}(h:G.node id=some n):G.knows (id:Int)/\G.load (id:Int)=.inl n:=by
 unfold GA.node at h;split at h
 .rename_i hlt;split at h
  .rename_i p hp;refine⟨λ_=>⟨_,by rw[uM];exact hp⟩,?_⟩;unfold GA.load;rw[zLW hlt hp];simp only;split at h
   .rename_i h1;injection h with h;subst h;rw[h1]
   .cases h
  .cases h
 .cases h
def GA.R(G:GA)(c s:Int):Option ByteArray:=match zAa G c s with
 | none=>some ⟨((qV G s.toNat c s).1.flatMap (·.2)).toArray⟩
 | some _=>none
end
section
open Go.RowKit
attribute [local go_sem ↓] Go.wp_at_zero Go.wp_at_succ
section
variable {P P' F F':Nat->Prop}{ad:Nat->Addr}{w w':World}{c s:Nat}{G:GA}{l:List Nat}
theorem zEm(n:zI)(ve vk vi:Value)(w:World)(hve:Sl F w 4 jX ve n.entries)(hvk:Sl F w 1 jD vk n.keys)(hb:zH n<=4611686018427387904)(z:Int)(hz : -4611686018427387904<=z)(hz2:z<=9223372036854775807) :
  Calls Tryz.prog 232 #[.agg #[.bool n.leaf,ve,vk,vi],.int .i64 z] w λe w'=>e=.returned (.bool (decide (zH n<=z-24)))/\zG w w':=by
 have HW:=λW (m:zG w W)=>zHs (vi:=vi) n ve vk W (hve.ext m) (hvk.ext m) hb
 obtain⟨ea,ec,rfl,_,_,_,_⟩:=hve;obtain⟨ka,kc,rfl,_,_,_,_⟩:=hvk;have HWL:=oh HW;have hz3:IntKind.i64.wrap (z-24)=z-24:=by rw[IntWalk.i64_in _ (by omega)]
 clear HW
 go_enter Tryz.func232, Tryz.ntmps232
 go_wp2_with fail;refine (HWL.out _ ?_).mono ?_
 .first|exact zA.refl _ _|exact (zA.refl _ _).alloc _
 rintro e w1 ⟨rfl,hm⟩;have HM:=oh hm;clear hm;go_wp2_with fail;go_ret;exact⟨rfl,by first|exact HM.out|exact ((zA.refl _ w).alloc _).trans HM.out⟩
theorem zDz(h:vH F w P c s G l)(gen:Nat) : Calls Tryz.prog 233 #[pgV c s gen] w λe w'=>e=.returned (.int .i64 (G.size:Int))/\zG w w':=by
 unfold pgV;have m0:zG w (w.alloc (gP c s gen)):=(zA.refl _ w).alloc _;obtain⟨d,HH,h1,h2⟩:=zQT (h.at m0);have gf1:=Tryz.geoF1;have H1:=oh h1;have H2:=oh h2;have M0:=oh m0;clear h1 h2 h m0
 go_enter Tryz.func233, Tryz.ntmps233
 go_wp2_with fail;refine H1.out.mono ?_;rintro e w1 ⟨rfl,rfl⟩;go_wp2_with fail;refine (H2.out _ (zA.refl _ _)).mono ?_;rintro e w2 ⟨rfl,hm⟩;have HM:=oh hm;clear hm;go_wp2_with fail;go_ret;exact⟨rfl,M0.out.trans HM.out⟩
def jB(G:GA)(l:List Nat)(old:Nat):GA :=
 if old=0\/jU l old=true then G else if qM l=none then G else G.drop old
def zAV(l:List Nat)(old:Nat):List Nat :=
 if old=0 then zBH l else if jU l old=true then l else match qM l with
  | none=>l
  | some i=>(qA (l.set i 2) old).1
def zAC(l:List Nat)(old:Nat):Option Nat:=if old≠0/\jU l old=true then some old else qM l
def zKZ(l:List Nat)(old:Nat):Prop:=old=0\/l[old]? = some 1\/l[old]? = some 2
def zSO(ad:Nat->Addr)(o:Option Nat)(F':Nat->Prop)(w':World)(e:Ending):Prop :=
 (∃i,o=some i/\e=.returned (.tuple #[.int .i64 (i:Int),.nilIface]))\/(o=none/\∃f,e=.returned (.tuple #[.int .i64 0,zJ f])/\yY F' ad w' (zJ f) [-1] 3)
theorem zPE{l:List Nat}{i old:Nat}(hi:qM l=some i)(h2:2<=old)(h1:l[old]? = some 1):(qA (l.set i 2) old).2=none:=by
 have hne:i≠old:=λe=>by
  have:=(zAi hi).1;rw[e,h1] at this;simp at this
 have hlt:=(uC.1 h1).1;have hc:vJ (l.set i 2) (old:Int)=none:=by
  unfold vJ;rw[if_neg (by rw[tD];omega)]
 unfold qA;rw[hc];simp only[uM,wB hne,h1];simp
theorem zPF(hL:yG F ad w)(hP:∀k,P k->F k)(h:vH F w P c s G l)(gen old:Nat)(hok:zKZ l old)(ho2:old=0\/2<=old)(hob:old<256) :
  Calls Tryz.prog 234 #[pgV c s gen,.int .i64 (old:Int)] w (zCU F P ad w c s (jB G l old) (zAV l old) (zSO ad (zAC l old))):=by
 have m0:zG w (w.alloc (gP c s gen)):=(zA.refl _ w).alloc _;have HB0:=oh (zK.new w (gP c s gen) 142);have HM0:=oh m0;have HP:=oh hP;have HG:=oh (h.at m0);have HL:=oh (hL.mods m0.ext);have HN0:Hid (zV P P F F ad w _):=oh (zV.ext hL hP m0);have HBP:Hid (¬ P w.heap.size):=oh (λhp=>by have:=h.bd _ hp;omega);have HOK:=oh hok;clear hL hP h m0 hok;unfold pgV;by_cases hz:old=0
 .subst hz;have HT:=oh (zMy HL.out HP.out HG.out);have HE:Hid (jB G l 0=G/\zAV l 0=zBH l/\zAC l 0=qM l):=oh ⟨by unfold jB;rw[if_pos (.inl rfl)],by unfold zAV;rw[if_pos rfl],by unfold zAC;rw[if_neg (by simp)]⟩;clear ho2 hob
  go_enter Tryz.func234, Tryz.ntmps234
  go_wp2_with fail;refine HT.out.mono ?_;rintro e w1 ⟨P1,F1,hG1,hN1,hr⟩;have HG1:=oh hG1;have HN1:=oh hN1;clear hG1 hN1;rcases hr with ⟨i,hi,hil,rfl⟩|⟨hi,f,rfl,hE⟩
  .have HI:=oh hi;clear hi;go_wp2_with fail;go_ret2
   refine⟨P1,F1,?_,HN0.out.trans HN1.out,?_⟩
   .rw[HE.out.1,HE.out.2.1];exact HG1.out
   .rw[HE.out.2.2];exact .inl ⟨i,HI.out,rfl⟩
  .have HI:=oh hi;have HEE:=oh hE;clear hi hE;go_wp2_with fail;go_ret2
   refine⟨P1,F1,?_,HN0.out.trans HN1.out,?_⟩
   .rw[HE.out.1,HE.out.2.1];exact HG1.out
   .rw[HE.out.2.2];exact .inr ⟨HI.out,f,rfl,HEE.out⟩
 .have hz1:¬ (old:Int)=0:=by omega
  have h2:2<=old:=by omega
  have HF:=oh (zRa HG.out (old:Int));cases hfr:jU l (old:Int) with
  | true =>
   rw[hfr] at HF;have HE:Hid (jB G l old=G/\zAV l old=l/\zAC l old=some old):=oh ⟨by unfold jB;rw[if_pos (.inr hfr)],by unfold zAV;rw[if_neg hz,if_pos hfr],by unfold zAC;rw[if_pos ⟨hz,hfr⟩]⟩;clear hfr hz ho2
   go_enter Tryz.func234, Tryz.ntmps234
   go_wp2_with fail;refine HF.out.mono ?_;rintro e w1 ⟨rfl,rfl⟩;go_wp2_with fail;go_ret2
   refine⟨P,F,?_,HN0.out,?_⟩
   .rw[HE.out.1,HE.out.2.1];exact HG.out
   .rw[HE.out.2.2];exact .inl ⟨old,rfl,rfl⟩
  | false =>
   rw[hfr] at HF;have h1:l[old]? = some 1:=by
    rcases HOK.out with h|h|h
    .exact absurd h hz
    .exact h
    .unfold jU at hfr;rw[uM,h] at hfr;simp at hfr
   have HE:Hid (jB G l old=(if qM l=none then G else G.drop old)/\zAV l old=(match qM l with|none=>l|some i=>(qA (l.set i 2) old).1)/\zAC l old=qM l):=oh
    ⟨by unfold jB;rw[if_neg (by rw[hfr];simp[hz])],by unfold zAV;rw[if_neg hz,if_neg (by rw[hfr];simp)],by unfold zAC;rw[if_neg (by rw[hfr];simp)]⟩
   have H1:=oh h1;have HT:=oh (zMy HL.out HP.out HG.out);clear hfr hz ho2 h1
   go_enter Tryz.func234, Tryz.ntmps234
   go_wp2_with fail;refine HF.out.mono ?_;rintro e w1 ⟨rfl,rfl⟩;go_wp2_with fail;refine HT.out.mono ?_;rintro e w1 ⟨P1,F1,hG1,hN1,hr⟩;have HB1:=oh (hN1.blk HB0.out HBP.out);have HBP1:Hid (¬ P1 w.heap.size):=oh (hN1.not HB0.out.lt HBP.out);have HG1:=oh hG1;have HN1:=oh (HN0.out.trans hN1);clear hG1 hN1;rcases hr with ⟨i,hi,hil,rfl⟩|⟨hi,f,rfl,hE⟩
   .have HTK:Hid (zBH l=l.set i 2):=oh (by unfold zBH;rw[hi]);have HGV:Hid ((qA (zBH l) (old:Int)).2=none):=oh (by rw[HTK.out];exact zPE hi h2 H1.out);have HI:=oh hi;clear hi;have b0:=HB1.out.cell (o:=0) (v:=.pointer (some ⟨c,0,none⟩)) rfl;go_wp2_with fail;refine (zQR HN1.out.env HN1.out.sub HG1.out old).mono ?_;rintro e w2 ⟨P2,F2,hG2,hN2,bb,rfl⟩;have HB2:=oh (hN2.blk HB1.out HBP1.out);have b1:=HB2.out.cell (o:=1) (v:=.pointer (some ⟨s,0,none⟩)) rfl;have HG2:=oh hG2;have HN2:=oh (HN1.out.trans hN2);clear hG2 hN2;go_wp2_with fail;refine (zQS HN2.out.env HN2.out.sub HG2.out (old:Int)).mono ?_;rintro e w3 ⟨P3,F3,hG3,hN3,ev,rfl,hev⟩;rw[HGV.out] at hev;cases hev
    have HG3:=oh hG3;have HN3:=oh (HN2.out.trans hN3);clear hG3 hN3;go_wp2_with fail;go_ret2
    refine⟨P3,F3,?_,HN3.out,?_⟩
    .rw[HE.out.1,HE.out.2.1,HI.out,if_neg (by simp)];simp only;rw[<- HTK.out];exact HG3.out
    .rw[HE.out.2.2];exact .inl ⟨i,HI.out,rfl⟩
   .have HI:=oh hi;have HEE:=oh hE;clear hi hE;go_wp2_with fail;go_ret2
    refine⟨P1,F1,?_,HN1.out,?_⟩
    .rw[HE.out.1,HE.out.2.1,HI.out,if_pos rfl];have:zBH l=l:=by unfold zBH;rw[HI.out]
     rw[<- this];exact HG1.out
    .rw[HE.out.2.2];exact .inr ⟨HI.out,f,rfl,HEE.out⟩
end
end
section
open Go.RowKit
def GA.total(G:GA):Prop:=∀i,i<G.blocks->∃r,G.view i=some r
theorem GA.total.knows{G:GA}(h:G.total)(id:Int):G.knows id:=λhc=>by
 unfold GA.check at hc;split at hc
 .cases hc
 .exact h _ (by omega)
theorem zPG{G:GA}(h:G.total)(p:yI):(G.put p).total:=λi hi=>by
 show ∃r,upd G.view p.id.toNat (some (.inl p)) i=some r;by_cases e:i=p.id.toNat
 .subst e;rw[zDW];exact⟨_,rfl⟩
 .rw[zFX _ _ e];exact h i hi
structure zQh(R:Int->Int->Option ByteArray)(m:zI)(p:List zD):Prop where
 leaf:m.leaf=true
 right:zP m=true
 len:m.entries.length=p.length
 tells:∀(i:Nat) (e:zQ) (x:zD),m.entries[i]? = some e->p[i]? = some x->e.key=x.1/\zFa R e=some x.2
noncomputable def GA.R2 (G:GA) (c s:Int):Option ByteArray:=open Classical in if zBI G s.toNat c s then G.R c s else none
theorem GA.R2_some{G:GA}{c s:Int}{v:ByteArray}(h:G.R2 c s=some v):zBI G s.toNat c s/\G.R c s=some v:=by
 unfold GA.R2 at h;split at h
 .rename_i hw;exact⟨hw,h⟩
 .cases h
theorem zHL{G:GA}{e:zQ}{v:ByteArray}(h:zFa G.R2 e=some v):zDy G e=.inl v/\zGH G e:=by
 unfold zFa at h;unfold zDy zGH;by_cases hc:e.chain=0
 .rw[if_pos hc] at h ⊢;exact⟨by rw[Option.some.inj h],λhn=>absurd hc hn⟩
 .rw[if_neg hc] at h ⊢;obtain⟨h1,h2⟩:=GA.R2_some h;refine⟨?_,λ_ _ _=>h1⟩;unfold GA.R at h2;split at h2
  .rename_i h3;rw[h3];simp only;rw[Option.some.inj h2]
  .cases h2
theorem zD0(k:ByteArray):inB e0 none k:=by
 refine⟨?_,λh hh=>by cases hh⟩;unfold yX;have:e0.toList=[]:=by simp[ByteArray.toList_eq]
 rw[this];cases k.toList <;> rfl
def zR7(G:GA)(root d:Nat)(l:List zD):Prop :=
 (l=[]/\root=0/\d=0)\/(2<=root/\root<256/\d<=16/\Tr G.node G.R2 e0 none root d l)
structure WkS where
 pages:List Int
 keys:List ByteArray
 depth:Nat
variable {G:GA}{gen:Nat}{st st1:WkS}{id:Int}{p:yI}
theorem zD1:∀(n:Nat) (l:List Int),l.Nodup->(∀i∈l,0<=i/\i<(n:Int))->l.length<=n
 | 0,[],_,_=>uK _
 | 0,i :: l,_,h=>by have:=h i uG;omega
 | n+1,l,hn,h=>by
  by_cases hm:(n:Int)∈l
  .have h1:=zD1 n (l.erase (n:Int)) (hn.erase _) (λi hi=>by
    rw[hn.mem_erase_iff] at hi;have:=h i hi.2;have:=hi.1;omega)
   rw[List.length_erase_of_mem hm] at h1;omega
  .have:=zD1 n l hn (λi hi=>by
    have h1:=h i hi;have h2:i≠(n:Int):=λe=>hm (e ▸ hi)
    omega)
   omega
abbrev StC:=List (zI × Int)
def zAD(n:zI):Nat:=if n.leaf then n.entries.length else n.kids.length
def zDb(n:zI):Int:=max 0 ((zAD n:Int)-1)
def zAP(G:GA)(st:StC)(id:Int):StC ⊕ Err :=
 if 16<=st.length then .inr ([zBm id],5) else match G.load id with
  | .inr e=>.inr e
  | .inl n=>.inl ((n,0) :: st)
def zCo(last:Bool)(st:StC):StC:=match st with
 | []=>[]
 | (n,a) :: r=>if last=true then (n,zDb n) :: r else (n,a) :: r
def zN4(G:GA)(last:Bool):Nat->StC->StC ⊕ Err
 | 0,st=>.inl st
 | _+1,[]=>.inl []
 | f+1,(n,a) :: r=>if n.leaf=true then .inl ((n,a) :: r) else
  match zAP G ((n,a) :: r) (n.kids.getD a.toNat 0) with
  | .inr e=>.inr e
  | .inl st=>zN4 G last f (zCo last st)
def zBw(G:GA)(last:Bool)(st:StC):StC ⊕ Err:=zN4 G last (18-st.length) st
def qG(G:GA)(by_:Int):StC->StC ⊕ Err
 | []=>.inl []
 | (n,a) :: r=>if 0<=a+by_/\a+by_<(zAD n:Int) then zBw G (decide (by_<0)) ((n,a+by_) :: r) else qG G by_ r
def zN5(st:StC):Bool:=match st with
 | []=>false
 | (n,_) :: _=>n.entries.isEmpty
def zN6(G:GA)(root:Int)(last:Bool):StC ⊕ Err :=
 if root=0 then .inl [] else match zAP G [] root with
  | .inr e=>.inr e
  | .inl st=>match zBw G last (zCo last st) with
   | .inr e=>.inr e
   | .inl st1=>if zN5 st1=true then .inl [] else .inl st1
def jQ(G:GA)(key:ByteArray):Nat->StC->Int->StC ⊕ Err
 | 0,_,id=>.inr ([zBm id],5)
 | f+1,st,id=>match zAP G st id with
  | .inr e=>.inr e
  | .inl []=>.inl []
  | .inl ((n,_) :: r)=>if n.leaf=true then .inl ((n,((zBJ n key).1:Int)) :: r) else jQ G key f ((n,((zBJ n key).1:Int)) :: r) (n.kids.getD (zBJ n key).1 0)
def zDc(G:GA)(root:Int)(key:ByteArray):StC ⊕ Err :=
 if root=0 then .inl [] else match jQ G key 17 [] root with
  | .inr e=>.inr e
  | .inl []=>.inl []
  | .inl ((n,a) :: r)=>if a<(n.entries.length:Int) then .inl ((n,a) :: r) else qG G 1 ((n,a-1) :: r)
def zLm(x:zI × Int):Prop:=zP x.1=true /\ -2<=x.2/\x.2<=65537
def zJj(x:zI × Int):Prop:=x.1.leaf=false->0<=x.2/\x.2<(x.1.kids.length:Int)
def zSP(st:StC):Prop:=(∀x∈st,zLm x)/\st.length<=16
section
variable {G:GA}{st st1:StC}{id:Int}{last:Bool}
theorem zAW{n:zI}(h:zP n=true):n.entries.length<=65535/\n.kids.length<=256/\(n.leaf=false->2<=n.kids.length):=by
 unfold zP at h;split at h
 .rename_i hl;simp only[uL,uQ,wS] at h;refine⟨h.2,by rw[h.1.1.2];simp,λhf=>by rw[hl] at hf;cases hf⟩
 .simp only[uL,uQ,wS] at h;obtain⟨⟨⟨⟨⟨⟨⟨h1,h2⟩,h3⟩,h4⟩,h5⟩,h6⟩,h7⟩,h8⟩:=h;exact⟨by rw[h1];simp,h4,λ_=>h2⟩
theorem zLn{n:zI}(h:zP n=true):zLm (n,zDb n)/\zJj (n,zDb n):=by
 obtain⟨h1,h2,h3⟩:=zAW h;have he:(zAD n:Int)<=65535:=by unfold zAD;split <;> omega
 refine⟨⟨h,by show (-2:Int)<=max 0 ((zAD n:Int)-1);omega,by show max 0 ((zAD n:Int)-1)<=65537;omega⟩,λhl=>?_⟩;have:=h3 hl;show 0<=zDb n/\zDb n<(n.kids.length:Int);unfold zDb zAD;rw[if_neg (by rw[show n.leaf=false from hl];simp)];omega
theorem zKa{n:zI}(h:zP n=true):zLm (n,0)/\zJj (n,0):=by
 obtain⟨h1,h2,h3⟩:=zAW h;refine⟨⟨h,by show (-2:Int)<=0;omega,by show (0:Int)<=65537;omega⟩,λhl=>?_⟩;have:=h3 hl;show (0:Int)<=0/\(0:Int)<(n.kids.length:Int);omega
theorem zLo(h:zSP st)(hp:zAP G st id=.inl st1):zSP st1/\∃n,st1=(n,0) :: st/\G.load id=.inl n:=by
 unfold zAP at hp;split at hp
 .cases hp
 .rename_i hl;split at hp
  .cases hp
  .rename_i n hn;injection hp with hp;subst hp;refine⟨⟨λx hx=>?_,by simp;omega⟩,n,rfl,hn⟩;rcases uO.1 hx with rfl|hx
   .exact (zKa (GA.load_right hn)).1
   .exact h.1 x hx
theorem zLp(last:Bool)(st:StC):(zCo last st).length=st.length:=by
 unfold zCo;cases st with
 | nil=>rfl
 | cons x r=>obtain⟨n,a⟩:=x;simp only;split <;> rfl
theorem zQi{n:zI}(hr:zP n=true)(key:ByteArray):(zBJ n key).1<=65535/\(n.leaf=true->(zBJ n key).1<=n.entries.length)/\(n.leaf=false->(zBJ n key).1<n.kids.length):=by
 obtain⟨h1,h2,h3⟩:=zAW hr;cases hl:n.leaf with
 | true =>
  rw[zCz hl];have:vL key n.entries<=n.entries.length:=tY;exact⟨by show vL key n.entries<=_;omega,λ_=>this,λh=>by cases h⟩
 | false =>
  have hk:=(zAw hr hl).2.1;rw[zEi hl];have:zAh key n.keys<=n.keys.length:=tY;exact⟨by show zAh key n.keys<=_;omega,λh=>(by cases h),λ_=>(by show zAh key n.keys<_;omega)⟩
theorem zD2{n:zI}{a:Int}{r:StC}(hl:n.leaf=false)(hlen:r.length+1<=16):zBw G last ((n,a) :: r)=match zAP G ((n,a) :: r) (n.kids.getD a.toNat 0) with | .inr e=>.inr e | .inl st=>zBw G last (zCo last st):=by
 unfold zBw;have e:18-((n,a) :: r).length=(16-r.length)+1:=by simp only[uD];omega
 rw[e,zN4,if_neg (by rw[hl];simp)];cases hp:zAP G ((n,a) :: r) (n.kids.getD a.toNat 0) with
 | inr e=>rfl
 | inl st =>
  simp only;have hst:st.length=r.length+2:=by
   unfold zAP at hp;split at hp
   .cases hp
   .split at hp
    .cases hp
    .injection hp with hp;subst hp;simp
  rw[zLp,hst];congr 1
  omega
theorem zD3{n:zI}{a:Int}{r:StC}(hl:n.leaf=true)(hlen:r.length+1<=16):zBw G last ((n,a) :: r)=.inl ((n,a) :: r):=by
 unfold zBw;have e:18-((n,a) :: r).length=(16-r.length)+1:=by simp only[uD];omega
 rw[e,zN4,if_pos hl]
end
inductive TrE (V:Nat->Option zI):Nat->Nat->Prop
 | leaf {id n}:V id=some n->n.leaf=true->n.entries≠[]->TrE V id 1
 | inner {id n d}:V id=some n->n.leaf=false->(∀k∈n.kids,TrE V k.toNat d)->TrE V id (d+1)
inductive Ctx (G:GA) (L:List zD) (D:Nat):StC->List zD->List zD->List zD->Nat->ByteArray->Option ByteArray->Prop
 | nil:Ctx G L D [] [] L [] D e0 none
 | cons {n:zI} {j:Nat} {r pre suf d lo hi} {parts:List (List zD)} {p:List zD}:Ctx G L D r pre parts.flatten suf (d+1) lo hi->n.leaf=false->zP n=true->parts.length=n.kids.length ->
   (∀(i:Nat) (k:Int) (p:List zD),n.kids[i]? = some k->parts[i]? = some p->Tr G.node G.R2 (zFb lo n.keys i) (zFc hi n.keys i) k.toNat d p)->(∀k∈n.kids,TrE G.node k.toNat d)->(∀s∈n.keys,inB lo hi s)->parts[j]? = some p ->
   Ctx G L D ((n,(j:Int)) :: r) (pre++(parts.take j).flatten) p ((parts.drop (j+1)).flatten++suf) d (zFb lo n.keys j) (zFc hi n.keys j)
def zCe(G:GA)(L:List zD)(D:Nat)(st:StC)(i:Nat):Prop :=
 ∃(n:zI) (a:Nat) (r:StC) (pre p suf:List zD) (lo:ByteArray) (hi:Option ByteArray),st=(n,(a:Int)) :: r/\Ctx G L D r pre p suf 1 lo hi/\zQh G.R2 n p/\a<p.length/\i=pre.length+a
def zDd(G:GA)(L:List zD)(D:Nat)(st:StC)(i:Int):Prop:=(0<=i/\i<(L.length:Int)/\zCe G L D st i.toNat)\/((i<0\/(L.length:Int)<=i)/\st=[])
section
variable {G:GA}{L pre f suf p:List zD}{D d id:Nat}{st r:StC}{lo:ByteArray}{hi:Option ByteArray}{n:zI}
theorem zQj{α:Type}{l:List α}{j:Nat}{x:α}(h:l[j]? = some x):l=l.take j++x :: l.drop (j+1):=by
 obtain⟨hj,rfl⟩:=uC.1 h;rw[List.getElem_cons_drop,uV]
theorem zKb{parts:List (List zD)}{j:Nat}(h:parts[j]? = some p):parts.flatten=(parts.take j).flatten++p++(parts.drop (j+1)).flatten:=by
 conv=>lhs;rw[zQj h]
 simp
theorem zJk{parts:List (List zD)}{j:Nat}(h:parts[j]? = some p):(parts.take (j+1)).flatten.length=(parts.take j).flatten.length+p.length:=by
 rw[List.take_add_one,h,List.flatten_append,uA];simp only[Option.toList_some,pW,pM,wH]
theorem Ctx.whole(h:Ctx G L D r pre f suf d lo hi):L=pre++f++suf:=by
 induction h with
 | nil=>simp
 | cons _ _ _ _ _ _ _ h8 ih=>rw[ih,zKb h8];simp
theorem Ctx.deep(h:Ctx G L D r pre f suf d lo hi):r.length+d=D:=by
 induction h with
 | nil=>simp
 | cons _ _ _ _ _ _ _ _ ih=>simp only[uD];omega
theorem TrE.ne{R:Int->Int->Option ByteArray}{V:Nat->Option zI}(h:Tr V R lo hi id d f):TrE V id d->f≠[]:=by
 induction h with
 | @leaf lo hi id n l h1 h2 h3 h4 h5 h6 =>
  intro he;cases he with
  | leaf k1 k2 k3 =>
   rw[h1] at k1;injection k1 with k1;subst k1;rintro rfl;exact k3 (rW.1 h4)
  | inner k1 k2 k3=>rw[h1] at k1;injection k1 with k1;subst k1;rw[h2] at k2;cases k2
 | @inner lo hi id n d parts h1 h2 h3 h4 h5 h6 ih =>
  intro he hf;cases he with
  | leaf k1 k2 k3=>rw[h1] at k1;injection k1 with k1;subst k1;rw[h2] at k2;cases k2
  | inner k1 k2 k3 =>
   rw[h1] at k1;injection k1 with k1;subst k1;have h7:=(zAW h3).2.2 h2;have hk:0<n.kids.length:=by omega
   have hp:0<parts.length:=by omega
   have:=ih 0 n.kids[0] parts[0] (uB hk) (uB hp) (k3 _ (wJ hk));exact this (List.flatten_eq_nil_iff.1 hf _ (wJ hp))
def goA(G:GA)(last:Bool)(r:StC)(id:Int):StC ⊕ Err:=match zAP G r id with
 | .inr e=>.inr e
 | .inl st=>zBw G last (zCo last st)
theorem zLq(last:Bool)(n:zI)(r:StC):zCo last ((n,0) :: r)=(n,if last=true then zDb n else 0) :: r:=by
 unfold zCo;cases last <;> rfl
theorem zKc{n:zI}(hn:zP n=true)(hl:n.leaf=false){j:Nat}(hj:j<n.kids.length):n.kids.getD j 0=((n.kids[j].toNat:Nat):Int):=by
 have:=((zAw hn hl).2.2 _ (wJ hj)).1;rw[tL,uB hj];simp only[pK];omega
theorem zQk(last:Bool)(h:Tr G.node G.R2 lo hi id d f):∀{r:StC} {pre suf:List zD},TrE G.node id d->Ctx G L D r pre f suf d lo hi->D<=16 ->
  ∃st',goA G last r (id:Int)=.inl st'/\zCe G L D st' (if last=true then pre.length+f.length-1 else pre.length):=by
 induction h with
 | @leaf lo hi id n l h1 h2 h3 h4 h5 h6 =>
  intro r pre suf hE hC hD;have hdp:=hC.deep;have hne:=TrE.ne (.leaf h1 h2 h3 h4 h5 h6:Tr G.node G.R2 lo hi id 1 l) hE;have hpos:0<l.length:=rS.2 hne;have hp:zAP G r (id:Int)=.inl ((n,0) :: r):=by
   unfold zAP;rw[if_neg (by omega),(GA.node_load h1).2]
  unfold goA;rw[hp];simp only;rw[zLq,zD3 h2 (by omega)];cases last with
  | false=>exact⟨_,rfl,n,0,r,pre,l,suf,lo,hi,rfl,hC,⟨h2,h3,h4,h5⟩,hpos,by simp⟩
  | true =>
   refine⟨_,rfl,n,l.length-1,r,pre,l,suf,lo,hi,?_,hC,⟨h2,h3,h4,h5⟩,by omega,by simp;omega⟩;simp only[tS];congr 2
   unfold zDb zAD;rw[if_pos h2,h4];omega
 | @inner lo hi id n d parts h1 h2 h3 h4 h5 h6 ih =>
  intro r pre suf hE hC hD;have hdp:=hC.deep;have hkids:=(zAW h3).2.2 h2;cases hE with
  | leaf k1 k2 k3=>rw[h1] at k1;injection k1 with k1;subst k1;rw[h2] at k2;cases k2
  | inner k1 k2 k3 =>
   rw[h1] at k1;injection k1 with k1;subst k1;have hp:zAP G r (id:Int)=.inl ((n,0) :: r):=by
    unfold zAP;rw[if_neg (by omega),(GA.node_load h1).2]
   unfold goA;rw[hp];simp only;obtain⟨j,hj,hjt,hjl⟩:∃j:Nat,(if last=true then zDb n else 0)=(j:Int)/\j<n.kids.length/\(j=if last=true then n.kids.length-1 else 0):=by
    cases last with
    | false=>exact⟨0,rfl,by omega,rfl⟩
    | true =>
     refine⟨n.kids.length-1,?_,by omega,rfl⟩;simp only[tS];unfold zDb zAD;rw[if_neg (by rw[h2];simp)];omega
   rw[zLq,hj,zD2 h2 (by omega),uM,zKc h3 h2 hjt];have hjp:j<parts.length:=by omega
   have hpj:parts[j]? = some parts[j]:=uB hjp;have hCj:=Ctx.cons hC h2 h3 h4 h5 k3 h6 hpj;obtain⟨st',e1,e2⟩:=ih j n.kids[j] parts[j] (uB hjt) hpj (k3 _ (wJ hjt)) hCj hD;refine⟨st',e1,?_⟩;have hfl:=congrArg List.length (zKb hpj);simp only[uA] at hfl e2 ⊢;cases last with
   | false =>
    simp only[tN,wF] at hjl e2 ⊢;rw[hjl] at e2;simpa using e2
   | true =>
    simp only[tS] at hjl e2 ⊢;have hd:parts.drop (j+1)=[]:=tI (by omega);rw[hd] at hfl;simp only[pM,uF,uP] at hfl;rw[hfl];rwa [rF] at e2
theorem zLr(hD:D<=16)(h:Ctx G L D r pre f suf d lo hi):(suf=[]/\qG G 1 r=.inl [])\/(suf≠[]/\∃st',qG G 1 r=.inl st'/\zCe G L D st' (pre.length+f.length)):=by
 induction h with
 | nil=>exact .inl ⟨rfl,rfl⟩
 | @cons n j r pre suf d lo hi parts p h1 h2 h3 h4 h5 h6 h7 h8 ih =>
  have hdp:=h1.deep;have hj:=(uC.1 h8).1;have hfl:=congrArg List.length (zKb h8);simp only[uA] at hfl;by_cases hn:j+1<n.kids.length
  .have hjp:j+1<parts.length:=by omega
   have hpj:parts[j+1]? = some parts[j+1]:=uB hjp;have hCj:=Ctx.cons h1 h2 h3 h4 h5 h6 h7 hpj;have hT:=h5 (j+1) n.kids[j+1] parts[j+1] (uB hn) hpj;have hE:=h6 _ (wJ hn);obtain⟨st',e1,e2⟩:=zQk false hT hE hCj hD;refine .inr ⟨?_,st',?_,?_⟩
   .intro hs;have:=TrE.ne hT hE;rw[wM hjp,pW] at hs;exact this (List.append_eq_nil_iff.1 (List.append_eq_nil_iff.1 hs).1).1
   .unfold qG;rw[if_pos (by unfold zAD;rw[if_neg (by rw[h2];simp)];omega),show decide ((1:Int)<0)=false from rfl,show ((j:Int)+1)=((j+1:Nat):Int) by omega,zD2 h2 (by omega),uM,zKc h3 h2 hn];exact e1
   .simp only[wF,tN,uA] at e2 ⊢;have hs:(parts.take (j+1)).flatten.length=(parts.take j).flatten.length+p.length:=zJk h8;rw[hs] at e2;rwa [rF]
  .have hd:parts.drop (j+1)=[]:=tI (by omega);have hm:qG G 1 ((n,(j:Int)) :: r)=qG G 1 r:=by
    conv=>lhs;unfold qG
    rw[if_neg (by unfold zAD;rw[if_neg (by rw[h2];simp)];omega)]
   rw[hm,hd];rw[hd] at hfl;simp only[pM,wL,uA,uF,uP] at hfl ⊢;rcases ih with ⟨i1,i2⟩|⟨i1,st',i2,i3⟩
   .exact .inl ⟨i1,i2⟩
   .refine .inr ⟨i1,st',i2,?_⟩;rw[hfl] at i3;rwa [rF]
theorem zQl(hD:D<=16)(h:Ctx G L D r pre f suf d lo hi):(pre=[]/\qG G (-1) r=.inl [])\/(pre≠[]/\∃st',qG G (-1) r=.inl st'/\zCe G L D st' (pre.length-1)):=by
 induction h with
 | nil=>exact .inl ⟨rfl,rfl⟩
 | @cons n j r pre suf d lo hi parts p h1 h2 h3 h4 h5 h6 h7 h8 ih =>
  have hdp:=h1.deep;have hj:=(uC.1 h8).1;by_cases hn:1<=j
  .have hjp:j-1<parts.length:=by omega
   have hjk:j-1<n.kids.length:=by omega
   have hpj:parts[j-1]? = some parts[j-1]:=uB hjp;have hCj:=Ctx.cons h1 h2 h3 h4 h5 h6 h7 hpj;have hT:=h5 (j-1) n.kids[j-1] parts[j-1] (uB hjk) hpj;have hE:=h6 _ (wJ hjk);have hne:=TrE.ne hT hE;obtain⟨st',e1,e2⟩:=zQk true hT hE hCj hD;have hs:(parts.take j).flatten.length=(parts.take (j-1)).flatten.length+parts[j-1].length:=by
    obtain⟨q,rfl⟩:∃q,j=q+1:=⟨j-1,by omega⟩;exact zJk hpj
   have hpos:0<parts[j-1].length:=rS.2 hne;refine .inr ⟨?_,st',?_,?_⟩
   .intro hs2;have:=congrArg List.length hs2;simp only[uA,uF] at this;omega
   .unfold qG;rw[if_pos (by unfold zAD;rw[if_neg (by rw[h2];simp)];omega),show decide ((-1:Int)<0)=true from rfl,show ((j:Int) + -1)=((j-1:Nat):Int) by omega,zD2 h2 (by omega),uM,zKc h3 h2 hjk];exact e1
   .simp only[tS,uA] at e2 ⊢;rw[hs];have e3:pre.length+(parts.take (j-1)).flatten.length+parts[j-1].length-1=pre.length+((parts.take (j-1)).flatten.length+parts[j-1].length)-1:=by omega
    rwa [e3] at e2
  .have hj0:j=0:=by omega
   subst hj0;have hm:qG G (-1) ((n,((0:Nat):Int)) :: r)=qG G (-1) r:=by
    conv=>lhs;unfold qG
    rw[if_neg (by omega)]
   rw[hm];simp only[pX,pM,wH];exact ih
end
end
end Go.Proofs.YtdnbmdghmmpgcaaGreatDoor
