import Derived.Test.YteabpacpngaoaaaGreatDoorC27
namespace Go.Proofs.YteabpacpngaoaaaGreatDoor
open Lib renaming hid->oh
set_option maxRecDepth 100000
section
open Go.RowKit
attribute [local go_sem ↓] Go.wp_at_zero Go.wp_at_succ
theorem zOW(s:ByteArray)(w:World) : Calls Tryz.prog 49 #[.string s] w λe w'=>e=.returned (.bool (zAE s))/\w=w':=by
 obtain⟨n,hn⟩:∃n,n=s.size:=⟨_,rfl⟩;have HN:Hid (zAE s=(decide (1<=(n:Int)) && decide ((n:Int)<=32))):=oh (by rw[hn];rfl);rw[hn] at HN;clear hn;by_cases h1:0<(s.size:Int)
 all_goals
  have h2:=oh h1
  go_enter Tryz.func49, Tryz.ntmps49
  go_wp2
  go_ret;exact⟨yB (by have:=h2.out;rw[HN.out];first|(rw[decide_eq_true (show 1<=(s.size:Int) by omega)];simp;done)|(rw[decide_eq_false (show ¬ 1<=(s.size:Int) by omega)];simp;done)),rfl⟩
def zJ3(F:Nat->Prop)(ad:Nat->Addr)(w:World)(lf:Bool)(b:List UInt8)(e:Ending)(w':World):Prop :=
 zF w w'/\((∃n ve vk vi,zET lf b=some n/\e=.returned (.tuple #[.agg #[.bool lf,ve,vk,vi],.nilIface])/\Sl F w' 4 zAO ve n.entries/\Sl F w' 1 vZ vk n.keys/\Sl F w' 1 yK vi n.kids) \/
  (zET lf b=none/\∃f,e=.returned (.tuple #[.agg #[.bool false,.slice none 0 0,.slice none 0 0,.slice none 0 0],zL f])/\vB F ad w' (zL f) [-1] 1))
theorem Tryz.nodeSize:(Tryz.prog.info? 174).map (·.size)=some 4:=by kernel_rfl
section
variable {F:Nat->Prop}{ad:Nat->Addr}{w wr w2:World}
theorem zLG(b:List UInt8)(r:RdA)(hb:b.length<=1000){k:Nat}(h0:0<=r.at_)(h:r.at_<=1020+10 * (k:Int)):0<=(vX b r).2.at_/\(vX b r).2.at_<=1020+10 * ((k+1:Nat):Int):=by
 have:=zHs b r;omega
set_option maxHeartbeats 4000000 in
theorem zJ4(hL:yG F ad w)(bv:Value)(b:List UInt8)(hb:Sl F w 1 zZ bv b)(h1000:b.length<=1000) :
  Calls Tryz.prog 177 #[.bool true,bv] w (zJ3 F ad w true b):=by
 have HL:=oh hL;have HS0:Hid (jB F ad w (((w.alloc (.cells #[.bool false,.slice none 0 0,.slice none 0 0,.slice none 0 0] 174)).alloc (.cells #[bv,.int .i64 0,.bool false] 358)).alloc (.cells #[.bool true,.slice none 0 0,.slice none 0 0,.slice none 0 0] 174)) true bv b ⟨0,false⟩ [] [] [] (.slice none 0 0) (.slice none 0 0) (.slice none 0 0) (.slice none 0 0) (.slice none 0 0) (.slice none 0 0)):=oh
  ⟨(((zA.refl _ w).alloc _).alloc _).alloc _,hL,hb,by
   have:=(zH.new (w.alloc (.cells #[.bool false,.slice none 0 0,.slice none 0 0,.slice none 0 0] 174)) #[bv,.int .i64 0,.bool false] 358).alloc (.cells #[.bool true,.slice none 0 0,.slice none 0 0,.slice none 0 0] 174);simpa using this,by
   have:=zH.new ((w.alloc (.cells #[.bool false,.slice none 0 0,.slice none 0 0,.slice none 0 0] 174)).alloc (.cells #[bv,.int .i64 0,.bool false] 358)) #[.bool true,.slice none 0 0,.slice none 0 0,.slice none 0 0] 174;simpa using this,yC.nil _ _ _ _ _ _,yC.nil _ _ _ _ _ _,yC.nil _ _ _ _ _ _,((zH.new w _ _).alloc _).alloc _⟩
 have HB:=oh hb;obtain⟨mny,r0,hx⟩:∃n r1,vD b ⟨0,false⟩ 2=(n,r1):=⟨_,_,rfl⟩;have hmn:mny<=65535:=by have:=zJE b ⟨0,false⟩;rw[hx] at this;exact this
 have hr0:r0.at_=2:=by have:=zCT b ⟨0,false⟩ 2;rw[hx] at this;exact this
 have HR0:=oh hr0;have HX:=oh hx;have HND:Hid (zAH true b=(⟨true,(qD b mny r0 []).1,[],[]⟩,(qD b mny r0 []).2)):=oh (by unfold zAH;simp only[hx,if_true]);have H10:=oh h1000;obtain⟨ab,cb,rfl,hb1,hb2,hb3,_⟩:=hb;clear hL hx hr0;unfold maxLen at hb2
 go_enter Tryz.func177, Tryz.ntmps177
 go_wp2_with fail;refine (HS0.out.num 2 (.inr (.inl rfl)) (Int.le_refl 0) (show (0:Int)<=1000000000000 by omega) mny HX.out).mono ?_;rintro e w1 ⟨rfl,hS1,_⟩;have HS1:=oh hS1;clear hS1;go_wp2_with fail;go_loopg [9] mny (λm i wr=>∃(k:Nat) (at_:Int) (bd:Bool) (es:List zV) (ve:Value),k+m=mny/\i=.int .i64 k/\Hid (qD b m ⟨at_,bd⟩ es=qD b mny r0 [])/\Hid (jB F ad w wr true (.slice ab b.length cb) b ⟨at_,bd⟩ es [] [] ve (.slice none 0 0) (.slice none 0 0) ve (.slice none 0 0) (.slice none 0 0))/\es.length<=k/\0<=at_/\at_<=1020+10 * (k:Int))
 case atStart=>exact⟨0,r0.at_,r0.bad,[],_,by omega,rfl,oh rfl,HS1,Nat.le_refl 0,by have:=HR0.out;omega,by have:=HR0.out;omega⟩
 case round =>
  obtain⟨k,at_,bd,es,ve,hkm,rfl,HZ,HS,hes,ha0,ha1⟩:=hrel;have b2:=HS.out.box.cell (o:=2) (v:=.bool bd) rfl;by_cases hgo:k<mny/\bd=false
  .obtain⟨hlt,rfl⟩:=hgo;obtain⟨m,rfl⟩:∃m,gk=m+1:=⟨gk-1,by omega⟩;have hat:=zLG b ⟨at_,false⟩ H10.out (k:=k) ha0 ha1;have HZ2:Hid (qD b m (vX b ⟨at_,false⟩).2 (es++[(vX b ⟨at_,false⟩).1])=qD b mny r0 []):=oh (by
    have:=HZ.out;rw[qD] at this;simpa using this)
   clear HZ;obtain⟨key,r1,hk⟩:∃s r1,jO b ⟨at_,false⟩=(s,r1):=⟨_,_,rfl⟩;have hk1:=zEp b ⟨at_,false⟩;rw[hk] at hk1;obtain⟨q,r2,hq⟩:∃n r2,vD b r1 1=(n,r2):=⟨_,_,rfl⟩;have hq1:=zDw b r1 1 (.inl rfl);rw[hq] at hq1;simp only at hk1 hq1;have HK:=oh hk;have HQ:=oh hq;have HR1:Hid (0<=r1.at_/\r1.at_<=1000000/\0<=r2.at_/\r2.at_<=1000000):=oh (by have:=H10.out;omega);have HQ1:=oh hq1.1;clear hk hq hk1 hq1;go_wp2_with fail;refine (HS.out.text ha0 (show at_<=1000000000000 by omega) key HK.out).mono ?_;rintro e w2 ⟨rfl,hS2,_⟩;have HS2:=oh hS2;clear hS2;go_wp2_with fail;have HS3:=oh (HS2.out.step ((zA.refl _ w2).alloc (.cells #[.string key,.string ⟨#[]⟩,.int .i64 0,.int .i64 0] 228)));refine (HS3.out.num 1 (.inl rfl) HR1.out.1 (by have:=HR1.out;omega) q HQ.out).mono ?_;rintro e w3 ⟨rfl,hS4,hm3⟩;have hB3:=(zH.new w2 #[.string key,.string ⟨#[]⟩,.int .i64 0,.int .i64 0] 228).mods hm3 (by have:=HS2.out.base;omega);have HVX:Hid (ve.ownBlock≠some w2.heap.size):=oh (λe=>by have:=HS2.out.oe.lt _ e;omega);have HB3:=oh hB3;have HS4:=oh hS4;have hz2:=HS2.out.base;clear hB3 hS4 hm3;by_cases hq0:q=0
   .obtain⟨v,r3,hv⟩:∃s r3,jO b r2=(s,r3):=⟨_,_,rfl⟩;have HV:=oh hv;have HRE:Hid (vX b ⟨at_,false⟩=(⟨key,v,0,0⟩,r3)):=oh (by unfold vX;simp only[HK.out,HQ.out,if_pos hq0,HV.out]);clear hv;subst hq0;go_wp2_with fail;refine (HS4.out.text HR1.out.2.2.1 (by have:=HR1.out;omega) v HV.out).mono ?_;rintro e w4 ⟨rfl,hS5,hm4⟩;have hB4:=HB3.out.mods hm4 (by omega);have e1:=hB4.cell (o:=1) (v:=.string ⟨#[]⟩) rfl;have ef:=hB4.frozen;have HS5:Hid (jB F ad w (w4.setCell ⟨w2.heap.size,1,none⟩ (.string v)) true (.slice ab b.length cb) b r3 es [] [] ve (.slice none 0 0) (.slice none 0 0) ve (.slice none 0 0) (.slice none 0 0)):=oh
     (hS5.far (X:=w2.heap.size) hz2 (zA.at _ w4 _ 1 _ rfl) HVX.out (by simp[Value.ownBlock]) (by simp[Value.ownBlock]))
    have hB5:zH (w4.setCell ⟨w2.heap.size,1,none⟩ (.string v)) w2.heap.size #[.string key,.string v,.int .i64 0,.int .i64 0] 228:=by simpa using hB4.set 1 (.string v)
    have HB5:=oh hB5;clear hS5 hm4 hB4 hB5;have x0:=HB5.out.cell (o:=0) (v:=.string key) rfl;have x1:=HB5.out.cell (o:=1) (v:=.string v) rfl;have x2:=HB5.out.cell (o:=2) (v:=.int .i64 0) rfl;have x3:=HB5.out.cell (o:=3) (v:=.int .i64 0) rfl;have n1:=HS5.out.nd.cell (o:=1) (v:=ve) rfl;go_wp2_with (at_builtin;go_loud (refine yU Tryz.elE zBV rfl _ _ rfl (w.heap.size+3) ve _ es [⟨key,v,0,0⟩] rfl rfl (HS5.out.oe.ext ((zA.refl _ _).alloc _)) (Sl.one (F:=NoF) (zR (by simp)) (λf=>f)) (by simp only[List.length_cons,List.length_nil];omega) (by have:=HS5.out.base;simp at this ⊢;omega) (λf=>f) ?_;simp only[List.length_cons,List.length_nil,Nat.zero_add];intro a2 c2 w5 hO5 hm5 hat5;have hS6:=(HS5.out.step ((zA.refl _ _).alloc _)).appE hm5 hO5;have z1:=hS6.nd.cell (o:=1) (v:=ve) rfl;have zf:=hS6.nd.frozen 1));have HS7:Hid (jB F ad w (w5.setCell ⟨w.heap.size+1+1,1,none⟩ (.slice a2 (es.length+1) c2)) true (.slice ab b.length cb) b r3 (es++[⟨key,v,0,0⟩]) [] [] (.slice a2 (es.length+1) c2) (.slice none 0 0) (.slice none 0 0) (.slice a2 (es.length+1) c2) (.slice none 0 0) (.slice none 0 0)):=oh
     (hS6.put 1 (.slice a2 (es.length+1) c2) (.slice a2 (es.length+1) c2) (.slice none 0 0) (.slice none 0 0) rfl)
    clear hS6 hO5 hm5 hat5;rw[HRE.out] at hat;simp only at hat;have HAT:=oh hat;have HZ3:Hid (qD b m r3 (es++[⟨key,v,0,0⟩])=qD b mny r0 []):=oh (by have:=HZ2.out;rw[HRE.out] at this;exact this);clear hat;go_wp2_with fail;go_roundg m
    case measure=>omega
    case rel=>exact⟨k+1,r3.at_,r3.bad,es++[⟨key,v,0,0⟩],_,by omega,by go_num,HZ3,HS7,by rw[List.length_append,List.length_cons,List.length_nil];omega,HAT.out.1,HAT.out.2⟩
   .have hqb:((q:Int) == 0)=false:=by rw[beq_eq_false_iff_ne];omega
    obtain⟨c,r3,hc⟩:∃n r3,vD b r2 4=(n,r3):=⟨_,_,rfl⟩;obtain⟨z,r4,hz⟩:∃n r4,vD b r3 4=(n,r4):=⟨_,_,rfl⟩;have hc1:=zDw b r2 4 (.inr (.inr rfl));rw[hc] at hc1;have HC:=oh hc;have HZZ:=oh hz;have HR3:Hid (0<=r3.at_/\r3.at_<=10000000):=oh (by have:=HR1.out;simp only at hc1;omega);have HRE:Hid (vX b ⟨at_,false⟩=(⟨key,⟨#[]⟩,(c:Int),(z:Int)⟩,r4)):=oh (by unfold vX;simp only[HK.out,HQ.out,if_neg hq0,HC.out,HZZ.out]);clear hc hz hc1 hq0;go_wp2_with fail;refine (HS4.out.num 4 (.inr (.inr rfl)) HR1.out.2.2.1 (by have:=HR1.out;omega) c HC.out).mono ?_;rintro e w4 ⟨rfl,hS5,hm4⟩;have hB4:=HB3.out.mods hm4 (by omega);have HB4:=oh hB4;have HS5:=oh hS5;clear hB4 hS5 hm4;go_wp2_with fail;refine (HS5.out.num 4 (.inr (.inr rfl)) HR3.out.1 (by have:=HR3.out;omega) z HZZ.out).mono ?_;rintro e w4b ⟨rfl,hS5,hm4⟩;have hB4:=HB4.out.mods hm4 (by omega);have e2:=hB4.cell (o:=2) (v:=.int .i64 0) rfl;have e3:=hB4.cell (o:=3) (v:=.int .i64 0) rfl;have ef:=hB4.frozen;have HS6:Hid (jB F ad w ((w4b.setCell ⟨w2.heap.size,2,none⟩ (.int .i64 (c:Int))).setCell ⟨w2.heap.size,3,none⟩ (.int .i64 (z:Int))) true (.slice ab b.length cb) b r4 es [] [] ve (.slice none 0 0) (.slice none 0 0) ve (.slice none 0 0) (.slice none 0 0)):=oh
     (hS5.far (X:=w2.heap.size) hz2 ((zA.at (λk=>k=w2.heap.size) w4b _ 2 _ rfl).trans (zA.at (λk=>k=w2.heap.size) _ _ 3 _ rfl)) HVX.out (by simp[Value.ownBlock]) (by simp[Value.ownBlock]))
    have hB5:zH ((w4b.setCell ⟨w2.heap.size,2,none⟩ (.int .i64 (c:Int))).setCell ⟨w2.heap.size,3,none⟩ (.int .i64 (z:Int))) w2.heap.size #[.string key,.string ⟨#[]⟩,.int .i64 (c:Int),.int .i64 (z:Int)] 228:=by simpa using (hB4.set 2 (.int .i64 (c:Int))).set 3 (.int .i64 (z:Int))
    have HB5:=oh hB5;clear hS5 hm4 hB4 hB5;have x0:=HB5.out.cell (o:=0) (v:=.string key) rfl;have x1:=HB5.out.cell (o:=1) (v:=.string ⟨#[]⟩) rfl;have x2:=HB5.out.cell (o:=2) (v:=.int .i64 (c:Int)) rfl;have x3:=HB5.out.cell (o:=3) (v:=.int .i64 (z:Int)) rfl;have n1:=HS6.out.nd.cell (o:=1) (v:=ve) rfl;go_wp2_with (at_builtin;go_loud (refine yU Tryz.elE zBV rfl _ _ rfl (w.heap.size+3) ve _ es [⟨key,⟨#[]⟩,(c:Int),(z:Int)⟩] rfl rfl (HS6.out.oe.ext ((zA.refl _ _).alloc _)) (Sl.one (F:=NoF) (zR (by simp)) (λf=>f)) (by simp only[List.length_cons,List.length_nil];omega) (by have:=HS6.out.base;simp at this ⊢;omega) (λf=>f) ?_;simp only[List.length_cons,List.length_nil,Nat.zero_add];intro a2 c2 w5 hO5 hm5 hat5;have hS6:=(HS6.out.step ((zA.refl _ _).alloc _)).appE hm5 hO5;have z1:=hS6.nd.cell (o:=1) (v:=ve) rfl;have zf:=hS6.nd.frozen 1));have HS7:Hid (jB F ad w (w5.setCell ⟨w.heap.size+1+1,1,none⟩ (.slice a2 (es.length+1) c2)) true (.slice ab b.length cb) b r4 (es++[⟨key,⟨#[]⟩,(c:Int),(z:Int)⟩]) [] [] (.slice a2 (es.length+1) c2) (.slice none 0 0) (.slice none 0 0) (.slice a2 (es.length+1) c2) (.slice none 0 0) (.slice none 0 0)):=oh
     (hS6.put 1 (.slice a2 (es.length+1) c2) (.slice a2 (es.length+1) c2) (.slice none 0 0) (.slice none 0 0) rfl)
    clear hS6 hO5 hm5 hat5;rw[HRE.out] at hat;simp only at hat;have HAT:=oh hat;have HZ3:Hid (qD b m r4 (es++[⟨key,⟨#[]⟩,(c:Int),(z:Int)⟩])=qD b mny r0 []):=oh (by have:=HZ2.out;rw[HRE.out] at this;exact this);clear hat;go_wp2_with fail;go_roundg m
    case measure=>omega
    case rel=>exact⟨k+1,r4.at_,r4.bad,es++[⟨key,⟨#[]⟩,(c:Int),(z:Int)⟩],_,by omega,by go_num,HZ3,HS7,by rw[List.length_append,List.length_cons,List.length_nil];omega,HAT.out.1,HAT.out.2⟩
  .have HEND:Hid (qD b mny r0 []=(es,⟨at_,bd⟩)):=oh (by
    rw[<- HZ.out];cases gk with
    | zero=>rfl
    | succ m =>
     rw[qD];have:bd=true:=by
      cases bd
      .exact absurd ⟨by omega,rfl⟩ hgo
      .rfl
     rw[this];rfl)
   have HNN:Hid (zAH true b=(⟨true,es,[],[]⟩,⟨at_,bd⟩)):=oh (by rw[HND.out,HEND.out]);have HGN:Hid (zET true b=if bd=false/\zO ⟨true,es,[],[]⟩=true/\yE ⟨true,es,[],[]⟩=b then some ⟨true,es,[],[]⟩ else none):=oh (by unfold zET;simp only[HNN.out]);obtain⟨pa,pc,rfl,hpc1,hpc2⟩:=HS.out.oe.form;unfold maxLen at hpc2;have hlen:zO ⟨true,es,[],[]⟩=true->(yE ⟨true,es,[],[]⟩).length<=100000:=λhr=>by
    have:=zFk true b H10.out;rw[HNN.out] at this;exact this hr
   have HPUT:=oh (zEb (F:=GB F w) HS.out.env ⟨true,es,[],[]⟩ (.slice pa es.length pc) (.slice none 0 0) (.slice none 0 0) (HS.out.slE HS.out.gb (by omega)) (Sl.nil _ _ _ _) (Sl.nil _ _ _ _) hlen);have n0:=HS.out.nd.cell (o:=0) (v:=.bool true) rfl;have n1:=HS.out.nd.cell (o:=1) (v:=.slice pa es.length pc) rfl;have n2:=HS.out.nd.cell (o:=2) (v:=.slice none 0 0) rfl;have n3:=HS.out.nd.cell (o:=3) (v:=.slice none 0 0) rfl;have hcase:(k<mny/\bd=true)\/(mny<=k/\bd=true)\/(mny<=k/\bd=false):=by
    by_cases h1:k<mny
    .cases bd
     .exact absurd ⟨h1,rfl⟩ hgo
     .exact .inl ⟨h1,rfl⟩
    .cases bd
     .exact .inr (.inr ⟨by omega,rfl⟩)
     .exact .inr (.inl ⟨by omega,rfl⟩)
   have hlenN:=hlen;have HLEN:=oh hlen;clear HZ HEND hlen hgo hlenN;rcases hcase with ⟨hlt,rfl⟩|⟨hlt,rfl⟩|⟨hlt,rfl⟩
   rotate_left 2;focus
    have hlen:=HLEN.out;go_wp2_with fail;refine (HPUT.out).mono ?_;rintro e w6 hP;obtain⟨hx6,hP⟩:=hP;have HS6:=oh (HS.out.step hx6);clear hx6;rcases hP with ⟨hrt,a6,c6,rfl,hO6⟩|⟨hrt,f6,rfl,hE6⟩
    focus
     have HRT:=oh hrt;have HSL6:=oh (yC.sl (F:=NoF) hO6 jE.len (by have:=hlen hrt;omega));clear hrt hO6 hlen;have b2b:=HS6.out.box.cell (o:=2) (v:=.bool false) rfl;go_wp2_with fail;refine (zC5 (F:=NoF) (G:=F) _ _ _ b HSL6.out (HB.out.ext HS6.out.ext)).mono ?_;rintro e w8 ⟨rfl,hm8⟩;have HS8:=oh (HS6.out.step hm8);clear hm8;by_cases heq:yE ⟨true,es,[],[]⟩=b
     .rw[decide_eq_true heq];have HEQ:=oh heq;clear heq;have n0:=HS8.out.nd.cell (o:=0) (v:=.bool true) rfl;have n1:=HS8.out.nd.cell (o:=1) (v:=.slice pa es.length pc) rfl;have n2:=HS8.out.nd.cell (o:=2) (v:=.slice none 0 0) rfl;have n3:=HS8.out.nd.cell (o:=3) (v:=.slice none 0 0) rfl;have r0:=HS8.out.res.cell (o:=0) (v:=.bool false) rfl;have r1:=HS8.out.res.cell (o:=1) (v:=.slice none 0 0) rfl;have r2:=HS8.out.res.cell (o:=2) (v:=.slice none 0 0) rfl;have r3:=HS8.out.res.cell (o:=3) (v:=.slice none 0 0) rfl;have rf:=HS8.out.res.frozen;have HRB:=oh (HS8.out.res.set4 (.bool true) (.slice pa es.length pc) (.slice none 0 0) (.slice none 0 0));have HMR:=oh (zA.set4 (F:=λk=>k=w.heap.size) (zA.refl _ w8) (.inr rfl) (.bool true) (.slice pa es.length pc) (.slice none 0 0) (.slice none 0 0));go_wp2_with fail;refine bodyPost_ret (zC rfl _ _ w.heap.size 174 #[.bool true,.slice pa es.length pc,.slice none 0 0,.slice none 0 0] _ rfl HRB.out Tryz.underlying174 rfl Tryz.nodeSize) rfl ?_;refine⟨zA.set4 HS8.out.ext (.inl (Nat.le_refl _)) _ _ _ _,.inl ⟨⟨true,es,[],[]⟩,.slice pa es.length pc,.slice none 0 0,.slice none 0 0,by rw[HGN.out];exact if_pos (by first|exact⟨rfl,HRT.out,HEQ.out⟩|exact⟨trivial,HRT.out,HEQ.out⟩),rfl,?_,?_,?_⟩⟩
      .exact (HS8.out.slE (G:=GB F w) HS8.out.gb (by omega)).step (HMR.out.mono (λk (hk:k=w.heap.size)=>.inr ⟨by omega,by omega⟩)) (λk _ hn hf=>hn (.inl hf))
      .exact (HS8.out.slK (G:=GB F w) HS8.out.gb (by simp)).step (HMR.out.mono (λk (hk:k=w.heap.size)=>.inr ⟨by omega,by omega⟩)) (λk _ hn hf=>hn (.inl hf))
      .exact (HS8.out.slI (G:=GB F w) HS8.out.gb (by simp)).step (HMR.out.mono (λk (hk:k=w.heap.size)=>.inr ⟨by omega,by omega⟩)) (λk _ hn hf=>hn (.inl hf))
     rw[decide_eq_false heq];have HEQ:=oh heq;clear heq;have HS6:=HS8;have b2c:=HS6.out.box.cell (o:=2) (v:=.bool false) rfl;have HNE:Hid (zET true b=none):=oh (by rw[HGN.out];exact if_neg (λh=>HEQ.out h.2.2))
    rotate_left;focus
     have HRT:=oh hrt;clear hrt hE6;have b2c:=HS6.out.box.cell (o:=2) (v:=.bool false) rfl;have HNE:Hid (zET true b=none):=oh (by rw[HGN.out];exact if_neg (λh=>by have:=h.2.1;rw[HRT.out] at this;cases this))
   rotate_left 2;iterate 2
    focus
     go_wp2_with fail;refine (HPUT.out).mono ?_;rintro e w6 hP;obtain⟨hx6,hP⟩:=hP;have HS6:=oh (HS.out.step hx6);clear hx6;rcases hP with ⟨_,a6,c6,rfl,_⟩|⟨_,f6,rfl,_⟩
     all_goals
      have b2c:=HS6.out.box.cell (o:=2) (v:=.bool true) rfl;have HNE:Hid (zET true b=none):=oh (by rw[HGN.out];exact if_neg (λh=>by have:=h.1;cases this))
    rotate_left 2
   all_goals
    have g1:=HS6.out.env.c1;go_wp2_with fail;refine (qN HS6.out.env _ _ [] 1 (.sent 1 (by decide) (by decide))).mono ?_;rintro e w7 ⟨f7,rfl,hE7,hm7⟩;have hS7:=HS6.out.step hm7;have r0:=hS7.res.cell (o:=0) (v:=.bool false) rfl;have r1:=hS7.res.cell (o:=1) (v:=.slice none 0 0) rfl;have r2:=hS7.res.cell (o:=2) (v:=.slice none 0 0) rfl;have r3:=hS7.res.cell (o:=3) (v:=.slice none 0 0) rfl;have rf:=hS7.res.frozen;have HS7:=oh hS7;have HE7:=oh hE7;have HRB:=oh (hS7.res.set4 (.bool false) (.slice none 0 0) (.slice none 0 0) (.slice none 0 0));clear hS7 hE7 hm7;go_wp2_with fail;refine bodyPost_ret (zC rfl _ _ w.heap.size 174 #[.bool false,.slice none 0 0,.slice none 0 0,.slice none 0 0] _ rfl HRB.out Tryz.underlying174 rfl Tryz.nodeSize) rfl ?_;exact⟨zA.set4 HS7.out.ext (.inl (Nat.le_refl _)) _ _ _ _,.inr ⟨HNE.out,f7,rfl,HE7.out.step (zA.set4 (zA.refl _ w7) (.inr (.inr ⟨Nat.le_refl _,by omega⟩)) _ _ _ _) (λk _ hn hf=>hn (.inl hf))⟩⟩
end
end
section
open Go.RowKit
def qH(p:zX):zJ ⊕ Err :=
 if p.kind=3\/p.kind=2 then (match zET (decide (p.kind=3)) p.body with|some n=>.inl n|none=>.inr ([zB2 p.id],5)) else .inr ([zB2 p.id],5)
def GA.load(G:GA)(id:Int):zJ ⊕ Err :=
 match G.get id with
 | .inr (l,k)=>.inr (-1 :: l,k)
 | .inl p=>match qH p with
  | .inl n=>.inl n
  | .inr (l,k)=>.inr (-1 :: l,k)
def GA.node(G:GA)(id:Nat):Option zJ:=if id<G.blocks then (match G.view id with
 | some (.inl p)=>(match qH p with | .inl n=>some n | .inr _=>none)
 | _=>none) else none
theorem GA.node_load{G:GA}{id:Nat}{n:zJ}(h:G.node id=some n):G.knows (id:Int)/\G.load (id:Int)=.inl n:=by
 unfold GA.node at h;split at h
 .rename_i hlt;split at h
  .rename_i p hp;refine⟨λ_=>⟨_,by rw[Int.toNat_natCast];exact hp⟩,?_⟩;unfold GA.load;rw[zK2 hlt hp];simp only;split at h
   .rename_i h1;injection h with h;subst h;rw[h1]
   .cases h
  .cases h
 .cases h
def GA.R(G:GA)(c s:Int):Option ByteArray:=match zB0 G c s with
 | none=>some ⟨((vO G s.toNat c s).1.flatMap (·.2)).toArray⟩
 | some _=>none
end
section
open Go.RowKit
attribute [local go_sem ↓] Go.wp_at_zero Go.wp_at_succ
section
variable {P P' F F':Nat->Prop}{ad:Nat->Addr}{w w':World}{c s:Nat}{G:GA}{l:List Nat}
theorem zEd(n:zJ)(ve vk vi:Value)(w:World)(hve:Sl F w 4 zAO ve n.entries)(hvk:Sl F w 1 vZ vk n.keys)(hb:zG n<=4611686018427387904)(z:Int)(hz : -4611686018427387904<=z)(hz2:z<=9223372036854775807) :
  Calls Tryz.prog 150 #[.agg #[.bool n.leaf,ve,vk,vi],.int .i64 z] w λe w'=>e=.returned (.bool (decide (zG n<=z-24)))/\zF w w':=by
 have HW:=λW (m:zF w W)=>zHT (vi:=vi) n ve vk W (hve.ext m) (hvk.ext m) hb
 obtain⟨ea,ec,rfl,_,_,_,_⟩:=hve;obtain⟨ka,kc,rfl,_,_,_,_⟩:=hvk;have HWL:=oh HW;have hz3:IntKind.i64.wrap (z-24)=z-24:=by rw[IntWalk.i64_in _ (by omega)]
 clear HW
 go_enter Tryz.func150, Tryz.ntmps150
 go_wp2_with fail;refine (HWL.out _ ?_).mono ?_
 .first|exact zA.refl _ _|exact (zA.refl _ _).alloc _
 rintro e w1 ⟨rfl,hm⟩;have HM:=oh hm;clear hm;go_wp2_with fail;go_ret;exact⟨rfl,by first|exact HM.out|exact ((zA.refl _ w).alloc _).trans HM.out⟩
theorem zDx[zW](h:jU F w P c s G l)(gen:Nat) : Calls Tryz.prog 151 #[pgV c s gen] w λe w'=>e=.returned (.int .i64 (G.size:Int))/\zF w w':=by
 unfold pgV;have m0:zF w (w.alloc (.cells #[.pointer (some ⟨c,0,none⟩),.pointer (some ⟨s,0,none⟩),.int .u64 (gen:Int)] 120)):=(zA.refl _ w).alloc _;obtain⟨d,HH,h1,h2⟩:=zPh (h.at m0);have gf1:=Tryz.geoF1;have H1:=oh h1;have H2:=oh h2;have M0:=oh m0;clear h1 h2 h m0
 go_enter Tryz.func151, Tryz.ntmps151
 go_wp2_with fail;refine H1.out.mono ?_;rintro e w1 ⟨rfl,rfl⟩;go_wp2_with fail;refine (H2.out _ (zA.refl _ _)).mono ?_;rintro e w2 ⟨rfl,hm⟩;have HM:=oh hm;clear hm;go_wp2_with fail;go_ret;exact⟨rfl,M0.out.trans HM.out⟩
def qP(G:GA)(l:List Nat)(old:Nat):GA :=
 if old=0\/vM l old=true then G else if vJ l=none then G else G.drop old
def vR(l:List Nat)(old:Nat):List Nat :=
 if old=0 then zAk l else if vM l old=true then l else match vJ l with
  | none=>l
  | some i=>(yR (l.set i 2) old).1
def vS(l:List Nat)(old:Nat):Option Nat:=if old≠0/\vM l old=true then some old else vJ l
def zHD(l:List Nat)(old:Nat):Prop:=old=0\/l[old]? = some 1\/l[old]? = some 2
def zRZ(ad:Nat->Addr)(o:Option Nat)(F':Nat->Prop)(w':World)(e:Ending):Prop :=
 (∃i,o=some i/\e=.returned (.tuple #[.int .i64 (i:Int),.nilIface]))\/(o=none/\∃f,e=.returned (.tuple #[.int .i64 0,zL f])/\vB F' ad w' (zL f) [-1] 3)
theorem zOX{l:List Nat}{i old:Nat}(hi:vJ l=some i)(h2:2<=old)(h1:l[old]? = some 1):(yR (l.set i 2) old).2=none:=by
 have hne:i≠old:=λe=>by
  have:=(zAF hi).1;rw[e,h1] at this;simp at this
 have hlt:=(List.getElem?_eq_some_iff.1 h1).1;have hc:qB (l.set i 2) (old:Int)=none:=by
  unfold qB;rw[if_neg (by rw[List.length_set];omega)]
 unfold yR;rw[hc];simp only[Int.toNat_natCast,List.getElem?_set_ne hne,h1];simp
theorem zOY[zW](hL:yG F ad w)(hP:∀k,P k->F k)(h:jU F w P c s G l)(gen old:Nat)(hok:zHD l old)(ho2:old=0\/2<=old)(hob:old<256) :
  Calls Tryz.prog 152 #[pgV c s gen,.int .i64 (old:Int)] w (zDX F P ad w c s (qP G l old) (vR l old) (zRZ ad (vS l old))):=by
 have m0:zF w (w.alloc (.cells #[.pointer (some ⟨c,0,none⟩),.pointer (some ⟨s,0,none⟩),.int .u64 (gen:Int)] 120)):=(zA.refl _ w).alloc _;have HB0:=oh (zH.new w #[.pointer (some ⟨c,0,none⟩),.pointer (some ⟨s,0,none⟩),.int .u64 (gen:Int)] 120);have HM0:=oh m0;have HP:=oh hP;have HG:=oh (h.at m0);have HL:=oh (hL.mods m0.ext);have HN0:Hid (zY P P F F ad w _):=oh (zY.ext hL hP m0);have HBP:Hid (¬ P w.heap.size):=oh (λhp=>by have:=h.bd _ hp;omega);have HOK:=oh hok;clear hL hP h m0 hok;unfold pgV;by_cases hz:old=0
 .subst hz;have HT:=oh (zMK HL.out HP.out HG.out);have HE:Hid (qP G l 0=G/\vR l 0=zAk l/\vS l 0=vJ l):=oh ⟨by unfold qP;rw[if_pos (.inl rfl)],by unfold vR;rw[if_pos rfl],by unfold vS;rw[if_neg (by simp)]⟩;clear ho2 hob
  go_enter Tryz.func152, Tryz.ntmps152
  go_wp2_with fail;refine HT.out.mono ?_;rintro e w1 ⟨P1,F1,hG1,hN1,hr⟩;have HG1:=oh hG1;have HN1:=oh hN1;clear hG1 hN1;rcases hr with ⟨i,hi,hil,rfl⟩|⟨hi,f,rfl,hE⟩
  .have HI:=oh hi;clear hi;go_wp2_with fail;go_ret2
   refine⟨P1,F1,?_,HN0.out.trans HN1.out,?_⟩
   .rw[HE.out.1,HE.out.2.1];exact HG1.out
   .rw[HE.out.2.2];exact .inl ⟨i,HI.out,rfl⟩
  .have HI:=oh hi;have HEE:=oh hE;clear hi hE;go_wp2_with fail;go_ret2
   refine⟨P1,F1,?_,HN0.out.trans HN1.out,?_⟩
   .rw[HE.out.1,HE.out.2.1];exact HG1.out
   .rw[HE.out.2.2];exact .inr ⟨HI.out,f,rfl,HEE.out⟩
 .have hz1:¬ (old:Int)=0:=by omega
  have h2:2<=old:=by omega
  have HF:=oh (zQn HG.out (old:Int));cases hfr:vM l (old:Int) with
  | true =>
   rw[hfr] at HF;have HE:Hid (qP G l old=G/\vR l old=l/\vS l old=some old):=oh ⟨by unfold qP;rw[if_pos (.inr hfr)],by unfold vR;rw[if_neg hz,if_pos hfr],by unfold vS;rw[if_pos ⟨hz,hfr⟩]⟩;clear hfr hz ho2
   go_enter Tryz.func152, Tryz.ntmps152
   go_wp2_with fail;refine HF.out.mono ?_;rintro e w1 ⟨rfl,rfl⟩;go_wp2_with fail;go_ret2
   refine⟨P,F,?_,HN0.out,?_⟩
   .rw[HE.out.1,HE.out.2.1];exact HG.out
   .rw[HE.out.2.2];exact .inl ⟨old,rfl,rfl⟩
  | false =>
   rw[hfr] at HF;have h1:l[old]? = some 1:=by
    rcases HOK.out with h|h|h
    .exact absurd h hz
    .exact h
    .unfold vM at hfr;rw[Int.toNat_natCast,h] at hfr;simp at hfr
   have HE:Hid (qP G l old=(if vJ l=none then G else G.drop old)/\vR l old=(match vJ l with|none=>l|some i=>(yR (l.set i 2) old).1)/\vS l old=vJ l):=oh
    ⟨by unfold qP;rw[if_neg (by rw[hfr];simp[hz])],by unfold vR;rw[if_neg hz,if_neg (by rw[hfr];simp)],by unfold vS;rw[if_neg (by rw[hfr];simp)]⟩
   have H1:=oh h1;have HT:=oh (zMK HL.out HP.out HG.out);clear hfr hz ho2 h1
   go_enter Tryz.func152, Tryz.ntmps152
   go_wp2_with fail;refine HF.out.mono ?_;rintro e w1 ⟨rfl,rfl⟩;go_wp2_with fail;refine HT.out.mono ?_;rintro e w1 ⟨P1,F1,hG1,hN1,hr⟩;have HB1:=oh (hN1.blk HB0.out HBP.out);have HBP1:Hid (¬ P1 w.heap.size):=oh (hN1.not HB0.out.lt HBP.out);have HG1:=oh hG1;have HN1:=oh (HN0.out.trans hN1);clear hG1 hN1;rcases hr with ⟨i,hi,hil,rfl⟩|⟨hi,f,rfl,hE⟩
   .have HTK:Hid (zAk l=l.set i 2):=oh (by unfold zAk;rw[hi]);have HGV:Hid ((yR (zAk l) (old:Int)).2=none):=oh (by rw[HTK.out];exact zOX hi h2 H1.out);have HI:=oh hi;clear hi;have b0:=HB1.out.cell (o:=0) (v:=.pointer (some ⟨c,0,none⟩)) rfl;go_wp2_with fail;refine (zPf HN1.out.env HN1.out.sub HG1.out old).mono ?_;rintro e w2 ⟨P2,F2,hG2,hN2,bb,rfl⟩;have HB2:=oh (hN2.blk HB1.out HBP1.out);have b1:=HB2.out.cell (o:=1) (v:=.pointer (some ⟨s,0,none⟩)) rfl;have HG2:=oh hG2;have HN2:=oh (HN1.out.trans hN2);clear hG2 hN2;go_wp2_with fail;refine (zPg HN2.out.env HN2.out.sub HG2.out (old:Int)).mono ?_;rintro e w3 ⟨P3,F3,hG3,hN3,ev,rfl,hev⟩;rw[HGV.out] at hev;cases hev
    have HG3:=oh hG3;have HN3:=oh (HN2.out.trans hN3);clear hG3 hN3;go_wp2_with fail;go_ret2
    refine⟨P3,F3,?_,HN3.out,?_⟩
    .rw[HE.out.1,HE.out.2.1,HI.out,if_neg (by simp)];simp only;rw[<- HTK.out];exact HG3.out
    .rw[HE.out.2.2];exact .inl ⟨i,HI.out,rfl⟩
   .have HI:=oh hi;have HEE:=oh hE;clear hi hE;go_wp2_with fail;go_ret2
    refine⟨P1,F1,?_,HN1.out,?_⟩
    .rw[HE.out.1,HE.out.2.1,HI.out,if_pos rfl];have:zAk l=l:=by unfold zAk;rw[HI.out]
     rw[<- this];exact HG1.out
    .rw[HE.out.2.2];exact .inr ⟨HI.out,f,rfl,HEE.out⟩
end
end
section
open Go.RowKit
theorem zFl(k:ByteArray):inB e0 none k:=by
 refine⟨?_,λh hh=>by cases hh⟩;unfold ltS;have:e0.toList=[]:=by simp[ByteArray.toList_eq]
 rw[this];cases k.toList <;> rfl
structure WkS where
 pages:List Int
 keys:List ByteArray
 depth:Nat
variable {G:GA}{gen:Nat}{st st1:WkS}{id:Int}{p:zX}
theorem zDy:∀(n:Nat) (l:List Int),l.Nodup->(∀i∈l,0<=i/\i<(n:Int))->l.length<=n
 | 0,[],_,_=>Nat.le_refl _
 | 0,i :: l,_,h=>by have:=h i List.mem_cons_self;omega
 | n+1,l,hn,h=>by
  by_cases hm:(n:Int)∈l
  .have h1:=zDy n (l.erase (n:Int)) (hn.erase _) (λi hi=>by
    rw[hn.mem_erase_iff] at hi;have:=h i hi.2;have:=hi.1;omega)
   rw[List.length_erase_of_mem hm] at h1;omega
  .have:=zDy n l hn (λi hi=>by
    have h1:=h i hi;have h2:i≠(n:Int):=λe=>hm (e ▸ hi)
    omega)
   omega
theorem zNR(s:ByteArray)(w:World)(b:Bool)(h:zAE s=b) : Calls Tryz.prog 49 #[.string s] w λe w'=>e=.returned (.bool b)/\w=w':=by
 have:=zOW s w;rw[h] at this;exact this
end
end Go.Proofs.YteabpacpngaoaaaGreatDoor
