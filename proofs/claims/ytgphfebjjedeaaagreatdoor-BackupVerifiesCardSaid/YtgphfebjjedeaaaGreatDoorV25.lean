import Derived.Test.YtgphfebjjedeaaaGreatDoorV23
import Derived.Test.YtgphfebjjedeaaaGreatDoorV21
import Derived.BigQuiet
import Derived.IntWalk
import Derived.OwnWalk
namespace Go.Proofs.YtgphfebjjedeaaaGreatDoor
open Lib renaming hid->oh
set_option maxHeartbeats 8000000
set_option maxRecDepth 100000
section
open Go.RowKit
theorem zOH(s:ByteArray)(w:World)(b:Bool)(h:qP s=b) : Calls Tryz.prog 108 #[.string s] w λe w'=>e=.returned (.bool b)/\w=w':=by
 have:=zJb s w;rw[h] at this;exact this
end
section
open Go.RowKit
attribute [local go_sem ↓] Go.wp_at_zero Go.wp_at_succ
section
variable {F:NP}{ad:Nat->Addr}{w w':World}{B:Nat}{v:Value}{l:List UInt8}{p:Nat}{ok:Bool}
theorem zTF(a b:Nat):((a:Int) == (b:Int))=decide (a=b):=by
 by_cases h:a=b
 .subst h;simp
 .have h2:¬ (a:Int)=(b:Int):=by omega
  rw[uX h];exact beq_false_of_ne h2
theorem zQ3(hL:yE F ad w)(op:ByteArray) : Calls Tryz.prog 128 #[.string op] w λe w'=>∃f,e=.returned (zI f)/\yN F ad w' (zI f) [-1] 1/\zG w w':=by
 have g1:=hL.c1;have HL:=oh hL;clear hL
 go_enter Tryz.func128, Tryz.ntmps128
 go_wp2_with fail;refine (yR HL.out _ _ [] 1 (.sent 1 (by decide) (by decide))).mono ?_;rintro e w1 ⟨f,rfl,hE,hm⟩;have HE:=oh hE;have HM:=oh hm;clear hE hm;go_wp2_with fail;go_ret;exact⟨f,rfl,HE.out,HM.out⟩
theorem zQ4(h:BrR F w B v l p ok) : Calls Tryz.prog 141 #[.pointer (some ⟨B,0,none⟩)] w λe w'=>e=.returned (.bool (ok && decide (p=l.length)))/\zG w w':=by
 obtain⟨ev,hB,hS,hO⟩:=h;obtain⟨a,c,rfl, -⟩:=hS;have b0:=hB.d 0 (.slice a l.length c) rfl;have b1:=hB.d 1 (.int .i64 (p:Int)) rfl;have b2:=hB.d 2 ev rfl;have HD:=oh (zTF p l.length);have HM:Hid (∀q,zG w (w.drewN q)):=oh λq=>(zA.refl (λ_=>False) w).drewN q
 have hbl:=hB.lt;clear hB;cases ok with
 | true =>
  have h0:ev=.nilIface:=hO;subst h0
  go_enter Tryz.func141, Tryz.ntmps141
  go_wp2_with fail;go_quiet (fail)
  go_wp2_with fail;go_ret;exact⟨by simp[HD.out],HM.out _⟩
 | false =>
  obtain⟨f,rfl⟩:=hO;unfold zI at b2
  go_enter Tryz.func141, Tryz.ntmps141
  go_wp2_with fail;go_quiet (fail)
  go_wp2_with fail;go_ret;exact⟨rfl,HM.out _⟩
theorem zPO(bv:Value)(l:List UInt8)(hb:Sl F w 1 zO bv l)(n:Nat) : Calls Tryz.prog 210 #[bv,.int .u32 (n:Int)] w λe w'=>e=.returned (.bool (decide (qR l=n)))/\w=w':=by
 have HC:=oh (zKI bv l w hb);obtain⟨cs,hcs⟩:∃cs,cs=qR l:=⟨_,rfl⟩;rw[<- hcs] at HC ⊢;obtain⟨a,c,rfl, -⟩:=hb;clear hcs;have HD:=oh (zTF cs n)
 go_enter Tryz.func210, Tryz.ntmps210
 go_wp2_with fail;refine HC.out.mono ?_;rintro e w1 ⟨rfl,rfl⟩;go_wp2_with fail;go_ret;exact⟨by rw[HD.out];rfl,rfl⟩
theorem zPP(bv:Value)(l:List UInt8)(hb:Sl F w 1 zO bv l)(h4:4<=l.length)(hlen:l.length<=2000000000) :
  Calls Tryz.prog 139 #[bv] w λe w'=>∃B v,e=.returned (.pointer (some ⟨B,0,none⟩))/\BrR (yD F B) w' B v (l.take (l.length-4)) 25 true/\zG w w'/\w.heap.size<=B/\B<w'.heap.size:=by
 obtain⟨a,c,rfl,hz1,hz2,hz3,hz4⟩:=id hb;unfold maxLen at hz2;have hsl:=Sl.pre hb (l.length-4) (by omega);have m0:zG w (w.alloc (.cells #[.slice a (l.length-4) c,.int .i64 25,.nilIface] 229)):=(zss w).alloc _;have HF:Hid (∃v,BrR (yD F w.heap.size) (w.alloc (.cells #[.slice a (l.length-4) c,.int .i64 25,.nilIface] 229)) w.heap.size v (l.take (l.length-4)) 25 true):=oh ⟨_,_,zK.new w _ _,hsl.withR m0,rfl⟩;have HM:=oh m0;have i1:((l.length:Int)-4).toNat=l.length-4:=by omega
 have i2:(4:Int)<=(l.length:Int):=by omega
 have i3:(l.length:Int)<=(c:Int):=by omega
 clear hb hz4 hsl m0
 go_enter Tryz.func139, Tryz.ntmps139
 go_wp2_with fail;go_ret;obtain⟨v,hv⟩:=HF.out;exact⟨w.heap.size,v,rfl,hv,HM.out,uJ _,by simp⟩
end
end
section
open Go.RowKit
theorem zB2:zCg zDA 5:=⟨λ_=>rfl,by intro x u hu;simp[zDA] at hu;rcases hu with rfl|rfl|rfl|rfl|rfl <;> rfl⟩
theorem Tryz.mkCh:(Tryz.prog.info? 154).map (λi=>(i.zero,i.size,i.bytes))=some (some (.agg #[.string ⟨#[]⟩,.bool false,.bool false,.string ⟨#[]⟩,.string ⟨#[]⟩]),5,56):=by kernel_rfl
theorem Tryz.elCh:ElT Tryz.prog 152 154 (.agg #[.string ⟨#[]⟩,.bool false,.bool false,.string ⟨#[]⟩,.string ⟨#[]⟩]) 5 56:=⟨Tryz.underlying152,Tryz.mkCh,rfl,by decide,by decide⟩
theorem Tryz.mkDh:(Tryz.prog.info? 56).map (λi=>(i.zero,i.size,i.bytes))=some (some (.agg #[.string ⟨#[]⟩,.bool false,.bool false,.string ⟨#[]⟩,.string ⟨#[]⟩]),5,56):=by kernel_rfl
theorem Tryz.elDh:ElT Tryz.prog 53 56 (.agg #[.string ⟨#[]⟩,.bool false,.bool false,.string ⟨#[]⟩,.string ⟨#[]⟩]) 5 56:=⟨Tryz.underlying53,Tryz.mkDh,rfl,by decide,by decide⟩
end
section
open Go.RowKit
attribute [local go_sem ↓] Go.wp_at_zero Go.wp_at_succ
section
variable {F:NP}{ad:Nat->Addr}{w w':World}
theorem Sl.tl{α:Type}{sz:Nat}{enc:α->List Value}{b off n c:Nat}{x:α}{l:List α}(h:Sl F w sz enc (.slice (some ⟨b,off,none⟩) n c) (x :: l)) :
  (c=1->Sl F w sz enc (.slice (some ⟨b,off,none⟩) (n-1) (c-1)) l)/\(¬ c=1->Sl F w sz enc (.slice (some ⟨b,off+sz,none⟩) (n-1) (c-1)) l):=by
 obtain⟨a,cap,he,h1,h2,h3,h4⟩:=id h;simp only[Value.slice.injEq] at he;obtain⟨rfl,rfl,rfl⟩:=he;rw[uD] at h1 h3;refine⟨λhc=>?_,λhc=>?_⟩
 .have hl:l=[]:=rY.1 (by omega);subst hl;exact⟨some ⟨b,off,none⟩,c-1,by simp,by simp,by unfold maxLen at *;omega,by simp,.inl rfl⟩
 .have:=Sl.sub h 1 (l.length+1) (by omega) (by simp);simpa using this
theorem zSj(a b:List zE)(av bv:Value)(ha:Sl F w 2 vI av a)(hb:Sl F w 2 vI bv b)(hla:a.length<=100000)(hlb:b.length<=100000) :
  Calls Tryz.prog 80 #[av,bv] w λe w'=>∃kv,e=.returned kv/\yA (λ_=>False) w' w.heap.size 154 5 zDA kv (vD a b)/\zG w w':=by
 have HA:=oh ha;have HB:=oh hb;obtain⟨aa,ac,rfl,a1,a2,a3, -⟩:=ha;obtain⟨ba,bc,rfl,b1,b2,b3, -⟩:=hb;unfold maxLen at a2 b2
 go_enter Tryz.func80, Tryz.ntmps80
 go_wp2_with fail;go_loopg [0,1,5] (a.length+b.length) (λm v0 v1 v5 wr=>∃(xs ys:List zE) (o:List ChV),xs.length+ys.length=m/\Hid (vD a b=o++vD xs ys/\o.length+xs.length+ys.length<=200000)/\Hid (Sl F w 2 vI v0 xs/\Sl F w 2 vI v1 ys/\yA (λ_=>False) wr w.heap.size 154 5 zDA v5 o/\zG w wr))
 case atStart=>exact⟨a,b,[],rfl,oh ⟨by simp,by simp;omega⟩,oh ⟨HA.out,HB.out,yA.nil _ _ _ _ _ _,zA.refl _ _⟩⟩
 case round =>
  obtain⟨xs,ys,o,hm,HQ,HS⟩:=hrel;obtain⟨xa,xc,rfl,x1,x2,x3,x4⟩:=id HS.out.1;obtain⟨ya,yc,rfl,y1,y2,y3,y4⟩:=id HS.out.2.1;obtain⟨oa,oc,rfl, -, -⟩:=HS.out.2.2.1.form;unfold maxLen at x2 y2;clear HA HB a1 a2 a3 b1 b2 b3 x4 y4;cases xs with
  | nil =>
   cases ys with
   | nil =>
    go_wp2_with fail;go_ret;have h:=HQ.out.1;rw[vD,rZ,wJ] at h;exact⟨_,rfl,by rw[h];exact HS.out.2.2.1,HS.out.2.2.2⟩
   | cons y ys =>
    obtain⟨yb,yo,hya,hcy⟩:=HS.out.2.1.elem (k:=0) (by simp) (zss w);have yg0:=hcy 0 (.string y.1) rfl;have yg1:=hcy 1 (.string y.2) rfl;simp only[pA,uO] at yg0 yg1;subst hya;obtain⟨yk,yv⟩:=y;simp only at yg0 yg1;rw[uD] at y1 y3;have HTy:=oh (Sl.tl HS.out.2.1);rw[uD,uF];obtain⟨k,hk⟩:∃k,k=ys.length+1:=⟨_,rfl⟩;rw[<- hk] at y1 y3 ⊢;have Hk:=oh hk;rw[uD,<- hk] at HTy;have k1:(0:Int)<(k:Int):=by omega
    have k2:(1:Int)<=(k:Int):=by omega
    have k3:((k:Int) == 0)=false:=beq_false_of_ne (by omega);have k4:0<k:=by omega
    have k5:¬ k=0:=by omega
    clear hk hcy;go_wp2_with fail;go_quiet (fail)
    go_wp2_with fail;go_quiet (fail)
    go_wp2_with fail;generalize hw2:World.drewN (World.drewN wr _) _=w2
    have HM2:Hid (zG w w2):=oh (by rw[<- hw2];exact HS.out.2.2.2.trans (((zss wr).drewN _).drewN _));have HOW:Hid (yA (λ_=>False) w2 w.heap.size 154 5 zDA (.slice oa o.length oc) o):=oh (by rw[<- hw2];exact HS.out.2.2.1.ext (((zss wr).drewN _).drewN _));clear hw2;have f0:=zD (HM2.out.trans (zss w2).drew) yg0;have y0_:=zD (HM2.out.trans ((zss w2).alloc (.cells #[.string yk,.bool false,.bool true,.string ⟨#[]⟩,.string yv] 154)).drew) yg0;have f1:=zD (HM2.out.trans (zss w2).drew) yg1;have y1_:=zD (HM2.out.trans ((zss w2).alloc (.cells #[.string yk,.bool false,.bool true,.string ⟨#[]⟩,.string yv] 154)).drew) yg1;go_region_held3 (λw'=>w'.cell? ⟨yb,yo,none⟩=some (.string yk)/\w'.cell? ⟨yb,yo+1,none⟩=some (.string yv))
     (first|(with_reducible exact⟨f0,f1⟩)|(with_reducible exact⟨y0_,y1_⟩)|(with_reducible exact⟨z0,z1⟩)|go_keep)
     (first
      | (refine zBU Tryz.elCh zB2 (by rfl) _ _ (by rfl) w.heap.size _ _ o [(⟨yk,false,true,emS,yv⟩:ChV)] (by rfl) (by rfl) (HOW.out.ext (by first|exact ((zss w2).alloc _).drew|exact ((zss w2).drew).alloc _)) (Sl.one (F:=λ_=>False) (zM (by simp)) (λf=>f)) (by have:=HQ.out.2;simp only[uD,uF];omega) (by have:=HM2.out.size;simp;omega) (λf=>f) ?_;simp only[uD,uF,uV];intro a6 c6 w6 hO6 hm6 hat6;have m6:zG w w6:=(HM2.out.trans (((zss w2).alloc (.cells #[.string yk,.bool false,.bool true,.string ⟨#[]⟩,.string yv] 154)).drew)).trans' hm6 (λj hj h=>absurd (HOW.out.lt j h).1 (by omega));have z0:=zD m6 yg0;have z1:=zD m6 yg1)
      | fail)
    all_goals
     have HO6:=oh hO6;have HM6:=oh m6;clear hO6 hm6 hat6 m6 z0 f0 y0_ z1 f1 y1_;go_wp2_with fail
    all_goals
     go_roundg (([]:List zE).length+ys.length)
     case measure=>simp only[uD,uF] at hm ⊢;omega
     case rel=>exact⟨([]:List zE),ys,o++[⟨yk,false,true,emS,yv⟩],rfl,oh ⟨by rw[HQ.out.1];simp[vD,zMn],by have:=HQ.out.2;simp only[uD,uF,uC] at this ⊢;omega⟩,oh ⟨HS.out.1,(by first|exact HTy.out.2 (by assumption)|(have e:yc=1:=(by assumption);have q:=HTy.out.1 e;rw[e] at q;exact q)),HO6.out,HM6.out⟩⟩
  | cons x xs =>
   obtain⟨xb,xo,hxa,hcx⟩:=HS.out.1.elem (k:=0) (by simp) (zss w);have xg0:=hcx 0 (.string x.1) rfl;have xg1:=hcx 1 (.string x.2) rfl;simp only[pA,uO] at xg0 xg1;subst hxa;obtain⟨xk,xv⟩:=x;simp only at xg0 xg1;rw[uD] at x1 x3;have HTx:=oh (Sl.tl HS.out.1);cases ys with
   | nil =>
    rw[uD,uF];obtain⟨n,hn⟩:∃n,n=xs.length+1:=⟨_,rfl⟩;rw[<- hn] at x1 x3 ⊢;have Hn:=oh hn;rw[uD,<- hn] at HTx;have n1:(0:Int)<(n:Int):=by omega
    have n2:(1:Int)<=(n:Int):=by omega
    have n3:((n:Int) == 0)=false:=beq_false_of_ne (by omega);have n4:0<n:=by omega
    have n5:¬ n=0:=by omega
    clear hn hcx;go_wp2_with fail;go_quiet (fail)
    go_wp2_with fail;generalize hw2:World.drewN wr _=w2
    have HM2:Hid (zG w w2):=oh (by rw[<- hw2];exact HS.out.2.2.2.trans ((zss wr).drewN _));have HOW:Hid (yA (λ_=>False) w2 w.heap.size 154 5 zDA (.slice oa o.length oc) o):=oh (by rw[<- hw2];exact HS.out.2.2.1.ext ((zss wr).drewN _));clear hw2;have f0:=zD (HM2.out.trans (zss w2).drew) xg0;have y0_:=zD (HM2.out.trans ((zss w2).alloc (.cells #[.string xk,.bool true,.bool false,.string xv,.string ⟨#[]⟩] 154)).drew) xg0;have f1:=zD (HM2.out.trans (zss w2).drew) xg1;have y1_:=zD (HM2.out.trans ((zss w2).alloc (.cells #[.string xk,.bool true,.bool false,.string xv,.string ⟨#[]⟩] 154)).drew) xg1;go_region_held3 (λw'=>w'.cell? ⟨xb,xo,none⟩=some (.string xk)/\w'.cell? ⟨xb,xo+1,none⟩=some (.string xv))
     (first|(with_reducible exact⟨f0,f1⟩)|(with_reducible exact⟨y0_,y1_⟩)|(with_reducible exact⟨z0,z1⟩)|go_keep)
     (first
      | (refine zBU Tryz.elCh zB2 (by rfl) _ _ (by rfl) w.heap.size _ _ o [(⟨xk,true,false,xv,emS⟩:ChV)] (by rfl) (by rfl) (HOW.out.ext (by first|exact ((zss w2).alloc _).drew|exact ((zss w2).drew).alloc _)) (Sl.one (F:=λ_=>False) (zM (by simp)) (λf=>f)) (by have:=HQ.out.2;simp only[uD,uF];omega) (by have:=HM2.out.size;simp;omega) (λf=>f) ?_;simp only[uD,uF,uV];intro a6 c6 w6 hO6 hm6 hat6;have m6:zG w w6:=(HM2.out.trans (((zss w2).alloc (.cells #[.string xk,.bool true,.bool false,.string xv,.string ⟨#[]⟩] 154)).drew)).trans' hm6 (λj hj h=>absurd (HOW.out.lt j h).1 (by omega));have z0:=zD m6 xg0;have z1:=zD m6 xg1)
      | fail)
    all_goals
     have HO6:=oh hO6;have HM6:=oh m6;clear hO6 hm6 hat6 m6 z0 f0 y0_ z1 f1 y1_;go_wp2_with fail
    all_goals
     go_roundg (xs.length+([]:List zE).length)
     case measure=>simp only[uD,uF] at hm ⊢;omega
     case rel=>exact⟨xs,([]:List zE),o++[⟨xk,true,false,xv,emS⟩],rfl,oh ⟨by rw[HQ.out.1];simp[vD,zK1],by have:=HQ.out.2;simp only[uD,uF,uC] at this ⊢;omega⟩,oh ⟨(by first|exact HTx.out.2 (by assumption)|(have e:xc=1:=(by assumption);have q:=HTx.out.1 e;rw[e] at q;exact q)),HS.out.2.1,HO6.out,HM6.out⟩⟩
   | cons y ys =>
    obtain⟨yb,yo,hya,hcy⟩:=HS.out.2.1.elem (k:=0) (by simp) (zss w);have yg0:=hcy 0 (.string y.1) rfl;have yg1:=hcy 1 (.string y.2) rfl;simp only[pA,uO] at yg0 yg1;subst hya;obtain⟨yk,yv⟩:=y;simp only at yg0 yg1;rw[uD] at y1 y3;have HTy:=oh (Sl.tl HS.out.2.1);rw[uD,uD];obtain⟨n,hn⟩:∃n,n=xs.length+1:=⟨_,rfl⟩;rw[<- hn] at x1 x3 ⊢;have Hn:=oh hn;rw[uD,<- hn] at HTx;have n1:(0:Int)<(n:Int):=by omega
    have n2:(1:Int)<=(n:Int):=by omega
    have n3:((n:Int) == 0)=false:=beq_false_of_ne (by omega);have n4:0<n:=by omega
    have n5:¬ n=0:=by omega
    clear hn hcx;obtain⟨k,hk⟩:∃k,k=ys.length+1:=⟨_,rfl⟩;rw[<- hk] at y1 y3 ⊢;have Hk:=oh hk;rw[uD,<- hk] at HTy;have k1:(0:Int)<(k:Int):=by omega
    have k2:(1:Int)<=(k:Int):=by omega
    have k3:((k:Int) == 0)=false:=beq_false_of_ne (by omega);have k4:0<k:=by omega
    have k5:¬ k=0:=by omega
    clear hk hcy;have x0:=zD HS.out.2.2.2 xg0;have y0:=zD HS.out.2.2.2 yg0;cases h1:qH xk yk with
    | true =>
     have HD:Hid (vD ((xk,xv) :: xs) ((yk,yv) :: ys)=⟨xk,true,false,xv,emS⟩ :: vD xs ((yk,yv) :: ys)):=oh (by rw[vD,if_pos h1];rfl);have h2:Op.bytesLess xk.toList yk.toList=true:=h1;clear h1;go_wp2_with fail;go_quiet (fail)
     go_wp2_with fail;clear h2 x0 y0;generalize hw2:World.drewN wr _=w2
     have HM2:Hid (zG w w2):=oh (by rw[<- hw2];exact HS.out.2.2.2.trans ((zss wr).drewN _));have HOW:Hid (yA (λ_=>False) w2 w.heap.size 154 5 zDA (.slice oa o.length oc) o):=oh (by rw[<- hw2];exact HS.out.2.2.1.ext ((zss wr).drewN _));clear hw2;have f0:=zD (HM2.out.trans (zss w2).drew) xg0;have y0_:=zD (HM2.out.trans ((zss w2).alloc (.cells #[.string xk,.bool true,.bool false,.string xv,.string ⟨#[]⟩] 154)).drew) xg0;have f1:=zD (HM2.out.trans (zss w2).drew) xg1;have y1_:=zD (HM2.out.trans ((zss w2).alloc (.cells #[.string xk,.bool true,.bool false,.string xv,.string ⟨#[]⟩] 154)).drew) xg1;go_region_held3 (λw'=>w'.cell? ⟨xb,xo,none⟩=some (.string xk)/\w'.cell? ⟨xb,xo+1,none⟩=some (.string xv))
      (first|(with_reducible exact⟨f0,f1⟩)|(with_reducible exact⟨y0_,y1_⟩)|(with_reducible exact⟨z0,z1⟩)|go_keep)
      (first
       | (refine zBU Tryz.elCh zB2 (by rfl) _ _ (by rfl) w.heap.size _ _ o [(⟨xk,true,false,xv,emS⟩:ChV)] (by rfl) (by rfl) (HOW.out.ext (by first|exact ((zss w2).alloc _).drew|exact ((zss w2).drew).alloc _)) (Sl.one (F:=λ_=>False) (zM (by simp)) (λf=>f)) (by have:=HQ.out.2;simp only[uD,uF];omega) (by have:=HM2.out.size;simp;omega) (λf=>f) ?_;simp only[uD,uF,uV];intro a6 c6 w6 hO6 hm6 hat6;have m6:zG w w6:=(HM2.out.trans (((zss w2).alloc (.cells #[.string xk,.bool true,.bool false,.string xv,.string ⟨#[]⟩] 154)).drew)).trans' hm6 (λj hj h=>absurd (HOW.out.lt j h).1 (by omega));have z0:=zD m6 xg0;have z1:=zD m6 xg1)
       | fail)
     all_goals
      have HO6:=oh hO6;have HM6:=oh m6;clear hO6 hm6 hat6 m6 z0 f0 y0_ z1 f1 y1_;go_wp2_with fail
     all_goals
      go_roundg (xs.length+((yk,yv) :: ys).length)
      case measure=>simp only[uD] at hm ⊢;omega
      case rel=>exact⟨xs,((yk,yv) :: ys),o++[⟨xk,true,false,xv,emS⟩],rfl,oh ⟨by rw[HQ.out.1,HD.out];simp,by have:=HQ.out.2;simp only[uD,uF,uC] at this ⊢;omega⟩,oh ⟨(by first|exact HTx.out.2 (by assumption)|(have e:xc=1:=(by assumption);have q:=HTx.out.1 e;rw[e] at q;exact q)),(by have h:=HS.out.2.1;rw[uD,<- Hk.out] at h;exact h),HO6.out,HM6.out⟩⟩
    | false =>
     have h2:Op.bytesLess xk.toList yk.toList=false:=h1;cases h3:qH yk xk with
     | true =>
      have HD:Hid (vD ((xk,xv) :: xs) ((yk,yv) :: ys)=⟨yk,false,true,emS,yv⟩ :: vD ((xk,xv) :: xs) ys):=oh (by rw[vD,if_neg (by rw[h1];simp),if_pos h3];rfl);have h4:Op.bytesLess yk.toList xk.toList=true:=h3;clear h1 h3;go_wp2_with fail;go_quiet (fail)
      go_wp2_with fail;go_quiet (fail)
      go_wp2_with fail;clear h2 h4 x0 y0;generalize hw2:World.drewN (World.drewN wr _) _=w2
      have HM2:Hid (zG w w2):=oh (by rw[<- hw2];exact HS.out.2.2.2.trans (((zss wr).drewN _).drewN _));have HOW:Hid (yA (λ_=>False) w2 w.heap.size 154 5 zDA (.slice oa o.length oc) o):=oh (by rw[<- hw2];exact HS.out.2.2.1.ext (((zss wr).drewN _).drewN _));clear hw2;have f0:=zD (HM2.out.trans (zss w2).drew) yg0;have y0_:=zD (HM2.out.trans ((zss w2).alloc (.cells #[.string yk,.bool false,.bool true,.string ⟨#[]⟩,.string yv] 154)).drew) yg0;have f1:=zD (HM2.out.trans (zss w2).drew) yg1;have y1_:=zD (HM2.out.trans ((zss w2).alloc (.cells #[.string yk,.bool false,.bool true,.string ⟨#[]⟩,.string yv] 154)).drew) yg1;go_region_held3 (λw'=>w'.cell? ⟨yb,yo,none⟩=some (.string yk)/\w'.cell? ⟨yb,yo+1,none⟩=some (.string yv))
       (first|(with_reducible exact⟨f0,f1⟩)|(with_reducible exact⟨y0_,y1_⟩)|(with_reducible exact⟨z0,z1⟩)|go_keep)
       (first
        | (refine zBU Tryz.elCh zB2 (by rfl) _ _ (by rfl) w.heap.size _ _ o [(⟨yk,false,true,emS,yv⟩:ChV)] (by rfl) (by rfl) (HOW.out.ext (by first|exact ((zss w2).alloc _).drew|exact ((zss w2).drew).alloc _)) (Sl.one (F:=λ_=>False) (zM (by simp)) (λf=>f)) (by have:=HQ.out.2;simp only[uD,uF];omega) (by have:=HM2.out.size;simp;omega) (λf=>f) ?_;simp only[uD,uF,uV];intro a6 c6 w6 hO6 hm6 hat6;have m6:zG w w6:=(HM2.out.trans (((zss w2).alloc (.cells #[.string yk,.bool false,.bool true,.string ⟨#[]⟩,.string yv] 154)).drew)).trans' hm6 (λj hj h=>absurd (HOW.out.lt j h).1 (by omega));have z0:=zD m6 yg0;have z1:=zD m6 yg1)
        | fail)
      all_goals
       have HO6:=oh hO6;have HM6:=oh m6;clear hO6 hm6 hat6 m6 z0 f0 y0_ z1 f1 y1_;go_wp2_with fail
      all_goals
       go_roundg (((xk,xv) :: xs).length+ys.length)
       case measure=>simp only[uD] at hm ⊢;omega
       case rel=>exact⟨((xk,xv) :: xs),ys,o++[⟨yk,false,true,emS,yv⟩],rfl,oh ⟨by rw[HQ.out.1,HD.out];simp,by have:=HQ.out.2;simp only[uD,uF,uC] at this ⊢;omega⟩,oh ⟨(by have h:=HS.out.1;rw[uD,<- Hn.out] at h;exact h),(by first|exact HTy.out.2 (by assumption)|(have e:yc=1:=(by assumption);have q:=HTy.out.1 e;rw[e] at q;exact q)),HO6.out,HM6.out⟩⟩
     | false =>
      have h4:Op.bytesLess yk.toList xk.toList=false:=h3;have HKE:Hid (xk=yk):=oh (by rcases zEs xk yk with h|h|h;rw[h] at h1;cases h1;exact h;rw[h] at h3;cases h3);have x1':=zD HS.out.2.2.2 xg1;have y1':=zD HS.out.2.2.2 yg1;by_cases hv:xv=yv
      .have HD:Hid (vD ((xk,xv) :: xs) ((yk,yv) :: ys)=vD xs ys):=oh (by rw[vD,if_neg (by rw[h1];simp),if_neg (by rw[h3];simp),if_pos hv]);have h5:(xv.toList == yv.toList)=true:=by rw[hv];simp
       clear h1 h3 hv;go_wp2_with fail;go_quiet (fail)
       go_wp2_with fail;go_quiet (fail)
       go_wp2_with fail;go_quiet (fail)
       go_wp2_with fail;go_quiet (fail)
       have HX:Hid (∀W,zG wr W->zG w W):=oh (λW m=>HS.out.2.2.2.trans m);go_wp2_with fail;all_goals
        go_roundg (xs.length+ys.length)
        case measure=>simp only[uD] at hm ⊢;omega
        case rel=>exact⟨xs,ys,o,rfl,oh ⟨by rw[HQ.out.1,HD.out],by have:=HQ.out.2;simp only[uD] at this ⊢;omega⟩,oh ⟨(by first|exact HTx.out.2 (by assumption)|(have e:xc=1:=(by assumption);have q:=HTx.out.1 e;rw[e] at q;exact q)),(by first|exact HTy.out.2 (by assumption)|(have e:yc=1:=(by assumption);have q:=HTy.out.1 e;rw[e] at q;exact q)),HS.out.2.2.1.ext (by first|exact (zss wr).drewN _|exact ((((zss wr).drewN _).drewN _).drewN _).drewN _),HX.out _ (by first|exact (zss wr).drewN _|exact ((((zss wr).drewN _).drewN _).drewN _).drewN _)⟩⟩
      .have HD:Hid (vD ((xk,xv) :: xs) ((yk,yv) :: ys)=⟨yk,true,true,xv,yv⟩ :: vD xs ys):=oh (by rw[vD,if_neg (by rw[h1];simp),if_neg (by rw[h3];simp),if_neg hv,<- HKE.out];rfl);have h5:(xv.toList == yv.toList)=false:=uS.2 (λe=>hv (toList_inj e));clear h1 h3 hv;go_wp2_with fail;go_quiet (fail)
       go_wp2_with fail;go_quiet (fail)
       go_wp2_with fail;go_quiet (fail)
       go_wp2_with fail;clear h2 h4 h5 x0 y0 x1' y1';generalize hw2:World.drewN (World.drewN (World.drewN wr _) _) _=w2
       have HM2:Hid (zG w w2):=oh (by rw[<- hw2];exact HS.out.2.2.2.trans ((((zss wr).drewN _).drewN _).drewN _));have HOW:Hid (yA (λ_=>False) w2 w.heap.size 154 5 zDA (.slice oa o.length oc) o):=oh (by rw[<- hw2];exact HS.out.2.2.1.ext ((((zss wr).drewN _).drewN _).drewN _));clear hw2;have f0:=zD (HM2.out.trans (zss w2).drew) yg0;have y0_:=zD (HM2.out.trans ((zss w2).alloc (.cells #[.string yk,.bool true,.bool true,.string xv,.string yv] 154)).drew) yg0;have f1:=zD (HM2.out.trans (zss w2).drew) xg1;have y1_:=zD (HM2.out.trans ((zss w2).alloc (.cells #[.string yk,.bool true,.bool true,.string xv,.string yv] 154)).drew) xg1;have f2:=zD (HM2.out.trans (zss w2).drew) yg1;have y2_:=zD (HM2.out.trans ((zss w2).alloc (.cells #[.string yk,.bool true,.bool true,.string xv,.string yv] 154)).drew) yg1;go_region_held3 (λw'=>w'.cell? ⟨yb,yo,none⟩=some (.string yk)/\w'.cell? ⟨xb,xo+1,none⟩=some (.string xv)/\w'.cell? ⟨yb,yo+1,none⟩=some (.string yv))
        (first|(with_reducible exact⟨f0,f1,f2⟩)|(with_reducible exact⟨y0_,y1_,y2_⟩)|(with_reducible exact⟨z0,z1,z2⟩)|go_keep)
        (first
         | (refine zBU Tryz.elCh zB2 (by rfl) _ _ (by rfl) w.heap.size _ _ o [(⟨yk,true,true,xv,yv⟩:ChV)] (by rfl) (by rfl) (HOW.out.ext (by first|exact ((zss w2).alloc _).drew|exact ((zss w2).drew).alloc _)) (Sl.one (F:=λ_=>False) (zM (by simp)) (λf=>f)) (by have:=HQ.out.2;simp only[uD,uF];omega) (by have:=HM2.out.size;simp;omega) (λf=>f) ?_;simp only[uD,uF,uV];intro a6 c6 w6 hO6 hm6 hat6;have m6:zG w w6:=(HM2.out.trans (((zss w2).alloc (.cells #[.string yk,.bool true,.bool true,.string xv,.string yv] 154)).drew)).trans' hm6 (λj hj h=>absurd (HOW.out.lt j h).1 (by omega));have z0:=zD m6 yg0;have z1:=zD m6 xg1;have z2:=zD m6 yg1)
         | fail)
       all_goals
        have HO6:=oh hO6;have HM6:=oh m6;clear hO6 hm6 hat6 m6 z0 f0 y0_ z1 f1 y1_ z2 f2 y2_;go_wp2_with fail
       all_goals
        go_quiet (fail)
        go_wp2_with fail
       all_goals
        go_roundg (xs.length+ys.length)
        case measure=>simp only[uD] at hm ⊢;omega
        case rel=>exact⟨xs,ys,o++[⟨yk,true,true,xv,yv⟩],rfl,oh ⟨by rw[HQ.out.1,HD.out];simp,by have:=HQ.out.2;simp only[uD,uF,uC] at this ⊢;omega⟩,oh ⟨(by first|exact HTx.out.2 (by assumption)|(have e:xc=1:=(by assumption);have q:=HTx.out.1 e;rw[e] at q;exact q)),(by first|exact HTy.out.2 (by assumption)|(have e:yc=1:=(by assumption);have q:=HTy.out.1 e;rw[e] at q;exact q)),(by first|exact HO6.out.ext ((zss w6).drewN _)|exact HO6.out),(by first|exact HM6.out.trans ((zss w6).drewN _)|exact HM6.out)⟩⟩
end
section
variable {F:NP}{w w':World}
def Byt(w:World)(l:List UInt8)(e:Ending)(w':World):Prop:=∃v,e=.returned v/\yA (λ_=>False) w' w.heap.size 5 1 zO v l/\zG w w'
theorem zEy(bv:Value)(l:List UInt8)(hb:Sl F w 1 zO bv l)(n W:Nat)(hw:W=1\/W=2\/W=4\/W=8)(hn:n<256 ^ W)(h64:n<18446744073709551616)(hlen:l.length<=1000000000) :
  Calls Tryz.prog 125 #[bv,.int .u64 (n:Int),.int .i64 (W:Int)] w (Byt w (l++zV W n)):=by
 have HP:=oh (zO5 bv l hb n W hw hn h64 hlen);obtain⟨a,c,rfl, -⟩:=hb
 go_enter Tryz.func125, Tryz.ntmps125
 go_wp2_with fail;refine HP.out.mono ?_;rintro e w1 ⟨a1,c1,rfl,hO,hm⟩;have HF:Hid (yA (λ_=>False) w1 w.heap.size 5 1 zO (.slice a1 (l.length+W) c1) (l++zV W n)/\zG w w1):=oh ⟨hO,hm⟩;clear hO hm;go_wp2_with fail;go_ret;exact⟨_,rfl,HF.out.1,HF.out.2⟩
theorem zID(bv:Value)(l:List UInt8)(hb:Sl F w 1 zO bv l)(s:ByteArray)(hs:s.size<=65535)(hlen:l.length<=1000000000) :
  Calls Tryz.prog 69 #[bv,.string s] w (Byt w (l++zAl s)):=by
 have HP:=oh (zIx bv l hb s hs hlen);obtain⟨a,c,rfl, -⟩:=hb
 go_enter Tryz.func69, Tryz.ntmps69
 go_wp2_with fail;refine HP.out.mono ?_;rintro e w1 ⟨a1,c1,rfl,hO,hm⟩;have HF:Hid (yA (λ_=>False) w1 w.heap.size 5 1 zO (.slice a1 (l.length+2+s.size) c1) (l++zAl s)/\zG w w1):=oh ⟨hO,hm⟩;clear hO hm;go_wp2_with fail;go_ret;exact⟨_,rfl,HF.out.1,HF.out.2⟩
theorem Byt.sl{v:Value}{l:List UInt8}{b:Nat}(h:yA (λ_=>False) w b 5 1 zO v l)(hl:l.length<=1000000000):Sl (λ_=>False) w 1 zO v l:=h.sl yU.len (by omega)
theorem zPQ(bv:Value)(l:List UInt8)(hb:Sl F w 1 zO bv l)(hlen:l.length<=1000000000) :
  Calls Tryz.prog 70 #[bv] w (Byt w (zEG l)):=by
 have HS:=oh (zJE bv l w hb);have HP:=oh (λW (m:zG w W)=>zEy bv l (hb.ext m) (qR l) 4 (by decide) (zBi l) (by have:=zBi l;omega) hlen);have HE:=oh (show zEG l=l++zV 4 (qR l) from rfl);have hcl:=zBi l;obtain⟨cs,hcs⟩:∃cs,cs=qR l:=⟨_,rfl⟩;rw[<- hcs] at HS HP HE hcl;have ec:IntKind.u64.wrap (cs:Int)=(cs:Int):=IntWalk.u64_in _ (by omega);obtain⟨a,c,rfl, -⟩:=hb;clear hcs
 go_enter Tryz.func70, Tryz.ntmps70
 go_wp2_with fail;refine HS.out.mono ?_;rintro e w1 ⟨rfl,hm⟩;have HM:=oh hm;clear hm;go_wp2_with fail;refine (HP.out _ HM.out).mono ?_;rintro e w2 ⟨v2,rfl,hO,hm2⟩;have HF:Hid (yA (λ_=>False) w2 w.heap.size 5 1 zO v2 (l++zV 4 cs)/\zG w w2):=oh ⟨hO.rebase HM.out.size,HM.out.trans hm2⟩;clear hO hm2;go_wp2_with fail;go_ret;rw[HE.out];exact⟨v2,rfl,HF.out.1,HF.out.2⟩
theorem zQ5{W:World}{G:NP}{b:Nat}{fz:Nat × Nat}(h:W.heap[b]? = some (.cells #[.int .u8 83,.int .u8 67,.int .u8 82,.int .u8 49] 5 fz))(hF:¬ G b):Sl G W 1 zO (.slice (some ⟨b,0,none⟩) 4 4) jB:=by
 refine⟨_,4,rfl,by decide,by simp[maxLen],by decide,.inr ⟨b,0,rfl,(tA.1 h).1,hF,λi z hi j u hu=>?_⟩⟩;have hj:j=0:=by
  have:=(uB.1 hu).1;simp[zO] at this;omega
 subst hj;rw[yW h];have hi4:i<4:=(uB.1 hi).1;match i,hi4 with
 | 0,_=>simp[jB] at hi;subst hi;simpa[zO] using hu
 | 1,_=>simp[jB] at hi;subst hi;simpa[zO] using hu
 | 2,_=>simp[jB] at hi;subst hi;simpa[zO] using hu
 | 3,_=>simp[jB] at hi;subst hi;simpa[zO] using hu
theorem zRx(bv:Value)(l:List UInt8)(hb:Sl F w 1 zO bv l)(n:Nat)(hn:n<256)(hlen:l.length<=1000000000) : Calls Tryz.prog 125 #[bv,.int .u64 (n:Int),.int .i64 1] w (Byt w (l++zV 1 n)):=zEy bv l hb n 1 (by decide) hn (by omega) hlen
theorem zRy(bv:Value)(l:List UInt8)(hb:Sl F w 1 zO bv l)(n:Nat)(hn:n<4294967296)(hlen:l.length<=1000000000) : Calls Tryz.prog 125 #[bv,.int .u64 (n:Int),.int .i64 4] w (Byt w (l++zV 4 n)):=zEy bv l hb n 4 (by decide) hn (by omega) hlen
theorem zOI(bv:Value)(l:List UInt8)(hb:Sl F w 1 zO bv l)(n:Nat)(hn:n<18446744073709551616)(hlen:l.length<=1000000000) : Calls Tryz.prog 125 #[bv,.int .u64 (n:Int),.int .i64 8] w (Byt w (l++zV 8 n)):=zEy bv l hb n 8 (by decide) hn (by omega) hlen
theorem zLq(h:zBV)(h1:h.kind<256)(h2:h.gen<18446744073709551616)(h3:h.base<18446744073709551616)(h4:h.records<4294967296) :
  Calls Tryz.prog 68 #[.agg #[.int .i64 (h.kind:Int),.int .u64 (h.gen:Int),.int .u64 (h.base:Int),.int .i64 (h.records:Int)]] w (Byt w (jP h)):=by
 obtain⟨k,g,b,r⟩:=h;simp only at *;obtain⟨w1,hw1⟩:∃w1,w1=w.alloc (.cells #[.int .i64 (k:Int),.int .u64 (g:Int),.int .u64 (b:Int),.int .i64 (r:Int)] 58):=⟨_,rfl⟩;have hB:=zK.new w #[.int .i64 (k:Int),.int .u64 (g:Int),.int .u64 (b:Int),.int .i64 (r:Int)] 58;rw[<- hw1] at hB;have HX0:Hid (zG w w1):=oh (by rw[hw1];exact (zss w).alloc _);have ek:IntKind.u64.wrap (k:Int)=(k:Int):=IntWalk.u64_in _ (by omega);have er:IntKind.u64.wrap (r:Int)=(r:Int):=IntWalk.u64_in _ (by omega);have xz:=((zA.refl (λ_=>False) w1).alloc (.cells #[.int .u8 83,.int .u8 67,.int .u8 82,.int .u8 49] 5)).drew;have HC:Hid (∀W,zG w1 W->W.cell? ⟨w.heap.size,0,none⟩=some (.int .i64 (k:Int))/\W.cell? ⟨w.heap.size,1,none⟩=some (.int .u64 (g:Int))/\W.cell? ⟨w.heap.size,2,none⟩=some (.int .u64 (b:Int))/\W.cell? ⟨w.heap.size,3,none⟩=some (.int .i64 (r:Int))):=oh λW m=>⟨(hB.ext m).cell rfl,(hB.ext m).cell rfl,(hB.ext m).cell rfl,(hB.ext m).cell rfl⟩
 have HN1:=oh (zRx (w:=(w1.alloc (.cells #[.int .u8 83,.int .u8 67,.int .u8 82,.int .u8 49] 5)).drew) (F:=λ_=>False) (.slice (some ⟨w1.heap.size,0,none⟩) 4 4) jB (zQ5 (zM (by simp)) (λf=>f)) k (by omega) (by decide));obtain⟨f0,f1,f2,f3⟩:=HC.out _ (zss w1).drew;obtain⟨g0,g1,g2,g3⟩:=HC.out _ xz;have HW:=oh hw1;have H234:=oh (And.intro h2 (And.intro h3 h4));clear hw1 hB h1 h2 h3 h4
 go_enter Tryz.func68, Tryz.ntmps68
 go_wp2_with fail;rw[<- HW.out];go_region_held3 (λw'=>w'.cell? ⟨w.heap.size,0,none⟩=some (.int .i64 (k:Int))/\w'.cell? ⟨w.heap.size,1,none⟩=some (.int .u64 (g:Int))/\w'.cell? ⟨w.heap.size,2,none⟩=some (.int .u64 (b:Int))/\w'.cell? ⟨w.heap.size,3,none⟩=some (.int .i64 (r:Int)))
  (first|(with_reducible exact⟨f0,f1,f2,f3⟩)|(with_reducible exact⟨g0,g1,g2,g3⟩)|(with_reducible exact zz)|fail)
  (first
   | (go_at_call 125;(with_reducible refine HN1.out.mono ?_);rintro e y1 ⟨v1,rfl,o1,m1⟩;have x1:=xz.trans m1;have zz:=HC.out _ x1)
   | (go_at_call 125;(with_reducible refine (zOI _ _ (Byt.sl o1 (by simp[zC,jB])) g H234.out.1 (by simp[zC,jB])).mono ?_);rintro e y2 ⟨v2,rfl,o2,m2⟩;have x2:=x1.trans m2;have zz:=HC.out _ x2)
   | (go_at_call 125;(with_reducible refine (zOI _ _ (Byt.sl o2 (by simp[zC,jB])) b H234.out.2.1 (by simp[zC,jB])).mono ?_);rintro e y3 ⟨v3,rfl,o3,m3⟩;have x3:=x2.trans m3;have zz:=HC.out _ x3)
   | (go_at_call 125;(with_reducible refine (zRy _ _ (Byt.sl o3 (by simp[zC,jB])) r H234.out.2.2 (by simp[zC,jB])).mono ?_);rintro e y4 ⟨v4,rfl,o4,m4⟩;have x4:=x3.trans m4;have zz:=HC.out _ x4)
   | fail)
 have HF:Hid (yA (λ_=>False) y4 w.heap.size 5 1 zO v4 (jB++zV 1 k++zV 8 g++zV 8 b++zV 4 r)/\zG w y4):=oh ⟨o4.rebase (uT HX0.out.size x3.size),HX0.out.trans x4⟩;clear o1 o2 o3 o4 m1 m2 m3 m4 x1 x2 x3 x4 zz;go_wp2_with fail;go_ret;exact⟨v4,rfl,HF.out.1,HF.out.2⟩
end
section
variable {F:NP}{w w' wr w2:World}
theorem zGY:∀(l:List UInt8) (x:UInt8),zBp (l++[x])=zBp l+x.toNat * 256 ^ l.length
 | [],x=>by simp[zBp]
 | y :: l,x=>by
  rw[wX,zBp,zBp,zGY l x,uD,tS,Nat.mul_add,rE];congr 2
  rw[pL 256 (x.toNat * 256 ^ l.length),Nat.mul_assoc]
def zSk(l:List UInt8)(p:Int)(W:Nat)(w:World)(e:Ending)(w':World):Prop :=
 ∃(v c:Nat),e=.returned (.tuple #[.int .u64 (v:Int),.int .i64 (c:Int)])/\((c=0/\(yO l p W).2=none/\v=(yO l p W).1)\/(c≠0/\c<10/\∃er,(yO l p W).2=some er))/\w=w'
theorem zNR(l:List UInt8)(bv:Value)(hb:Sl F w 1 zO bv l)(p:Int)(hp : -1<=p/\p<=1000000000)(W:Nat)(hW:W=1\/W=2\/W=4) :
  Calls Tryz.prog 213 #[bv,.int .i64 p,.int .i64 (W:Int)] w (zSk l p W w):=by
 obtain⟨a,cap,rfl,h1,h2,h3,h4⟩:=hb;unfold maxLen at h2;have HR:=oh (zEZ W (by omega) w);have hW4:W<=4:=by omega
 have hW1:1<=W:=by omega
 clear hW;by_cases hc:p<0\/(l.length:Int)<p
 .have HT:Hid (yO l p W=(0,some ([-1],2))):=oh (by unfold yO;rw[if_pos hc]);by_cases h0:p<0
  .clear hc
   go_enter Tryz.func213, Tryz.ntmps213
   go_wp2_with fail;refine (HR.out).mono ?_;rintro e w1 ⟨rfl,rfl⟩;go_wp2_with fail;go_ret2
   exact⟨0,2,rfl,.inr ⟨by omega,by omega,_,by rw[HT.out]⟩,rfl⟩
  .have h5:(l.length:Int)<p:=by omega
   clear hc
   go_enter Tryz.func213, Tryz.ntmps213
   go_wp2_with fail;refine (HR.out).mono ?_;rintro e w1 ⟨rfl,rfl⟩;go_wp2_with fail;go_ret2
   exact⟨0,2,rfl,.inr ⟨by omega,by omega,_,by rw[HT.out]⟩,rfl⟩
 .have hp0:0<=p:=by omega
  obtain⟨q,rfl⟩:∃q:Nat,p=q:=⟨p.toNat,by omega⟩;have hq:q<=l.length:=by omega
  by_cases hc2:(l.length:Int)-q<W
  .have HT:Hid (yO l q W=(0,some ([-1],1))):=oh (by unfold yO;rw[if_neg hc,if_pos hc2]);clear hc
   go_enter Tryz.func213, Tryz.ntmps213
   go_wp2_with fail;refine (HR.out).mono ?_;rintro e w1 ⟨rfl,rfl⟩;go_wp2_with fail;go_ret2
   exact⟨0,1,rfl,.inr ⟨by omega,by omega,_,by rw[HT.out]⟩,rfl⟩
  .have HT:Hid (yO l q W=(zBp ((l.drop q).take W),none)):=oh (by unfold yO;rw[if_neg hc,if_neg hc2,uK]);have hqW:q+W<=l.length:=by omega
   clear hc hc2
   go_enter Tryz.func213, Tryz.ntmps213
   go_wp2_with fail;refine (HR.out).mono ?_;rintro e w1 ⟨rfl,rfl⟩;go_wp2_with fail;go_loopg [8,9,10] W (λm v8 v9 v10 wr=>∃(k x z:Nat),wr=w/\k+m=W/\v8=.int .u64 (x:Int)/\v9=.int .u64 (z:Int)/\v10=.int .i64 (k:Int)/\Hid (x=zBp ((l.drop q).take k)/\z=256 ^ k))
   case atStart=>exact⟨0,0,1,rfl,by omega,rfl,rfl,rfl,oh ⟨by simp[zBp],rfl⟩⟩
   case round =>
    obtain⟨k,x,z,rfl,hkm,rfl,rfl,rfl,HX⟩:=hrel;by_cases hlt:k<W
    .have hlt2:q+k<l.length:=by omega
     obtain⟨b,off,rfl,hb,hF,hc⟩:=Sl.atE h4 zr (q+k) hlt2;obtain⟨y,hy⟩:∃y,y=l[q+k]:=⟨_,rfl⟩;have hc0:=hc 0 (.int .u8 (y.toNat:Int)) (by rw[hy];rfl);simp only[uY,uO] at hc0;have hy8:y.toNat<256:=y.toNat_lt;have hz:z<=16777216:=by
      rw[HX.out.2];exact wW (n:=256) (by decide) (show k<=3 by omega)
     have hx:x<256 ^ k:=by
      rw[HX.out.1];refine uG (zC6 _) (wW (by decide) (by simp;omega))
     rw[<- HX.out.2] at hx;obtain⟨u,hu⟩:∃u:Nat,u=y.toNat * z:=⟨_,rfl⟩;have hub:u<=255 * 16777216:=by rw[hu];exact Nat.mul_le_mul (by omega) hz
     have huI:(y.toNat:Int) * (z:Int)=(u:Int):=by rw[hu,Int.natCast_mul]
     have HN:Hid (x+u=zBp ((l.drop q).take (k+1))/\z * 256=256 ^ (k+1)):=oh (by
      have h9:(l.drop q)[k]? = some y:=by rw[tV,hy];exact uA hlt2
      have h10:((l.drop q).take k).length=k:=by simp;omega
      rw[qD _ k y h9,zGY,<- HX.out.1,hu,HX.out.2,h10];exact⟨rfl,by rw[tS]⟩)
     have i1:(0:Int)<=(q:Int)+(k:Int):=by omega
     have i2:(q:Int)+(k:Int)<(l.length:Int):=by omega
     have i3:((q:Int)+(k:Int)).toNat=q+k:=by omega
     clear hc hy h4 hu;go_wp2_with fail;go_roundg (gk-1)
     case measure=>omega
     case rel=>exact⟨k+1,x+u,z * 256,rfl,by omega,by go_num,by go_num,by go_num,HN⟩
    .have hk:k=W:=by omega
     have HK:=oh hk;clear hk h4;go_wp2_with fail;go_ret2
     exact⟨x,0,rfl,.inl ⟨rfl,by rw[HT.out],by rw[HT.out,HX.out.1,HK.out]⟩,rfl⟩
end
section
variable {F:NP}{w w' wr w2:World}
theorem zJk(l:List UInt8)(bv:Value)(hb:Sl F w 1 zO bv l)(q W:Nat)(hW:W=1\/W=2\/W=4\/W=8)(hqW:q+W<=l.length)(hlen:l.length<=1000000000) :
  Calls Tryz.prog 213 #[bv,.int .i64 (q:Int),.int .i64 (W:Int)] w λe w'=>e=.returned (.tuple #[.int .u64 (zZ l q W:Int),.int .i64 0])/\w=w':=by
 obtain⟨a,cap,rfl,h1,h2,h3,h4⟩:=hb;unfold maxLen at h2;have HR:=oh (zEZ W hW w);have hW4:W<=8:=by omega
 have hW1:1<=W:=by omega
 have hc:¬ (l.length:Int)<(q:Int):=by omega
 have hc2:¬ (l.length:Int)-q<W:=by omega
 have hz0:¬ (q:Int)<0:=by omega
 clear hW
 go_enter Tryz.func213, Tryz.ntmps213
 go_wp2_with fail;refine (HR.out).mono ?_;rintro e w1 ⟨rfl,rfl⟩;go_wp2_with fail;clear hc hc2 hz0;go_loopg [8,9,10] W (λm v8 v9 v10 wr=>∃(k x z:Nat),wr=w/\k+m=W/\v8=.int .u64 (x:Int)/\v9=.int .u64 (z:Int)/\v10=.int .i64 (k:Int)/\Hid (x=zBp ((l.drop q).take k)/\(k<8->z=256 ^ k)))
 case atStart=>exact⟨0,0,1,rfl,by omega,rfl,rfl,rfl,oh ⟨by simp[zBp],λ_=>rfl⟩⟩
 case round =>
  obtain⟨k,x,z,rfl,hkm,rfl,rfl,rfl,HX⟩:=hrel;by_cases hlt:k<W
  .have hlt2:q+k<l.length:=by omega
   obtain⟨b,off,rfl,hb,hF,hc⟩:=Sl.atE h4 zr (q+k) hlt2;obtain⟨y,hy⟩:∃y,y=l[q+k]:=⟨_,rfl⟩;have hc0:=hc 0 (.int .u8 (y.toNat:Int)) (by rw[hy];rfl);simp only[uY,uO] at hc0;have hy8:y.toNat<256:=y.toNat_lt;have hzk:=HX.out.2 (by omega);have hz:z<=72057594037927936:=by
    rw[hzk];exact wW (n:=256) (by decide) (show k<=7 by omega)
   have hx:x<256 ^ k:=by
    rw[HX.out.1];refine uG (zC6 _) (wW (by decide) (by simp;omega))
   rw[<- hzk] at hx;obtain⟨u,hu⟩:∃u:Nat,u=y.toNat * z:=⟨_,rfl⟩;have hub:u<=255 * z:=by rw[hu];exact Nat.mul_le_mul (by omega) (uJ _)
   have huI:(y.toNat:Int) * (z:Int)=(u:Int):=by rw[hu,Int.natCast_mul]
   obtain⟨z2,hz2,hz3⟩:∃z2:Nat,IntKind.u64.wrap ((z:Int) * 256)=(z2:Int)/\(k+1<8->z2=256 ^ (k+1)):=by
    by_cases h7:k+1<8
    .have hz6:z<=281474976710656:=by rw[hzk];exact wW (n:=256) (by decide) (show k<=6 by omega)
     exact⟨z * 256,by rw[IntWalk.u64_in _ (by omega)];omega,λ_=>by rw[hzk,tS]⟩
    .refine⟨0,?_,λh=>absurd h h7⟩;have hk7:k=7:=by omega
     rw[hzk,hk7];decide
   have HN:Hid (x+u=zBp ((l.drop q).take (k+1))/\(k+1<8->z2=256 ^ (k+1))):=oh (by
    have h9:(l.drop q)[k]? = some y:=by rw[tV,hy];exact uA hlt2
    have h10:((l.drop q).take k).length=k:=by simp;omega
    rw[qD _ k y h9,zGY,<- HX.out.1,hu,hzk,h10];exact⟨rfl,hz3⟩)
   have i1:(0:Int)<=(q:Int)+(k:Int):=by omega
   have i2:(q:Int)+(k:Int)<(l.length:Int):=by omega
   have i3:((q:Int)+(k:Int)).toNat=q+k:=by omega
   have HZ2:=oh hz2;have hx2:x+u<18446744073709551616:=by omega
   clear hc hy h4 hu hz3 hzk hx;go_wp2_with fail;first
    | (rw[HZ2.out])
    | skip
   go_roundg (gk-1)
   case measure=>omega
   case rel=>exact⟨k+1,x+u,z2,rfl,by omega,by go_num,by first|go_num|(rw[<- HZ2.out];rfl),by go_num,HN⟩
  .have hk:k=W:=by omega
   have HK:=oh hk;clear hk h4;go_wp2_with fail;go_ret2
   exact⟨by rw[HX.out.1,HK.out];rfl,rfl⟩
theorem zD2(l:List UInt8)(bv:Value)(hb:Sl F w 1 zO bv l)(q W:Nat)(hW:W=1\/W=2\/W=4\/W=8)(hqW:q+W<=l.length)(hlen:l.length<=1000000000) :
  Calls Tryz.prog 143 #[bv,.int .i64 (q:Int),.int .i64 (W:Int)] w λe w'=>e=.returned (.int .u64 (zZ l q W:Int))/\w=w':=by
 have HT:=oh (zJk l bv hb q W hW hqW hlen);obtain⟨n,hn⟩:∃n,n=zZ l q W:=⟨_,rfl⟩;rw[<- hn] at HT ⊢;clear hb hn
 go_enter Tryz.func143, Tryz.ntmps143
 go_wp2_with fail;refine HT.out.mono ?_;rintro e w1 ⟨rfl,rfl⟩;go_wp2_with fail;go_ret;exact⟨rfl,rfl⟩
end
section
variable {F:NP}{w w':World}
def zQ6(l:List UInt8)(p:Nat)(e:Ending):Prop:=match qB l p with
 | some (s,q)=>e=.returned (.tuple #[.string s,.int .i64 (q:Int),.int .i64 0])
 | none=>∃c:Nat,e=.returned (.tuple #[.string e0,.int .i64 0,.int .i64 (c:Int)])/\c≠0/\c<10
theorem zIE(bv:Value)(l:List UInt8)(hb:Sl F w 1 zO bv l)(p:Nat)(hp:p<=1000000000)(hlen:l.length<=1000000000) :
  Calls Tryz.prog 144 #[bv,.int .i64 (p:Int)] w λe w'=>zQ6 l p e/\w=w':=by
 have HB:=oh hb;have HT1:=oh (λh1:p+2<=l.length=>zJk l bv hb p 2 (by decide) h1 hlen);have HT2:=oh (zNR l bv hb (p:Int) (by omega) 2 (by decide));obtain⟨a,cap,rfl,hz1,hz2,hz3,hz4⟩:=id hb;unfold maxLen at hz2;clear hb;by_cases h1:p+2<=l.length
 .have HT:=HT1.out h1;clear HT1 HT2;have hlt:=vB l p 2;obtain⟨n,hn⟩:∃n,n=zZ l p 2:=⟨_,rfl⟩;rw[<- hn] at HT hlt;rw[show ((2:Nat):Int)=2 from rfl] at HT;have HT:=oh HT;have hn2:n<65536:=hlt;have hq:IntKind.i64.wrap (n:Int)=(n:Int):=IntWalk.i64_in _ (by omega);have hu:IntKind.u64.wrap ((l.length:Int)-(p:Int)-2)=(l.length:Int)-(p:Int)-2:=IntWalk.u64_in _ (by omega)
  by_cases h2:p+2+n<=l.length
  .have HW:Hid (qB l p=some (⟨((l.drop (p+2)).take n).toArray⟩,p+2+n)):=oh (by unfold qB;rw[<- hn,if_pos ⟨h1,h2⟩]);obtain⟨bb,off,rfl⟩:∃bb off,a=some ⟨bb,off,none⟩:=by
    rcases hz4 with h|⟨bb,off,h,_⟩
    .rw[h] at h1;simp at h1
    .exact⟨bb,off,h⟩
   have hcv:∀W,zG w W->(convert 27 9 (.slice (if cap=p+2 then some ⟨bb,off,none⟩ else some ⟨bb,off+(p+2),none⟩) n (cap-(p+2)))).run Tryz.prog W=.ok (.string ⟨((l.drop (p+2)).take n).toArray⟩) W:=λW m=>by
    have hsl:Sl F W 1 zO (.slice (if cap=p+2 then some ⟨bb,off,none⟩ else some ⟨bb,off+(p+2),none⟩) n (cap-(p+2))) ((l.drop (p+2)).take n):=by
     have hln:((l.drop (p+2)).take n).length=n:=by simp;omega
     split
     .have hn0:n=0:=by omega
      subst hn0;exact⟨some ⟨bb,off,none⟩,cap-(p+2),by simp,by simp,by unfold maxLen;omega,by simp,.inl (by simp)⟩
     .have:=Sl.sub (HB.out.ext m) (p+2) (p+2+n) (by omega) h2;rw[uY,show p+2+n-(p+2)=n by omega] at this;exact this
    exact zBl (P:=Tryz.prog) Tryz.underlying27 Tryz.underlying5 Tryz.underlying9 hsl
   have HCV:=oh hcv;have h3:¬ (l.length:Int)-(p:Int)-2<(n:Int):=by omega
   clear hn hlt hcv hz4
   go_enter Tryz.func144, Tryz.ntmps144
   go_wp2_with fail;refine HT.out.mono ?_;rintro e w1 ⟨rfl,rfl⟩;have hcv:=HCV.out w zr;go_wp2_with fail;all_goals
    go_ret3
    refine⟨?_,rfl⟩;unfold zQ6;rw[HW.out];rfl
  .have HW:Hid (qB l p=none):=oh (by unfold qB;rw[<- hn,if_neg (λh=>h2 h.2)]);have h3:(l.length:Int)-(p:Int)-2<(n:Int):=by omega
   clear hn hlt hz4 hq
   go_enter Tryz.func144, Tryz.ntmps144
   go_wp2_with fail;refine HT.out.mono ?_;rintro e w1 ⟨rfl,rfl⟩;go_wp2_with fail;go_ret3
   refine⟨?_,rfl⟩;unfold zQ6;rw[HW.out];exact⟨1,rfl,by omega,by omega⟩
 .have HW:Hid (qB l p=none):=oh (by unfold qB;rw[if_neg (λh=>h1 h.1)]);obtain⟨el,ek,htk⟩:∃el ek,yO l (p:Int) 2=(0,some (el,ek)):=by
   unfold yO;by_cases h3:(p:Int)<0\/(l.length:Int)<(p:Int)
   .rw[if_pos h3];exact⟨_,_,rfl⟩
   .rw[if_neg h3,if_pos (by omega)];exact⟨_,_,rfl⟩
  have HT:=HT2.out;rw[show ((2:Nat):Int)=2 from rfl] at HT;have HT:=oh HT;have HTK:=oh htk;clear htk h1 hz4 HT1 HT2
  go_enter Tryz.func144, Tryz.ntmps144
  go_wp2_with fail;refine HT.out.mono ?_;rintro e w1 ⟨v,c,rfl,hc,rfl⟩;obtain⟨hc0,hc1⟩:c≠0/\c<10:=by
   rcases hc with ⟨_,h,_⟩|⟨h1,h2,_⟩
   .rw[HTK.out] at h;cases h
   .exact⟨h1,h2⟩
  have hc2:¬ (c:Int)=0:=by omega
  clear hc;go_wp2_with fail;go_ret3
  refine⟨?_,rfl⟩;unfold zQ6;rw[HW.out];exact⟨c,rfl,hc0,hc1⟩
def jJ(l:List UInt8)(p:Int):ByteArray × Int:=if p<0 then (e0, -1) else match qB l p.toNat with
 | some (s,q)=>(s,(q:Int))
 | none=>(e0, -1)
theorem zIF(bv:Value)(l:List UInt8)(hb:Sl F w 1 zO bv l)(p:Int)(hp : -1<=p/\p<=1000000000)(hlen:l.length<=1000000000) :
  Calls Tryz.prog 84 #[bv,.int .i64 p] w λe w'=>e=.returned (.tuple #[.string (jJ l p).1,.int .i64 (jJ l p).2])/\w=w':=by
 by_cases h0:p<0
 .have HW:Hid (jJ l p=(e0, -1)):=oh (by unfold jJ;rw[if_pos h0]);obtain⟨a,cap,rfl, -⟩:=id hb;clear hb
  go_enter Tryz.func84, Tryz.ntmps84
  go_wp2_with fail;go_ret2
  exact⟨by rw[HW.out];rfl,rfl⟩
 .obtain⟨q,rfl⟩:∃q:Nat,p=q:=⟨p.toNat,by omega⟩;have HT:=oh (zIE bv l hb q (by omega) hlen);unfold zQ6 at HT;have HW:Hid (jJ l (q:Int)=match qB l q with|some (s,q)=>(s,(q:Int))|none=>(e0, -1)):=oh (by unfold jJ;rw[if_neg h0,uK]);obtain⟨a,cap,rfl, -⟩:=id hb;clear hb;cases hw:qB l q with
  | some x =>
   obtain⟨s,r⟩:=x;rw[hw] at HT HW;clear hw
   go_enter Tryz.func84, Tryz.ntmps84
   go_wp2_with fail;refine HT.out.mono ?_;rintro e w1 ⟨rfl,rfl⟩;go_wp2_with fail;go_ret2
   exact⟨by rw[HW.out];rfl,rfl⟩
  | none =>
   rw[hw] at HT HW;clear hw
   go_enter Tryz.func84, Tryz.ntmps84
   go_wp2_with fail;refine HT.out.mono ?_;rintro e w1 ⟨⟨c,rfl,hc0,hc1⟩,rfl⟩;have hc2:¬ (c:Int)=0:=by omega
   go_wp2_with fail;go_ret2
   exact⟨by rw[HW.out];rfl,rfl⟩
end
end
end Go.Proofs.YtgphfebjjedeaaaGreatDoor
