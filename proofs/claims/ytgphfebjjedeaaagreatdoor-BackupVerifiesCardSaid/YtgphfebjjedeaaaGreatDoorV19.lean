import Derived.Test.YtgphfebjjedeaaaGreatDoorV18
namespace Go.Proofs.YtgphfebjjedeaaaGreatDoor
open Lib renaming hid->oh
set_option maxHeartbeats 4000000
set_option maxRecDepth 100000
open Go.RowKit
def jO(size:Nat)(x:yF)(n:Int):Bool :=
 (yO x.body 0 4).2.isSome || decide (x.kind≠4) || decide ((x.body.length:Int)≠4+min n ((size:Int)-28)) || (decide ((yO x.body 0 4).1=0) != decide (n=min n ((size:Int)-28)))
def qU(G:GA):Nat->Int->Int->List (Int × List UInt8) × Option Err
 | 0,_,_=>([],none)
 | f+1,id,n=>if n<=0 then ([],none) else
  match G.get id with
  | .inr e=>([],some e)
  | .inl x=>if jO G.size x n=true then ([],some ([zBq id],5)) else
   ((id,x.body.drop 4) :: (qU G f ((yO x.body 0 4).1:Nat) (n-min n ((G.size:Int)-28))).1,(qU G f ((yO x.body 0 4).1:Nat) (n-min n ((G.size:Int)-28))).2)
def zBH(G:GA):Nat->Int->Int->Prop
 | 0,_,_=>True
 | f+1,id,n=>0<n->G.knows id/\∀x,G.get id=.inl x->jO G.size x n=false->zBH G f ((yO x.body 0 4).1:Nat) (n-min n ((G.size:Int)-28))
def U(A B:NP):NP:=λk=>A k\/B k
structure WS(J:(NP)->(NP)->World->List (Int × List UInt8)->Prop)(P V F:NP)(ad:Nat->Addr)(w:World)(B0 c s gen:Nat)(G:GA)(l:List Nat)(P1 V1 F1:NP)(wr:World)(acc:List (Int × List UInt8)):Prop where
 pg:vJ F1 wr P1 c s G l
 nx:zU (U P V) (U P1 V1) F F1 ad w wr
 box:zK wr B0 (gP c s gen) 140
 bP:¬ P1 B0
 bV:¬ V1 B0
 j:J V1 F1 wr acc
 apart:∀k,P1 k->¬ V1 k
def zH0(J:(NP)->(NP)->World->List (Int × List UInt8)->Prop)(F P V:NP)(ad:Nat->Addr)(w:World)(c s:Nat)(G:GA)(l:List Nat)(r:List (Int × List UInt8) × Option Err)(e:Ending)(w':World):Prop :=
 ∃(P' V' F':NP) (ev:Value),e=.returned ev/\vJ F' w' P' c s G l/\zU (U P V) (U P' V') F F' ad w w'/\J V' F' w' r.1/\(∀k,P' k->¬ V' k)/\zCa F' ad w' ev r.2
def zLM(J:(NP)->(NP)->World->List (Int × List UInt8)->Prop)(ad:Nat->Addr):Prop :=
 ∀(P1 P2 V1 F1 F2:NP) (w1 w2:World) (acc:List (Int × List UInt8)),J V1 F1 w1 acc->zU P1 P2 F1 F2 ad w1 w2->(∀k,P1 k->¬ V1 k)->J V1 F2 w2 acc
section
variable {J:(NP)->(NP)->World->List (Int × List UInt8)->Prop}{P V F P1 P2 V1 V2 F1 F2:NP}{ad:Nat->Addr}{w wr w2:World}{B0 c s gen:Nat}{G:GA}{l:List Nat}{acc acc':List (Int × List UInt8)}
theorem WS.envr(h:WS J P V F ad w B0 c s gen G l P1 V1 F1 wr acc):yE F1 ad wr:=h.nx.env
theorem WS.subP(h:WS J P V F ad w B0 c s gen G l P1 V1 F1 wr acc):∀k,P1 k->F1 k:=λk hk=>h.nx.sub k (.inl hk)
theorem WS.subV(h:WS J P V F ad w B0 c s gen G l P1 V1 F1 wr acc):∀k,V1 k->F1 k:=λk hk=>h.nx.sub k (.inr hk)
theorem WS.nxt(h:WS J P V F ad w B0 c s gen G l P1 V1 F1 wr acc)(K:zLM J ad)(n:zU P1 P2 F1 F2 ad wr w2)(hG:vJ F2 w2 P2 c s G l):WS J P V F ad w B0 c s gen G l P2 V1 F2 w2 acc :=
 ⟨hG,h.nx.trans (n.part (Q:=V1) h.subV h.envr),n.blk h.box h.bP,n.not h.box.lt h.bP,h.bV,K _ _ _ _ _ _ _ _ h.j n h.apart,λk hk hv=>by
  have hb:=h.nx.stp.bd k (.inr hv);exact h.apart k (n.stp.old k hb hk) hv⟩
theorem WS.ext(h:WS J P V F ad w B0 c s gen G l P1 V1 F1 wr acc)(K:zLM J ad)(m:zG wr w2):WS J P V F ad w B0 c s gen G l P1 V1 F1 w2 acc :=
 h.nxt K (zU.ext h.envr h.subP m) (h.pg.at m)
theorem WS.clo(h:WS J P V F ad w B0 c s gen G l P1 V1 F1 wr acc)(n:zU V1 V2 F1 F2 ad wr w2)(hj:J V2 F2 w2 acc'):WS J P V F ad w B0 c s gen G l P1 V2 F2 w2 acc':=by
 have hq:=n.part (Q:=P1) h.subP h.envr;have hq2:zU (U P1 V1) (U P1 V2) F1 F2 ad wr w2:=hq.iff (λk=>Or.comm) (λk=>Or.comm);refine⟨h.pg.plus n.stp.mods (λk hk hv=>h.apart k hk hv) h.subV (λk hk hn hf=>hn (n.oldF k hk hf)),h.nx.trans hq2,n.blk h.box h.bV,h.bP,n.not h.box.lt h.bV,hj,λk hk hv=>?_⟩;have hb:=h.nx.stp.bd k (.inl hk);exact h.apart k hk (n.stp.old k hb hv)
end
section
variable {P P' F F':NP}{ad:Nat->Addr}{w w':World}{c s:Nat}{G G':GA}{l l':List Nat}
theorem zQd(b:List UInt8):(yO b 0 4).1<4294967296:=by
 unfold yO;split
 .simp
 .split
  .simp
  .have:=zC6 ((b.drop (0:Int).toNat).take 4);have h2:((b.drop (0:Int).toNat).take 4).length<=4:=List.length_take_le _ _;have h3:(256:Nat) ^ ((b.drop (0:Int).toNat).take 4).length<=256 ^ 4:=wW (by omega) h2;simp only;omega
theorem zLN(J:(NP)->(NP)->World->List (Int × List UInt8)->Prop)(V:NP)(hL:yE F ad w)(hP:∀k,P k->F k)(hV:∀k,V k->F k)(hPV:∀k,P k->¬ V k)(h:vJ F w P c s G l)(gen:Nat)(id n:Int)(hn:n<=4096)(fuel:Nat)(hf:n<=fuel)(hok:zBH G fuel id n)(fn:FuncId)(cv:Value)
  (hid : -9223372036854775808<=id/\id<=9223372036854775807) (hn0:0<=n)
  (hcf:∀(args:Array Value) (w:World),(callFunc fn args).run Tryz.prog w=.ok (.enter fn args) w)
  (hJ0:J V F w []) (hJn:zLM J ad)
  (hJs:∀(V1 F1:NP) (w1:World) (acc:List (Int × List UInt8)) (id:Int) (sv:Value) (b:List UInt8),J V1 F1 w1 acc->yE F1 ad w1->(∀k,V1 k->F1 k)->Sl F1 w1 1 zO sv b->b.length<=1000->acc.length<=4096 ->
   Calls Tryz.prog fn #[.int .i64 id,sv,cv] w1 λe w2=>∃V2 F2,e=.returned (.tuple #[])/\J V2 F2 w2 (acc++[(id,b)])/\zU V1 V2 F1 F2 ad w1 w2) :
  Calls Tryz.prog 331 #[pgV c s gen,.int .i64 id,.int .i64 n,.func (.func fn) #[] #[cv]] w (zH0 J F P V ad w c s G l (qU G fuel id n)):=by
 unfold pgV;have hlim:=h.lim;have m0:zG w (w.alloc (gP c s gen)):=(zss w).alloc _;have hs0:WS J P V F ad w w.heap.size c s gen G l P V F (w.alloc (gP c s gen)) []:=by
  have hn:=zU.ext hL (P:=U P V) (λk hk=>hk.elim (hP k) (hV k)) m0;exact⟨h.at m0,hn,zK.new w _ _,λf=>by have:=h.bd _ f;omega,λf=>by have:=hL.lt _ (hV _ f);omega,hJn _ _ _ _ _ _ _ _ hJ0 (zU.ext hL hP m0) hPV,hPV⟩
 have HS0:=oh hs0;have HJN:=oh hJn;have HJS:=oh hJs;have HOK:=oh hok;obtain⟨b8,b256,s256,s1024,_,_⟩:=hlim;obtain⟨nn,hnn⟩:∃nn,nn=G.size-28:=⟨_,rfl⟩;have hnI:(G.size:Int)-28=(nn:Int):=by omega
 have HNI:=oh hnI;have hnn2:228<=nn/\nn<=996:=by omega
 obtain⟨hnn3,hnn4⟩:=hnn2;clear hL hP h m0 hJ0 hJn hJs hok hnn hnI hV hPV hs0
 go_enter Tryz.func331, Tryz.ntmps331
 go_wp2_with fail;go_loopg [1,2] fuel (λm iv nv wr=>∃(id1 n1:Int) (P1 V1 F1:NP) (acc:List (Int × List UInt8)),iv=.int .i64 id1/\nv=.int .i64 n1/\n1<=m/\0<=n1/\n1<=4096/\(-9223372036854775808<=id1/\id1<=9223372036854775807) /\
  Hid (WS J P V F ad w w.heap.size c s gen G l P1 V1 F1 wr acc/\zBH G m id1 n1/\(acc.length:Int)+n1<=4096/\acc++(qU G m id1 n1).1=(qU G fuel id n).1/\(qU G m id1 n1).2=(qU G fuel id n).2))
 case atStart=>exact⟨id,n,P,V,F,[],rfl,rfl,hf,hn0,hn,hid,oh ⟨HS0.out,HOK.out,by simpa using hn,by simp,rfl⟩⟩
 case round =>
  obtain⟨id1,n1,P1,V1,F1,acc,rfl,rfl,hf1,h01,hn1,⟨hi1,hi2⟩,HW⟩:=hrel;by_cases hpos:0<n1
  .obtain⟨m,rfl⟩:∃m,gk=m+1:=⟨gk-1,by omega⟩;have hW3:=HW.out.1.box;have hkn:=(HW.out.2.1 hpos).1;have HKN:=oh hkn;have r0:=hW3.d 0 (.pointer (some ⟨c,0,none⟩)) rfl;clear hW3 hkn;go_wp2_with fail;refine (zSP HW.out.1.envr HW.out.1.subP HW.out.1.pg id1 HKN.out).mono ?_;rintro e w2 ⟨P2,F2,hG2,hN2,hres⟩;have HS2:=oh (HW.out.1.nxt HJN.out hN2 hG2);have HB2:=oh HS2.out.box;clear hG2 hN2 r0;rcases hres with ⟨x,xv,hx,rfl,hxv⟩|⟨er,f,hx,rfl,hE⟩
   .obtain⟨xa,xc,rfl,x1,x2,x3,x4⟩:=_root_.id hxv;obtain⟨xk,xi,xg,xb⟩:=x;simp only at x1 x3 x4 hxv;unfold maxLen at x2;have HXV:=oh hxv;have HX:=oh hx;have X4:=oh x4;obtain⟨wt,hwt⟩:∃wt:Nat,min n1 (nn:Int)=(wt:Int):=⟨(min n1 (nn:Int)).toNat,by omega⟩;have hwt1:1<=wt:=by omega
    have hwt2:(wt:Int)<=n1:=by omega
    have hwt3:wt<=996:=by omega
    have HWT:Hid (min n1 ((G.size:Int)-28)=(wt:Int)):=oh (by rw[HNI.out];exact hwt);have hB3:=HB2.out.alloc (.cells #[.int .i64 xk,.int .i64 xi,.int .u64 (xg:Int),.slice xa xb.length xc] 272);have r0:=hB3.d 0 (.pointer (some ⟨c,0,none⟩)) rfl;have r1:=hB3.d 1 (.pointer (some ⟨s,0,none⟩)) rfl;have r2:=hB3.d 2 (.int .u64 (gen:Int)) rfl;have HG3:=oh (HS2.out.pg.at ((zss w2).alloc (.cells #[.int .i64 xk,.int .i64 xi,.int .u64 (xg:Int),.slice xa xb.length xc] 272)));have HB9:=oh (zK.new w2 #[.int .i64 xk,.int .i64 xi,.int .u64 (xg:Int),.slice xa xb.length xc] 272);clear hx hxv x4 hB3;simp only[qF];go_wp2_with fail;refine (zFW HG3.out gen).mono ?_;rintro e w4 ⟨rfl,hm4⟩;have HM4:Hid (zG w2 w4):=oh (((zss w2).alloc _).trans hm4);have hB9:=HB9.out.ext hm4;have q0:=hB9.d 0 (.int .i64 xk) rfl;have q3:=hB9.d 3 (.slice xa xb.length xc) rfl;have HB94:=oh hB9;clear hm4 hB9 r0 r1 r2;go_wp2_with fail;refine (zGP (G.size:Int) _ (by omega) (by omega)).mono ?_;rintro e w4' ⟨rfl,rfl⟩;rw[HNI.out];have HL4:=oh (HS2.out.envr.mods HM4.out.ext);go_wp2_with fail;refine (zDX HL4.out (.slice xa xb.length xc) xb (HXV.out.ext HM4.out) 0 4 (by omega)).mono ?_;rintro e w5 ⟨ev,rfl,hE5,hm5⟩;have HM5:Hid (zG w2 w5):=oh (HM4.out.trans hm5);have HL5:=oh (HS2.out.envr.mods HM5.out.ext);have c5:=HL5.out.c5;have hB9:=HB94.out.ext hm5;have p0:=hB9.d 0 (.int .i64 xk) rfl;have p3:=hB9.d 3 (.slice xa xb.length xc) rfl;have htl:=zQd xb;obtain⟨tk,htk⟩:∃t,t=yO xb 0 4:=⟨_,rfl⟩;rw[<- htk] at hE5 htl ⊢;obtain⟨nx,o⟩:=tk;simp only at hE5 htl ⊢;have HTK:=oh htk;have BAD:jO G.size ⟨xk,xi,xg,xb⟩ n1=true->∀(w6:World) (f6:Nat),zG w5 w6->yN F2 ad w6 (zI f6) [zBq id1] 5->zH0 J F P V ad w c s G l (qU G fuel id n) (.returned (zI f6)) w6:=by
     intro hpb w6 f6 hm6 hE6;have h8:=HW.out.2.2.2.1;have h9:=HW.out.2.2.2.2;rw[qU,if_neg (by omega),HX.out] at h8 h9;simp only[hpb,tY] at h8 h9;have hS:=HS2.out.ext HJN.out (HM5.out.trans hm6);refine⟨P2,V1,F2,_,rfl,hS.pg,hS.nx,?_,hS.apart,?_⟩
     .rw[<- h8,wJ];exact hS.j
     .rw[<- h9];exact⟨f6,rfl,hE6⟩
    have BADT:Hid (∀(w6:World) (f6:Nat),jO G.size ⟨xk,xi,xg,xb⟩ n1=true->zG w5 w6->yN F2 ad w6 (zI f6) [zBq id1] 5->zH0 J F P V ad w c s G l (qU G fuel id n) (.returned (zI f6)) w6):=oh (λw6 f6 hpb h1 h2=>BAD hpb w6 f6 h1 h2);clear BAD htk hm5 hB9 q0 q3;cases o with
    | some er =>
     obtain⟨el,ek⟩:=er;obtain⟨f5,rfl,_⟩:=hE5;have HPB:Hid (jO G.size ⟨xk,xi,xg,xb⟩ n1=true):=oh (by unfold jO;rw[<- HTK.out];simp)
     -- bad
     go_wp2_with fail;refine (jY HL5.out _ id1 _ _ 5 (.sent 5 (by decide) (by decide))).mono ?_;rintro e w6 ⟨f6,rfl,hE6,hm6⟩;have HE6:=oh hE6;have HM6:=oh hm6;clear hE6 hm6;go_wp2_with fail;go_ret;exact BADT.out w6 f6 HPB.out HM6.out HE6.out
    | none =>
     cases hE5
     by_cases hk4:xk=4
     .subst hk4;by_cases hlen:(xb.length:Int)=4+(wt:Int)
      .have b1:((xb.length:Int) != 4+(wt:Int))=false:=by simp[hlen]
       by_cases hz:(nx=0) ↔ (n1=(wt:Int))
       .have HPB:Hid (jO G.size ⟨4,xi,xg,xb⟩ n1=false):=oh (by
         unfold jO;rw[<- HTK.out,HWT.out];by_cases h1:nx=0 <;> by_cases h2:n1=(wt:Int) <;> simp[h1,h2,hlen] at hz ⊢)
        have hxl:5<=xb.length:=by omega
        have HLN:=oh hlen;obtain⟨b0,off,hxa⟩:∃b0 off,xa=some ⟨b0,off,none⟩:=by
         rcases X4.out with h|⟨b,off,h,_⟩
         .rw[h] at hxl;simp at hxl
         .exact⟨b,off,h⟩
        subst hxa;have HSL:Hid (Sl F2 w5 1 zO (.slice (some ⟨b0,off+4,none⟩) (xb.length-4) (xc-4)) (xb.drop 4)):=oh (by
         have:=(HXV.out.ext HM5.out).sub 4 xb.length (by omega) (uJ _);rw[wB (by simp)] at this;exact this)
        have HS5:=oh (HS2.out.ext HJN.out HM5.out);have hxc5:5<=xc:=by omega
        have hxc4:¬ xc=4:=by omega
        have HAL:Hid (acc.length<=4096):=oh (by have:=HW.out.2.2.1;omega);have HNXT:Hid (zBH G m (nx:Int) (n1-(wt:Int))/\acc++[(id1,xb.drop 4)]++(qU G m (nx:Int) (n1-(wt:Int))).1=(qU G fuel id n).1/\(qU G m (nx:Int) (n1-(wt:Int))).2=(qU G fuel id n).2):=oh (by
         have h6:=(HW.out.2.1 hpos).2 ⟨4,xi,xg,xb⟩ HX.out HPB.out;have h8:=HW.out.2.2.2.1;have h9:=HW.out.2.2.2.2;rw[qU,if_neg (by omega),HX.out] at h8 h9;simp only[HPB.out] at h8 h9;rw[<- HTK.out,HWT.out] at h6 h8 h9;refine⟨h6,?_,by simpa using h9⟩;simpa using h8)
        by_cases h1:nx=0
        .subst h1;have h2:n1=(wt:Int):=hz.1 rfl;subst h2;clear hz hlen;go_wp2_with fail;refine (HJS.out V1 F2 w5 acc id1 _ (xb.drop 4) HS5.out.j HS5.out.envr HS5.out.subV HSL.out (by have:=HLN.out;simp;omega) HAL.out).mono ?_;rintro e w6 ⟨V6,F6,rfl,hJ6,hX6⟩;have HNX:=oh (HS5.out.clo hX6 hJ6);clear hJ6 hX6;go_wp2_with fail;go_roundg m
         case measure=>omega
         case rel=>exact⟨((0:Nat):Int),(wt:Int)-(wt:Int),P2,V6,F6,acc++[(id1,xb.drop 4)],by first|rfl|exact zEq (by omega),by first|rfl|exact zEq (by omega),by omega,by omega,by omega,⟨by omega,by omega⟩,oh ⟨HNX.out,HNXT.out.1,by have:=HW.out.2.2.1;simp;omega,HNXT.out.2.1,HNXT.out.2.2⟩⟩
        .have h2:n1≠(wt:Int):=λe=>h1 (hz.2 e)
         have b2:(n1 == (wt:Int))=false:=uS.2 h2;have b3:((nx:Int) == 0)=false:=uS.2 (by omega);clear hz hlen h1 h2;go_wp2_with fail;refine (HJS.out V1 F2 w5 acc id1 _ (xb.drop 4) HS5.out.j HS5.out.envr HS5.out.subV HSL.out (by have:=HLN.out;simp;omega) HAL.out).mono ?_;rintro e w6 ⟨V6,F6,rfl,hJ6,hX6⟩;have HNX:=oh (HS5.out.clo hX6 hJ6);clear hJ6 hX6;go_wp2_with fail;go_roundg m
         case measure=>omega
         case rel=>exact⟨(nx:Int),n1-(wt:Int),P2,V6,F6,acc++[(id1,xb.drop 4)],by first|rfl|exact zEq (by omega),by first|rfl|exact zEq (by omega),by omega,by omega,by omega,⟨by omega,by omega⟩,oh ⟨HNX.out,HNXT.out.1,by have:=HW.out.2.2.1;simp;omega,HNXT.out.2.1,HNXT.out.2.2⟩⟩
       .have HPB:Hid (jO G.size ⟨4,xi,xg,xb⟩ n1=true):=oh (by
         unfold jO;rw[<- HTK.out,HWT.out];by_cases h1:nx=0 <;> by_cases h2:n1=(wt:Int) <;> simp[h1,h2] at hz ⊢)
        by_cases h1:nx=0
        .subst h1;have h2:n1≠(wt:Int):=λe=>hz ⟨λ_=>e,λ_=>rfl⟩
         have b2:(n1 == (wt:Int))=false:=uS.2 h2;clear hz hlen h2;go_wp2_with fail;refine (jY HL5.out _ id1 _ _ 5 (.sent 5 (by decide) (by decide))).mono ?_;rintro e w6 ⟨f6,rfl,hE6,hm6⟩;have HE6:=oh hE6;have HM6:=oh hm6;clear hE6 hm6;go_wp2_with fail;go_ret;exact BADT.out w6 f6 HPB.out HM6.out HE6.out
        .have h2:n1=(wt:Int):=Classical.byContradiction (λe=>hz ⟨λh=>absurd h h1,λh=>absurd h e⟩);have b2:(n1 == (wt:Int))=true:=rC.2 h2;have b3:((nx:Int) == 0)=false:=uS.2 (by omega);clear hz hlen h2;go_wp2_with fail;refine (jY HL5.out _ id1 _ _ 5 (.sent 5 (by decide) (by decide))).mono ?_;rintro e w6 ⟨f6,rfl,hE6,hm6⟩;have HE6:=oh hE6;have HM6:=oh hm6;clear hE6 hm6;go_wp2_with fail;go_ret;exact BADT.out w6 f6 HPB.out HM6.out HE6.out
      .have b1:((xb.length:Int) != 4+(wt:Int))=true:=bne_iff_ne.2 hlen;have b1':((xb.length:Int) == 4+(wt:Int))=false:=uS.2 hlen;have HPB:Hid (jO G.size ⟨4,xi,xg,xb⟩ n1=true):=oh (by
        unfold jO;rw[<- HTK.out,HWT.out];simp[hlen])
       clear hlen;go_wp2_with fail;refine (jY HL5.out _ id1 _ _ 5 (.sent 5 (by decide) (by decide))).mono ?_;rintro e w6 ⟨f6,rfl,hE6,hm6⟩;have HE6:=oh hE6;have HM6:=oh hm6;clear hE6 hm6;go_wp2_with fail;go_ret;exact BADT.out w6 f6 HPB.out HM6.out HE6.out
     .have b1:(xk != 4)=true:=bne_iff_ne.2 hk4;have b1':(xk == 4)=false:=uS.2 hk4;have HPB:Hid (jO G.size ⟨xk,xi,xg,xb⟩ n1=true):=oh (by
       unfold jO;rw[<- HTK.out];simp[hk4])
      clear hk4;go_wp2_with fail;refine (jY HL5.out _ id1 _ _ 5 (.sent 5 (by decide) (by decide))).mono ?_;rintro e w6 ⟨f6,rfl,hE6,hm6⟩;have HE6:=oh hE6;have HM6:=oh hm6;clear hE6 hm6;go_wp2_with fail;go_ret;exact BADT.out w6 f6 HPB.out HM6.out HE6.out
   .have HX:=oh hx;have HE:=oh hE;clear hx hE;simp only[qF,zHt];go_wp2_with fail;go_ret;have hS:=HS2.out.ext HJN.out ((zss w2).alloc gE);refine⟨P2,V1,F2,_,rfl,hS.pg,hS.nx,?_,hS.apart,?_⟩
    .have h8:=HW.out.2.2.2.1;rw[qU,if_neg (by omega),HX.out,wJ] at h8;rw[<- h8];exact hS.j
    .have h9:=HW.out.2.2.2.2;rw[qU,if_neg (by omega),HX.out] at h9;rw[<- h9];exact⟨f,rfl,HE.out.mods (zr.alloc _)⟩
  .go_wp2_with fail;go_ret;have hz:qU G gk id1 n1=([],none):=by
    cases gk with
    | zero=>rfl
    | succ k=>rw[qU,if_pos (by omega)]
   have h8:=HW.out.2.2.2.1;have h9:=HW.out.2.2.2.2;rw[hz] at h8 h9;refine⟨P1,V1,F1,_,rfl,HW.out.1.pg,HW.out.1.nx,?_,HW.out.1.apart,?_⟩
   .rw[<- h8,wJ];exact HW.out.1.j
   .rw[<- h9];rfl
end
theorem zBl{P:Program}{F:NP}{w:World}{src dst e:TypeId}(hs:P.underlying src=some (.slice e))(he:P.underlying e=some (.int .u8))(hd:P.underlying dst=some .string){v:Value}{l:List UInt8}(h:Sl F w 1 zO v l) :
  (convert src dst v).run P w=.ok (.string ⟨l.toArray⟩) w:=by
 obtain⟨a,cap,rfl,h1,h2,h3,h4⟩:=h;rcases h4 with h4|⟨b,off,rfl,hb,hF,hc⟩
 .subst h4;rw[run_convert_bytes_string w src dst e _ _ cap hs he hd];cases a <;> simp[Conv.bytesToString,loadCells,loadCellsFrom] <;> rfl
 .have:=run_convert_bytes_arg (P:=P) w src e hs he b off l.length cap (l.map λx=>(x.toNat:Int)) (by simp) (λi hi=>by
   have h5:=hc i l[i] (uA hi) 0 _ rfl;simp only[uY,uO] at h5;rw[h5];simp[List.getD,hi]) dst hd
  rw[this];congr 3
  unfold strOfNums;simp only[List.map_map];congr 2
  have:((λn:Int=>UInt8.ofNat n.toNat) ∘ λx:UInt8=>(x.toNat:Int))=id:=by funext x;simp
  rw[this,List.map_id]
section
variable {P P' F F':NP}{ad:Nat->Addr}{w w':World}{c s:Nat}{G G':GA}{l l':List Nat}
theorem zU.comp{V V' F1 F2:NP}{w1 w2:World}(n1:zU P P F F1 ad w w1)(n2:zU (U P V) (U P' V') F1 F2 ad w1 w2)(hV:∀k,V k->w.heap.size<=k):zU P P' F F2 ad w w2 :=
 ⟨⟨n1.stp.mods.trans' n2.stp.mods (λi hi h=>h.elim id (λhv=>by have:=hV i hv;omega)),λk hk h=>(n2.stp.old k (uG hk n1.stp.mods.size) (.inl h)).elim id (λhv=>by have:=hV k hv;omega),λk h=>n2.stp.bd k (.inl h)⟩,
  λk h=>n2.sub k (.inl h),λk h=>n2.grow k (n1.grow k h),λk hk h=>n1.oldF k hk (n2.oldF k (uG hk n1.stp.mods.size) h),n2.env⟩
theorem zOB(a b:List UInt8):(⟨a.toArray⟩:ByteArray) ++ ⟨b.toArray⟩=⟨(a++b).toArray⟩:=by
 apply pQ;simp
def zJN(b:Nat)(V _F:NP)(w:World)(acc:List (Int × List UInt8)):Prop:=(∀k,V k ↔ k=b)/\zK w b #[.string ⟨(acc.flatMap (·.2)).toArray⟩] 9 /\ (acc.flatMap (·.2)).length<=1000 * acc.length
theorem zJN.keep(b:Nat):zLM (zJN b) ad:=λ_ _ _ _ _ _ _ _ h n hap=>⟨h.1,n.blk h.2.1 (λhp=>hap b hp ((h.1 b).2 rfl)),h.2.2⟩
theorem zOz(b:Nat)(V1 F1:NP)(w1:World)(acc:List (Int × List UInt8))(id:Int)(sv:Value)(x:List UInt8)(h:zJN b V1 F1 w1 acc)(hL:yE F1 ad w1)(hV:∀k,V1 k->F1 k)(hs:Sl F1 w1 1 zO sv x)(hx:x.length<=1000)(hacc:acc.length<=4096) :
  Calls Tryz.prog 332 #[.int .i64 id,sv,.pointer (some ⟨b,0,none⟩)] w1 λe w2=>∃V2 F2,e=.returned (.tuple #[])/\zJN b V2 F2 w2 (acc++[(id,x)])/\zU V1 V2 F1 F2 ad w1 w2:=by
 have c0:=h.2.1.d 0 (.string ⟨(acc.flatMap (·.2)).toArray⟩) rfl;have f0:=h.2.1.frozen 0;have hcv:=zBl (P:=Tryz.prog) Tryz.underlying27 Tryz.underlying5 Tryz.underlying9 hs;obtain⟨S,hS⟩:∃S,S=(acc.flatMap (·.2)):=⟨_,rfl⟩;have hSl:=h.2.2;rw[<- hS] at c0 hSl;have hSl2:S.length<=4096000:=by omega
 have HS:=oh hS;have HH:=oh h;have HL:=oh hL;have HV:=oh hV;clear h hL hV hs hS
 go_enter Tryz.func332, Tryz.ntmps332
 go_wp2_with fail;go_end0
 have e1:(acc++[(id,x)]).flatMap (·.2)=S++x:=by rw[tB,HS.out];simp
 refine⟨V1,F1,rfl,⟨HH.out.1,?_,?_⟩,zU.same HL.out HV.out (zA.at _ _ b 0 _ ((HH.out.1 b).2 rfl))⟩
 .have:=HH.out.2.1.set 0 (.string ⟨(S++x).toArray⟩);rw[e1,<- zOB];rw[<- zOB] at this;simpa using this
 .rw[e1];simp;omega
def zJO(b:Nat)(V _F:NP)(w:World)(acc:List (Int × List UInt8)):Prop :=
 ∃iv,zK w b #[iv] 78 /\ yA (λ_=>False) w b 3 1 yL iv (acc.map (·.1))/\iv.ownBlock≠some b/\∀k,V k ↔ (k=b\/iv.ownBlock=some k)
theorem zJO.keep(b:Nat):zLM (zJO b) ad:=λ_ _ _ _ _ _ _ _ ⟨iv,h1,h2,h3,h4⟩ n hap =>
 ⟨iv,n.blk h1 (λhp=>hap b hp ((h4 b).2 (.inl rfl))),h2.mods n.stp.mods (λg hg hp=>hap g hp ((h4 g).2 (.inr hg))),h3,h4⟩
theorem zO0(b:Nat)(V1 F1:NP)(w1:World)(acc:List (Int × List UInt8))(id:Int)(sv:Value)(h:zJO b V1 F1 w1 acc)(hL:yE F1 ad w1)(hV:∀k,V1 k->F1 k)(hacc:acc.length<=4096)(x:List UInt8) :
  Calls Tryz.prog 372 #[.int .i64 id,sv,.pointer (some ⟨b,0,none⟩)] w1 λe w2=>∃V2 F2,e=.returned (.tuple #[])/\zJO b V2 F2 w2 (acc++[(id,x)])/\zU V1 V2 F1 F2 ad w1 w2:=by
 obtain⟨iv,k1,k2,k3,k4⟩:=h;obtain⟨ia,icap,rfl,_⟩:=k2.form;have c0:=k1.d 0 (.slice ia (acc.map (·.1)).length icap) rfl;have f0:=k1.frozen 0;have hbl:=k1.lt;obtain⟨A,hA⟩:∃A,A=acc.map (·.1):=⟨_,rfl⟩;have hAl:A.length<=4096:=by rw[hA];simpa using hacc
 rw[<- hA] at c0 k1 k2 k3 k4;have HA:=oh hA;have K1:=oh k1;have K2:=oh k2;have K3:=oh k3;have K4:=oh k4;have HL:=oh hL;have HV:=oh hV;clear hA k1 k2 k3 k4 hL hV hacc
 go_enter Tryz.func372, Tryz.ntmps372
 go_wp2_with (at_builtin;refine yC Tryz.elI jR rfl _ _ rfl b (.slice ia A.length icap) (.slice (some ⟨w1.heap.size,0,none⟩) 1 1) A [id] rfl rfl (K2.out.ext (zr.alloc _)) (Sl.one (F:=λ_=>False) (x:=id) (t := 3) (fz:=(0,0)) (zM rfl) (λf=>f)) (by simp;omega) (uT (Nat.le_of_lt hbl) (by simp)) (λf=>f) ?_;intro a' c' w4 hown hmod hat;have y0:=(zJG hmod (zJH ⟨c0,f0⟩ (.cells #[.int .i64 id] 3)) K3.out).1;have y1:=(zJG hmod (zJH ⟨c0,f0⟩ (.cells #[.int .i64 id] 3)) K3.out).2);go_end0
 have hB4:=(K1.out.alloc (.cells #[.int .i64 id] 3)).mods hmod K3.out;have hsz:=hmod.size;simp only[World.alloc] at hsz;have hne:(Value.slice a' (A.length + [id].length) c').ownBlock≠some b:=λe=>by
  rcases hat with e2|e2
  .exact K3.out (e2 ▸ e)
  .rw[e2] at e;injection e with e;simp at e;omega
 have m1:zA V1 w1 w4:=((zss w1).alloc (.cells #[.int .i64 id] 3)).trans (hmod.mono (λk hk=>(K4.out k).2 (.inr hk)));have m2:=m1.setCell (p:=⟨b,0,none⟩) (.inr ((K4.out b).2 (.inl rfl))) (.slice a' (A.length + [id].length) c');have st:Stp V1 (λk=>k=b\/(Value.slice a' (A.length + [id].length) c').ownBlock=some k) w1 (w4.setCell ⟨b,0,none⟩ (.slice a' (A.length + [id].length) c')):=by
  refine⟨m2,λk hk hf=>?_,λk hf=>?_⟩
  .rcases hf with rfl|hf
   .exact (K4.out k).2 (.inl rfl)
   .rcases hat with e2|e2
    .exact (K4.out k).2 (.inr (e2 ▸ hf))
    .rw[e2] at hf;injection hf with hf;simp at hf;omega
  .rcases hf with rfl|hf
   .exact uG hbl m2.size
   .have:=(hown.lt k hf).2;simpa[World.setCell] using this
 refine⟨_,_,rfl,⟨.slice a' (A.length + [id].length) c',?_,?_,hne,λk=>pB⟩,zU.of HL.out HV.out st⟩
 .have:=hB4.set 0 (.slice a' (A.length + [id].length) c');simpa using this
 .have h1:=hown.mods (zA.at (λk=>k=b) w4 b 0 (.slice a' (A.length + [id].length) c') rfl) (λg hg e=>hne (e ▸ hg));rw[pS,<- HA.out];exact h1
end
section
variable {P P' F F':NP}{ad:Nat->Addr}{w w':World}{c s:Nat}{G G':GA}{l l':List Nat}
def zAc(G:GA)(id n:Int):Option Err :=
 match zAx n with
 | some e=>some e
 | none=>zQF (qU G n.toNat id n).2
def zQe(F P:NP)(ad:Nat->Addr)(w:World)(c s:Nat)(G:GA)(l:List Nat)(id n:Int)(e:Ending)(w':World):Prop :=
  ∃(P' F':NP),vJ F' w' P' c s G l/\zU P P' F F' ad w w' /\
    ((zAc G id n = none /\ e = .returned (.tuple #[.string ⟨((qU G n.toNat id n).1.flatMap (·.2)).toArray⟩, .nilIface])) \/
     (∃(er:Err) (f:Nat),zAc G id n=some er/\e=.returned (.tuple #[.string ⟨#[]⟩,zI f])/\yN F' ad w' (zI f) er.1 er.2))
def zQf(F P:NP)(ad:Nat->Addr)(w:World)(c s:Nat)(G:GA)(l:List Nat)(id n:Int)(e:Ending)(w':World):Prop :=
  ∃(P' F':NP),vJ F' w' P' c s G l/\zU P P' F F' ad w w' /\
    ((zAc G id n = none /\ ∃ iv, e = .returned (.tuple #[iv, .nilIface]) /\ Sl P' w' 1 yL iv ((qU G n.toNat id n).1.map (·.1))) \/
     (∃(er:Err) (f:Nat),zAc G id n=some er/\e=.returned (.tuple #[.slice none 0 0,zI f])/\yN F' ad w' (zI f) er.1 er.2))
theorem vJ.plusNew(h:vJ F w P c s G l)(_hP:∀k,P k->F k){Q:NP}(m:zG w w')(hQ:∀k,Q k->w.heap.size<=k):vJ (λk=>F k\/Q k) w' P c s G l :=
 h.plus (Q:=λ_=>False) m (λ_ _ f=>f) (λ_ f=>f.elim) (λk hk hn hf=>hf.elim hn (λhq=>by have:=hQ k hq;omega))
theorem zU.new(hL:yE F ad w)(hP:∀k,P k->F k){Q:NP}(m:zG w w')(hQ:∀k,Q k->w.heap.size<=k)(hQ2:∀k,Q k->k<w'.heap.size):zU P P F (λk=>F k\/Q k) ad w w' :=
 ⟨Stp.ext (λk h=>hL.lt k (hP k h)) m,λk h=>.inl (hP k h),λ_ h=>.inl h,λk hk h=>h.elim id (λhq=>by have:=hQ k hq;omega),
  hL.step m.ext (λk hk hn hf=>hf.elim hn (λhq=>by have:=hQ k hq;omega)) (λk hf=>hf.elim (λhf=>uG (hL.lt k hf) m.size) (hQ2 k))⟩
theorem Tryz.enterR(args:Array Value)(w:World):(callFunc 332 args).run Tryz.prog w=.ok (.enter 332 args) w:=by kernel_rfl
theorem Tryz.enterL(args:Array Value)(w:World):(callFunc 372 args).run Tryz.prog w=.ok (.enter 372 args) w:=by kernel_rfl
theorem zM8(hL:yE F ad w)(hP:∀k,P k->F k)(h:vJ F w P c s G l)(gen:Nat)(id n:Int)(hid : -9223372036854775808<=id/\id<=9223372036854775807)(hok:25<=n->n<=4096->zBH G n.toNat id n) :
  Calls Tryz.prog 264 #[pgV c s gen,.int .i64 id,.int .i64 n] w (zQe F P ad w c s G l id n):=by
 unfold pgV;have m0:zG w (w.alloc (gP c s gen)):=(zss w).alloc _;have HB0:=oh (zK.new w (gP c s gen) 140);have HX0:=oh (zU.ext hL hP m0);have HL:=oh hL;have HP:=oh hP;have HG:=oh h;have HOK:=oh hok;have HM0:=oh m0;clear hL hP h m0 hok
 go_enter Tryz.func264, Tryz.ntmps264
 go_wp2_with fail;refine (zEY HX0.out.env _ gen n).mono ?_;rintro e w1 ⟨ev,rfl,hE,hm1⟩;have HM1:=oh (HM0.out.trans hm1);have hB1:=HB0.out.ext hm1;have r0:=hB1.d 0 (.pointer (some ⟨c,0,none⟩)) rfl;have r1:=hB1.d 1 (.pointer (some ⟨s,0,none⟩)) rfl;have r2:=hB1.d 2 (.int .u64 (gen:Int)) rfl;have hbl:=hB1.lt;cases hck:zAx n with
 | some er =>
  obtain⟨el,ek⟩:=er;rw[hck] at hE;obtain⟨f,rfl,hE⟩:=hE;have HE:=oh hE;have HK:Hid (zAc G id n=some (el,ek)):=oh (by unfold zAc;rw[hck]);clear hE hck hm1 hB1;go_wp2_with fail;go_ret2
  exact⟨P,F,HG.out.at HM1.out,zU.ext HL.out HP.out HM1.out,.inr ⟨(el,ek),f,HK.out,rfl,HE.out⟩⟩
 | none =>
  rw[hck] at hE;cases hE
  have hn:25<=n/\n<=4096:=by unfold zAx at hck;split at hck;cases hck;omega
  obtain⟨hn1,hn2⟩:=hn;have HCK:=oh hck;have m1:zG w (w1.alloc (.cells #[.string ⟨#[]⟩] 9)):=HM1.out.alloc _;have HN1:=oh (zU.new (Q:=λk=>k=w1.heap.size) HL.out HP.out m1 (λk hk=>hk ▸ HM1.out.size) (λk hk=>by rw[hk];simp));have HG1:=oh (HG.out.plusNew HP.out (Q:=λk=>k=w1.heap.size) m1 (λk hk=>hk ▸ HM1.out.size));have HBV:=oh (zK.new w1 #[.string ⟨#[]⟩] 9);have HBD:=oh HG.out.bd;clear hck hm1 hB1;go_wp2_with fail;refine (zLN (zJN w1.heap.size) (λk=>k=w1.heap.size) HN1.out.env HN1.out.sub (λk hk=>.inr hk) (λk hk hv=>by have:=HBD.out k hk;have:=HM1.out.size;omega) HG1.out gen id n (by omega) n.toNat (by omega) (HOK.out hn1 hn2) 332 (.pointer (some ⟨w1.heap.size,0,none⟩)) hid (by omega) Tryz.enterR ⟨λk=>pB,HBV.out,by simp⟩ (zJN.keep _) (λV1 F1 w2 acc id sv b j1 j2 j3 j4 j5 j6=>zOz _ V1 F1 w2 acc id sv b j1 j2 j3 j4 j5 j6)).mono ?_;rintro e w3 ⟨P3,V3,F3,ev,rfl,hG3,hN3,hJ3,hA3,hE3⟩;have HN3:=oh (HN1.out.comp hN3 (λk hk=>by rw[hk];exact HM1.out.size));have HG3:=oh hG3;have hc:=hJ3.2.1.d 0 (.string ⟨((qU G n.toNat id n).1.flatMap (·.2)).toArray⟩) rfl;obtain⟨wk,hwk⟩:∃x,x=qU G n.toNat id n:=⟨_,rfl⟩;rw[<- hwk] at hc hE3;obtain⟨wr1,we⟩:=wk;have HWK:=oh hwk;simp only at hc hE3;clear hG3 hN3 hJ3 hA3 hwk;cases we with
  | none =>
   cases hE3
   have HK:Hid (zAc G id n=none):=oh (by unfold zAc;rw[HCK.out,<- HWK.out];rfl);go_wp2_with fail;go_ret2
   exact⟨P3,F3,HG3.out,HN3.out,.inl ⟨HK.out,by rw[<- HWK.out];rfl⟩⟩
  | some er =>
   obtain⟨el,ek⟩:=er;obtain⟨f,rfl,hE3⟩:=hE3;have HE3:=oh hE3;have HK:Hid (zAc G id n=some (-1 :: el,ek)):=oh (by unfold zAc;rw[HCK.out,<- HWK.out];rfl);clear hE3;go_wp2_with fail;refine (wrap_any HN3.out.env _ _ el ek HE3.out).mono ?_;rintro e w4 ⟨f4,rfl,hE4,hm4⟩;have HE4:=oh hE4;have HM4:=oh hm4;clear hE4 hm4;go_wp2_with fail;go_ret2
   exact⟨P3,F3,HG3.out.at HM4.out,HN3.out.trans (zU.ext HN3.out.env HN3.out.sub HM4.out),.inr ⟨(-1 :: el,ek),f4,HK.out,rfl,HE4.out⟩⟩
end
section
theorem zJP(G:GA):∀(f:Nat) (id n:Int),(qU G f id n).1.length<=f
 | 0,_,_=>by simp[qU]
 | f+1,id,n=>by
  rw[qU];split
  .simp
  .split
   .simp
   .split
    .simp
    .have:=zJP G f;simp only[uD];exact Nat.succ_le_succ (this _ _)
variable {P P' F F':NP}{ad:Nat->Addr}{w w':World}{c s:Nat}{G G':GA}{l l':List Nat}
def zO1(F P:NP)(ad:Nat->Addr)(w:World)(c s:Nat)(G:GA)(l:List Nat)(id n:Int)(e:Ending)(w':World):Prop :=
  ∃(P' F':NP),vJ F' w' P' c s G l/\zU P P' F F' ad w w' /\
    ((zAc G id n = none /\ ∃ iv, e = .returned (.tuple #[iv, .nilIface]) /\ Sl P' w' 1 yL iv ((qU G n.toNat id n).1.map (·.1)) /\ ∀ g, iv.ownBlock = some g -> w.heap.size <= g) \/
     (∃(er:Err) (f:Nat),zAc G id n=some er/\e=.returned (.tuple #[.slice none 0 0,zI f])/\yN F' ad w' (zI f) er.1 er.2))
theorem zLO(hL:yE F ad w)(hP:∀k,P k->F k)(h:vJ F w P c s G l)(gen:Nat)(id n:Int)(hid : -9223372036854775808<=id/\id<=9223372036854775807)(hok:25<=n->n<=4096->zBH G n.toNat id n) :
  Calls Tryz.prog 334 #[pgV c s gen,.int .i64 id,.int .i64 n] w (zO1 F P ad w c s G l id n):=by
 unfold pgV;have m0:zG w (w.alloc (gP c s gen)):=(zss w).alloc _;have HB0:=oh (zK.new w (gP c s gen) 140);have HX0:=oh (zU.ext hL hP m0);have HL:=oh hL;have HP:=oh hP;have HG:=oh h;have HOK:=oh hok;have HM0:=oh m0;clear hL hP h m0 hok
 go_enter Tryz.func334, Tryz.ntmps334
 go_wp2_with fail;refine (zEY HX0.out.env _ gen n).mono ?_;rintro e w1 ⟨ev,rfl,hE,hm1⟩;have HM1:=oh (HM0.out.trans hm1);have hB1:=HB0.out.ext hm1;have r0:=hB1.d 0 (.pointer (some ⟨c,0,none⟩)) rfl;have r1:=hB1.d 1 (.pointer (some ⟨s,0,none⟩)) rfl;have r2:=hB1.d 2 (.int .u64 (gen:Int)) rfl;have hbl:=hB1.lt;cases hck:zAx n with
 | some er =>
  obtain⟨el,ek⟩:=er;rw[hck] at hE;obtain⟨f,rfl,hE⟩:=hE;have HE:=oh hE;have HK:Hid (zAc G id n=some (el,ek)):=oh (by unfold zAc;rw[hck]);clear hE hck hm1 hB1;go_wp2_with fail;go_ret2
  exact⟨P,F,HG.out.at HM1.out,zU.ext HL.out HP.out HM1.out,.inr ⟨(el,ek),f,HK.out,rfl,HE.out⟩⟩
 | none =>
  rw[hck] at hE;cases hE
  have hn:25<=n/\n<=4096:=by unfold zAx at hck;split at hck;cases hck;omega
  obtain⟨hn1,hn2⟩:=hn;have HCK:=oh hck;have m1:zG w (w1.alloc (.cells #[.slice none 0 0] 78)):=HM1.out.alloc _;have HN1:=oh (zU.new (Q:=λk=>k=w1.heap.size) HL.out HP.out m1 (λk hk=>hk ▸ HM1.out.size) (λk hk=>by rw[hk];simp));have HG1:=oh (HG.out.plusNew HP.out (Q:=λk=>k=w1.heap.size) m1 (λk hk=>hk ▸ HM1.out.size));have HBV:=oh (zK.new w1 #[.slice none 0 0] 78);have HBD:=oh HG.out.bd;clear hck hm1 hB1;go_wp2_with fail;refine (zLN (zJO w1.heap.size) (λk=>k=w1.heap.size) HN1.out.env HN1.out.sub (λk hk=>.inr hk) (λk hk hv=>by have:=HBD.out k hk;have:=HM1.out.size;omega) HG1.out gen id n (by omega) n.toNat (by omega) (HOK.out hn1 hn2) 372 (.pointer (some ⟨w1.heap.size,0,none⟩)) hid (by omega) Tryz.enterL ⟨.slice none 0 0,HBV.out,yA.nil _ _ _ _ _ _,by simp[Value.ownBlock],λk=>by simp[Value.ownBlock]⟩ (zJO.keep _) (λV1 F1 w2 acc id sv b j1 j2 j3 j4 j5 j6=>zO0 _ V1 F1 w2 acc id sv j1 j2 j3 j6 b)).mono ?_;rintro e w3 ⟨P3,V3,F3,ev,rfl,hG3,hN3,hJ3,hA3,hE3⟩;have HN3:=oh (HN1.out.comp hN3 (λk hk=>by rw[hk];exact HM1.out.size));have HG3:=oh hG3;obtain⟨iv,q1,q2,q3,q4⟩:=hJ3;have hc:=q1.d 0 iv rfl;have HSl:Hid (((qU G n.toNat id n).1.map (·.1)).length<=140737488355328->Sl P3 w3 1 yL iv ((qU G n.toNat id n).1.map (·.1))):=oh (λhl=>yA.sl (F:=P3) (q2.blocks (λg hg hp=>hA3 g hp ((q4 g).2 (.inr hg)))) jR.len hl);have HFR:Hid (∀g,iv.ownBlock=some g->w.heap.size<=g):=oh (λg hg=>uT HM1.out.size (q2.lt g hg).1);obtain⟨wk,hwk⟩:∃x,x=qU G n.toNat id n:=⟨_,rfl⟩;rw[<- hwk] at hE3 HSl;have HLEN:Hid ((qU G n.toNat id n).1.length<=4096):=oh (by have:=zJP G n.toNat id n;omega);obtain⟨wr1,we⟩:=wk;have HWK:=oh hwk;simp only at hE3;clear hG3 hN3 hA3 hwk q1 q2 q3 q4;cases we with
  | none =>
   cases hE3
   have HK:Hid (zAc G id n=none):=oh (by unfold zAc;rw[HCK.out,<- HWK.out];rfl);go_wp2_with fail;go_ret2
   exact⟨P3,F3,HG3.out,HN3.out,.inl ⟨HK.out,iv,rfl,by
    have:=HLEN.out;rw[<- HWK.out] at this ⊢;exact HSl.out (by rw[wP];exact uT this (by omega)),HFR.out⟩⟩
  | some er =>
   obtain⟨el,ek⟩:=er;obtain⟨f,rfl,hE3⟩:=hE3;have HE3:=oh hE3;have HK:Hid (zAc G id n=some (-1 :: el,ek)):=oh (by unfold zAc;rw[HCK.out,<- HWK.out];rfl);clear hE3;go_wp2_with fail;refine (wrap_any HN3.out.env _ _ el ek HE3.out).mono ?_;rintro e w4 ⟨f4,rfl,hE4,hm4⟩;have HE4:=oh hE4;have HM4:=oh hm4;clear hE4 hm4;go_wp2_with fail;go_ret2
   exact⟨P3,F3,HG3.out.at HM4.out,HN3.out.trans (zU.ext HN3.out.env HN3.out.sub HM4.out),.inr ⟨(-1 :: el,ek),f4,HK.out,rfl,HE4.out⟩⟩
theorem zM9(hL:yE F ad w)(hP:∀k,P k->F k)(h:vJ F w P c s G l)(gen:Nat)(id n:Int)(hid : -9223372036854775808<=id/\id<=9223372036854775807)(hok:25<=n->n<=4096->zBH G n.toNat id n) :
  Calls Tryz.prog 334 #[pgV c s gen,.int .i64 id,.int .i64 n] w (zQf F P ad w c s G l id n) :=
 (zLO hL hP h gen id n hid hok).mono λ_ _ ⟨P',F',g,nx,r⟩=>⟨P',F',g,nx,r.imp (λ⟨a,iv,b,d,_⟩=>⟨a,iv,b,d⟩) (λh=>h)⟩
theorem slN{v:Value}{x:List Nat}{y:List Int}(e:y=x.map (λk:Nat=>(k:Int)))(h:Sl P w 1 yL v y):Sl P w 1 zIw v x:=by
 subst e;obtain⟨a,cap,e1,h1,h2,h3,h4⟩:=h;refine⟨a,cap,by simpa using e1,by simpa using h1,h2,by simpa using h3,?_⟩;rcases h4 with h4|⟨b,off,ha,hb,hF,hc⟩
 .exact .inl (by simpa using h4)
 .exact .inr ⟨b,off,ha,hb,hF,λi z hz j u hu=>hc i (z:Int) (by simp[hz]) j u hu⟩
def zO2(F P:NP)(ad:Nat->Addr)(w:World)(c s:Nat)(G:GA)(l:List Nat)(id n:Int)(ids:List Nat)(e:Ending)(w':World):Prop :=
  ∃(P' F':NP) (G':GA) (l':List Nat),vJ F' w' P' c s G' l'/\zU P P' F F' ad w w' /\
    ((zAc G id n = none /\ G' = zAA G ids /\ l' = jN l ids /\ e = .returned .nilIface) \/
     (∃(er:Err) (f:Nat),zAc G id n=some er/\G'=G/\l'=l/\e=.returned (zI f)/\yN F' ad w' (zI f) (-1 :: er.1) er.2))
theorem zLP(hL:yE F ad w)(hP:∀k,P k->F k)(h:vJ F w P c s G l)(gen:Nat)(id n:Int)(hid : -9223372036854775808<=id/\id<=9223372036854775807)(hok:25<=n->n<=4096->zBH G n.toNat id n)
  (ids:List Nat) (hids:zAc G id n=none->(qU G n.toNat id n).1.map (·.1)=ids.map (λk:Nat=>(k:Int))/\zCc l ids) :
  Calls Tryz.prog 267 #[pgV c s gen,.int .i64 id,.int .i64 n] w (zO2 F P ad w c s G l id n ids):=by
 unfold pgV;have m0:zG w (w.alloc (gP c s gen)):=(zss w).alloc _;have HB0:=oh (zK.new w (gP c s gen) 140);have HX0:=oh (zU.ext hL hP m0);have HL:=oh hL;have HP:=oh hP;have HG:=oh (h.at m0);have HOK:=oh hok;have HI:=oh hids;have hnb:=λk (hk:P k)=>h.bd k hk
 have HNB:=oh hnb;clear hL hP h m0 hok hids hnb
 go_enter Tryz.func267, Tryz.ntmps267
 go_wp2_with fail;refine (zM9 HX0.out.env HX0.out.sub HG.out gen id n hid HOK.out).mono ?_;rintro e w1 ⟨P1,F1,hG1,hN1,hr⟩;have hB1:=hN1.blk HB0.out (λhp=>by have:=HNB.out _ hp;omega);have r0:=hB1.d 0 (.pointer (some ⟨c,0,none⟩)) rfl;have r1:=hB1.d 1 (.pointer (some ⟨s,0,none⟩)) rfl;have r2:=hB1.d 2 (.int .u64 (gen:Int)) rfl;have HG1:=oh hG1;have HN1:=oh (HX0.out.trans hN1);clear hG1 hN1 hB1;rcases hr with ⟨hk,iv,rfl,hiv⟩|⟨er,f,hk,rfl,hE⟩
 .obtain⟨i1,i2⟩:=HI.out hk;have HS:=oh (slN i1 hiv);have HK:=oh hk;have HI2:=oh i2;clear i1 i2 hiv hk;go_wp2_with fail;refine (zHw HN1.out.env HN1.out.sub HG1.out gen iv ids HS.out HI2.out).mono ?_;rintro e w2 ⟨P2,F2,hG2,hN2,rfl⟩;have HG2:=oh hG2;have HN2:=oh (HN1.out.trans hN2);clear hG2 hN2;go_wp2_with fail;refine (wrap_nil _ _).mono ?_;rintro e w3 ⟨rfl,rfl⟩;go_wp2_with fail;go_ret;exact⟨P2,F2,_,_,HG2.out,HN2.out,.inl ⟨HK.out,rfl,rfl,rfl⟩⟩
 .obtain⟨el,ek⟩:=er;have HE:=oh hE;have HK:=oh hk;clear hE hk;go_wp2_with fail;refine (wrap_any HN1.out.env _ _ el ek HE.out).mono ?_;rintro e w2 ⟨f2,rfl,hE2,hm2⟩;have HE2:=oh hE2;have HM2:=oh hm2;clear hE2 hm2;go_wp2_with fail;go_ret;exact⟨P1,F1,G,l,HG1.out.at HM2.out,HN1.out.trans (zU.ext HN1.out.env HN1.out.sub HM2.out),.inr ⟨(el,ek),f2,HK.out,rfl,rfl,rfl,HE2.out⟩⟩
end
section
variable {F:NP}{ad:Nat->Addr}{w:World}
def zJQ:Option Err->Nat
 | none=>0
 | some e=>e.2
end
theorem zG3(v:List UInt8)(nn:Nat):∀(c i:Nat),(List.range' i c).flatMap (zCK v nn)=(v.drop (i * nn)).take (c * nn)
 | 0,i=>by simp
 | c+1,i=>by
  rw[List.range'_succ,uZ,zG3 v nn c (i+1),zCK,show (c+1) * nn=nn+c * nn by rw[tU,Nat.add_comm],List.take_add,List.drop_drop,show (i+1) * nn=i * nn+nn from tU i nn]
theorem zNA(v:List UInt8)(nn m:Nat)(h:v.length<=m * nn):(List.range' 0 m).flatMap (zCK v nn)=v:=by
 rw[zG3];simp[wB h]
theorem zH1(next:Nat)(b:List UInt8)(hn:next<4294967296):yO (zV 4 next++b) 0 4=(next,none):=by
 unfold yO;rw[if_neg (by simp;omega),if_neg (by simp[zC];omega)];have e:((zV 4 next++b).drop (0:Int).toNat).take 4=zV 4 next:=by
  rw[Int.toNat_zero,List.drop_zero];exact rO (zC 4 next)
 rw[e,zFk,rL (by simpa using hn)]
theorem zO3(next:Nat)(b:List UInt8):(zV 4 next++b).drop 4=b:=List.drop_left' (zC 4 next)
theorem zO4(v:List UInt8)(nn i:Nat):(zCK v nn i).length=min nn (v.length-i * nn):=by simp[zCK]
structure Fit(n nn m:Nat):Prop where
 m1:1<=m
 n228:228<=nn
 lo:(m-1) * nn<n
 hi:n<=m * nn
theorem Fit.left{n nn m i:Nat}(h:Fit n nn m)(hi:i<m):i * nn<n:=by
 have:=rQ nn (show i<=m-1 by omega);have:=h.lo;omega
theorem Fit.more{n nn m i:Nat}(h:Fit n nn m)(hi:i+1<m):i * nn+nn<n:=by
 have:=h.left hi;rw[tU] at this;exact this
theorem Fit.last{n nn m i:Nat}(h:Fit n nn m)(hi:i+1=m):n<=i * nn+nn:=by
 have:=h.hi;rw[<- hi,tU] at this;exact this
theorem zNB(G:GA)(f:Nat)(id n:Int)(h:n<=0):qU G f id n=([],none):=by
 cases f with
 | zero=>rfl
 | succ f=>rw[qU,if_pos h]
theorem zLQ(G:GA)(f:Nat)(id n:Int)(h:n<=0):zBH G f id n:=by
 cases f with
 | zero=>trivial
 | succ f=>rw[zBH];intro h1;omega
theorem zLR{G:GA}{id:Nat}(hid:id<G.blocks){p:yF}(h:G.view id=some (.inl p)):G.get (id:Int)=.inl p:=by
 unfold GA.get GA.check;rw[if_neg (by omega)];simp only[uK,h]
theorem zCz:∀(a:List Nat) (G:GA),(zAA G a).blocks=G.blocks/\(zAA G a).size=G.size/\(zAA G a).cost=G.cost/\(zAA G a).look=G.look/\(zAA G a).last=G.last
 | [],_=>⟨rfl,rfl,rfl,rfl,rfl⟩
 | x :: a,G=>zCz a (G.drop x)
def zB(s:Nat):List UInt8:=List.replicate s 0
def zSg:List UInt8:=zB 256
def G0(n:Nat):GA:=⟨n,256,λid=>if id<n then some (yT zSg id) else none,λid=>if id<n then some zSg else none,λid=>if id<n then some zSg else none,0⟩
def NoB:NP:=λ_=>False
theorem zQg{w:World}{s b2:Nat}{l:List Nat}(h:SpR w s b2 l):∀k,spF s b2 k->k<w.heap.size:=λk hk=>by
 rcases hk with rfl|rfl
 .exact h.own.lt
 .exact h.row.lt
theorem zEZ(W:Nat)(hw:W=1\/W=2\/W=4\/W=8)(w:World) : Calls Tryz.prog 281 #[.int .i64 (W:Int)] w λe w'=>e=.returned (.bool true)/\w=w':=by
 rcases hw with rfl|rfl|rfl|rfl
 all_goals
  go_enter Tryz.func281, Tryz.ntmps281
  go_wp2_with fail;go_ret;exact⟨rfl,rfl⟩
theorem zNC(n W:Nat)(hw:W<=8)(hn:n<256 ^ W)(h64:n<18446744073709551616)(w:World) : Calls Tryz.prog 282 #[.int .u64 (n:Int),.int .i64 (W:Int)] w λe w'=>e=.returned (.bool true)/\zG w w':=by
 have HN:=oh hn;clear hn
 go_enter Tryz.func282, Tryz.ntmps282
 go_wp2_with fail;go_loopg [0,5] W (λq v0 v5 wr=>∃(k m:Nat),k+q=W/\v0=.int .u64 m/\v5=.int .i64 k/\m<18446744073709551616/\Hid (m=n / 256 ^ k)/\Hid (zG w wr))
 case atStart=>exact⟨0,n,by omega,rfl,rfl,h64,oh (by simp),oh (zss w)⟩
 case round =>
  obtain⟨k,m,hk,rfl,rfl,hm,HQ,HM⟩:=hrel;by_cases hltn:k<W
  .have hk8:k<8:=by omega
   go_wp2_with fail;go_roundg (gk-1)
   case measure=>omega
   case rel=>exact⟨k+1,m / 256,by omega,by go_num,by go_num,by omega,oh (by rw[HQ.out,Nat.div_div_eq_div_mul,tS]),HM⟩
  .obtain rfl:k=W:=by omega
   have hz:m=0:=by rw[HQ.out];exact Nat.div_eq_of_lt HN.out
   subst hz;go_wp2_with fail;go_ret;exact⟨rfl,HM.out⟩
theorem zLS:∀(k n:Nat),zV (k+1) n=zV k n++[UInt8.ofNat (n / 256 ^ k)]
 | 0,n=>by simp[zV]
 | k+1,n=>by
  rw[zV,zLS k (n / 256),zV,wX,Nat.div_div_eq_div_mul,tS,pL 256]
theorem zAk:∀(k n:Nat),(zV k n).length=k
 | 0,_=>rfl
 | k+1,n=>by rw[zV,uD,zAk k]
theorem zO5{F:NP}{w:World}(bv:Value)(l:List UInt8)(hb:Sl F w 1 zO bv l)(n W:Nat)(hw:W=1\/W=2\/W=4\/W=8)(hn:n<256 ^ W)(h64:n<18446744073709551616)(hlen:l.length<=1000000000) :
  Calls Tryz.prog 192 #[bv,.int .u64 (n:Int),.int .i64 (W:Int)] w λe w'=>∃a c,e=.returned (.tuple #[.slice a (l.length+W) c,.int .i64 0]) /\
   yA (λ_=>False) w' w.heap.size 5 1 zO (.slice a (l.length+W) c) (l++zV W n)/\zG w w':=by
 have hw8:W<=8:=by omega
 have HB:=oh hb;have HN:=oh hn;have HW:=oh hw;obtain⟨ba,bc,rfl,i1,i2,i3,i4⟩:=hb;clear i4 hn hw
 go_enter Tryz.func192, Tryz.ntmps192
 go_wp2_with fail;refine (zEZ W HW.out _).mono ?_;rintro e w1 ⟨rfl,rfl⟩;go_wp2_with fail;refine (zNC n W hw8 HN.out h64 _).mono ?_;rintro e w2 ⟨rfl,hm2⟩;have HM2:=oh hm2;have HSZ:=oh hm2.size;clear hm2;go_wp2_with (at_builtin;refine yC Tryz.elB yU rfl _ _ rfl w.heap.size (.slice (some ⟨w2.heap.size,0,none⟩) 0 0) _ ([]:List UInt8) l rfl rfl (yA.made (cur:=#[]) (b:=w2.heap.size) (cap:=0) (l:=([]:List UInt8)) (sz:=1) (enc:=zO) (F:=λ_=>False) (zK.new w2 #[] 5) HSZ.out (λf=>f) (by simp) (by simp[maxLen]) rfl rfl yU.len) (HB.out.ext (HM2.out.alloc _)) (by simp;omega) (uT HSZ.out (by simp)) (λf=>f) ?_;intro a' c' w4 hown hmod hat);have HM4:Hid (zG w w4):=oh ((HM2.out.alloc (.cells #[] 5)).trans' hmod (λi hi h=>by have:=HSZ.out;simp[Value.ownBlock] at h;omega));have HO4:=oh hown;clear hown hmod hat;go_loopg [1,8,9] W (λq v1 v8 v9 wr=>∃(k m:Nat),k+q=W/\v1=.int .u64 m/\v9=.int .i64 k/\m<18446744073709551616/\Hid (m=n / 256 ^ k)/\Hid (yA (λ_=>False) wr w.heap.size 5 1 zO v8 (l++zV k n))/\Hid (zG w wr))
 case atStart=>exact⟨0,n,by omega,rfl,rfl,h64,oh (by simp),oh (by simpa[zV] using HO4.out),HM4⟩
 case round =>
  obtain⟨k,m,hk,rfl,rfl,hm,HQ,HO,HM⟩:=hrel;by_cases hltn:k<W
  .obtain⟨R,hR⟩:∃R,R=l++zV k n:=⟨_,rfl⟩;have hfl:R.length=l.length+k:=by rw[hR,uC,zAk]
   have HS:Hid (l++zV (k+1) n=R++[UInt8.ofNat m]):=oh (by rw[zLS,HQ.out,hR,uM]);rw[<- hR] at HO;clear hR;obtain⟨a0,c0,rfl,_⟩:=HO.out.form;have HSZ2:=oh HM.out.size;have he:((UInt8.ofNat m).toNat:Int)=(m:Int) % 256:=by rw[UInt8.toNat_ofNat'];omega
   obtain⟨x,hx⟩:∃x,x=UInt8.ofNat m:=⟨_,rfl⟩;rw[<- hx] at HS he;clear hx;go_wp2_with (at_builtin;refine yC Tryz.elB yU rfl _ _ rfl w.heap.size (.slice a0 R.length c0) (.slice (some ⟨wr.heap.size,0,none⟩) 1 1) R [x] rfl rfl (HO.out.ext (zr.alloc _)) (Sl.one (F:=λ_=>False) (x:=x) (t := 5) (fz:=(0,0)) (by rw[show (zO x).toArray=#[.int .u8 ((m:Int) % 256)] by simp[zO,he]];exact zM rfl) (λf=>f)) (by simp[hfl];omega) (uT HSZ2.out (by simp)) (λf=>f) ?_;intro a5 c5 w5 hown hmod hat);go_roundg (gk-1)
   case measure=>omega
   case rel=>exact⟨k+1,m / 256,by omega,by go_num,by go_num,by omega,oh (by rw[HQ.out,Nat.div_div_eq_div_mul,tS]),oh (by rw[HS.out];simpa[hfl] using hown),oh ((HM.out.alloc _).trans' hmod (λi hi h=>by have:=(HO.out.lt i h).1;omega))⟩
  .obtain rfl:k=W:=by omega
   have hfl:(l++zV k n).length=l.length+k:=by rw[uC,zAk]
   obtain⟨a0,c0,rfl,_⟩:=HO.out.form;go_wp2_with fail;go_ret2
   exact⟨a0,c0,by rw[<- hfl];rfl,hfl ▸ HO.out,HM.out⟩
end Go.Proofs.YtgphfebjjedeaaaGreatDoor
