import Derived.Test.YtdnbmdghmmpgcaaGreatDoorQ19
namespace Go.Proofs.YtdnbmdghmmpgcaaGreatDoor
open Lib renaming hid->oh
set_option maxHeartbeats 4000000
set_option maxRecDepth 100000
open Go.RowKit
def jO(size:Nat)(x:yI)(n:Int):Bool :=
 (qO x.body 0 4).2.isSome || decide (x.kind≠4) || decide ((x.body.length:Int)≠4+min n ((size:Int)-28)) || (decide ((qO x.body 0 4).1=0) != decide (n=min n ((size:Int)-28)))
def qV(G:GA):Nat->Int->Int->List (Int × List UInt8) × Option Err
 | 0,_,_=>([],none)
 | f+1,id,n=>if n<=0 then ([],none) else
  match G.get id with
  | .inr e=>([],some e)
  | .inl x=>if jO G.size x n=true then ([],some ([zBm id],5)) else
   ((id,x.body.drop 4) :: (qV G f ((qO x.body 0 4).1:Nat) (n-min n ((G.size:Int)-28))).1,(qV G f ((qO x.body 0 4).1:Nat) (n-min n ((G.size:Int)-28))).2)
def zBI(G:GA):Nat->Int->Int->Prop
 | 0,_,_=>True
 | f+1,id,n=>0<n->G.knows id/\∀x,G.get id=.inl x->jO G.size x n=false->zBI G f ((qO x.body 0 4).1:Nat) (n-min n ((G.size:Int)-28))
def U(A B:Nat->Prop):Nat->Prop:=λk=>A k\/B k
structure WS(J:(Nat->Prop)->(Nat->Prop)->World->List (Int × List UInt8)->Prop)(P V F:Nat->Prop)(ad:Nat->Addr)(w:World)(B0 c s gen:Nat)(G:GA)(l:List Nat)(P1 V1 F1:Nat->Prop)(wr:World)(acc:List (Int × List UInt8)):Prop where
 pg:vH F1 wr P1 c s G l
 nx:zV (U P V) (U P1 V1) F F1 ad w wr
 box:zK wr B0 (gP c s gen) 142
 bP:¬ P1 B0
 bV:¬ V1 B0
 j:J V1 F1 wr acc
 apart:∀k,P1 k->¬ V1 k
def zH5(J:(Nat->Prop)->(Nat->Prop)->World->List (Int × List UInt8)->Prop)(F P V:Nat->Prop)(ad:Nat->Addr)(w:World)(c s:Nat)(G:GA)(l:List Nat)(r:List (Int × List UInt8) × Option Err)(e:Ending)(w':World):Prop :=
 ∃(P' V' F':Nat->Prop) (ev:Value),e=.returned ev/\vH F' w' P' c s G l/\zV (U P V) (U P' V') F F' ad w w'/\J V' F' w' r.1/\(∀k,P' k->¬ V' k)/\zCj F' ad w' ev r.2
def zLR(J:(Nat->Prop)->(Nat->Prop)->World->List (Int × List UInt8)->Prop)(ad:Nat->Addr):Prop :=
 ∀(P1 P2 V1 F1 F2:Nat->Prop) (w1 w2:World) (acc:List (Int × List UInt8)),J V1 F1 w1 acc->zV P1 P2 F1 F2 ad w1 w2->(∀k,P1 k->¬ V1 k)->J V1 F2 w2 acc
section
variable {J:(Nat->Prop)->(Nat->Prop)->World->List (Int × List UInt8)->Prop}{P V F P1 P2 V1 V2 F1 F2:Nat->Prop}{ad:Nat->Addr}{w wr w2:World}{B0 c s gen:Nat}{G:GA}{l:List Nat}{acc acc':List (Int × List UInt8)}
theorem WS.envr(h:WS J P V F ad w B0 c s gen G l P1 V1 F1 wr acc):yG F1 ad wr:=h.nx.env
theorem WS.subP(h:WS J P V F ad w B0 c s gen G l P1 V1 F1 wr acc):∀k,P1 k->F1 k:=λk hk=>h.nx.sub k (.inl hk)
theorem WS.subV(h:WS J P V F ad w B0 c s gen G l P1 V1 F1 wr acc):∀k,V1 k->F1 k:=λk hk=>h.nx.sub k (.inr hk)
theorem WS.nxt(h:WS J P V F ad w B0 c s gen G l P1 V1 F1 wr acc)(K:zLR J ad)(n:zV P1 P2 F1 F2 ad wr w2)(hG:vH F2 w2 P2 c s G l):WS J P V F ad w B0 c s gen G l P2 V1 F2 w2 acc :=
 ⟨hG,h.nx.trans (n.part (Q:=V1) h.subV h.envr),n.blk h.box h.bP,n.not h.box.lt h.bP,h.bV,K _ _ _ _ _ _ _ _ h.j n h.apart,λk hk hv=>by
  have hb:=h.nx.stp.bd k (.inr hv);exact h.apart k (n.stp.old k hb hk) hv⟩
theorem WS.ext(h:WS J P V F ad w B0 c s gen G l P1 V1 F1 wr acc)(K:zLR J ad)(m:zG wr w2):WS J P V F ad w B0 c s gen G l P1 V1 F1 w2 acc :=
 h.nxt K (zV.ext h.envr h.subP m) (h.pg.at m)
theorem WS.clo(h:WS J P V F ad w B0 c s gen G l P1 V1 F1 wr acc)(n:zV V1 V2 F1 F2 ad wr w2)(hj:J V2 F2 w2 acc'):WS J P V F ad w B0 c s gen G l P1 V2 F2 w2 acc':=by
 have hq:=n.part (Q:=P1) h.subP h.envr;have hq2:zV (U P1 V1) (U P1 V2) F1 F2 ad wr w2:=hq.iff (λk=>Or.comm) (λk=>Or.comm);refine⟨h.pg.plus n.stp.mods (λk hk hv=>h.apart k hk hv) h.subV (λk hk hn hf=>hn (n.oldF k hk hf)),h.nx.trans hq2,n.blk h.box h.bV,h.bP,n.not h.box.lt h.bV,hj,λk hk hv=>?_⟩;have hb:=h.nx.stp.bd k (.inl hk);exact h.apart k hk (n.stp.old k hb hv)
end
section
variable {P P' F F':Nat->Prop}{ad:Nat->Addr}{w w':World}{c s:Nat}{G G':GA}{l l':List Nat}
theorem zQU(b:List UInt8):(qO b 0 4).1<4294967296:=by
 unfold qO;split
 .simp
 .split
  .simp
  .have:=zE0 ((b.drop (0:Int).toNat).take 4);have h2:((b.drop (0:Int).toNat).take 4).length<=4:=List.length_take_le _ _;have h3:(256:Nat) ^ ((b.drop (0:Int).toNat).take 4).length<=256 ^ 4:=tH (by omega) h2;simp only;omega
theorem zLS(J:(Nat->Prop)->(Nat->Prop)->World->List (Int × List UInt8)->Prop)(V:Nat->Prop)(hL:yG F ad w)(hP:∀k,P k->F k)(hV:∀k,V k->F k)(hPV:∀k,P k->¬ V k)(h:vH F w P c s G l)(gen:Nat)(id n:Int)(hn:n<=4096)(fuel:Nat)(hf:n<=fuel)(hok:zBI G fuel id n)(fn:FuncId)(cv:Value)
  (hid : -9223372036854775808<=id/\id<=9223372036854775807) (hn0:0<=n)
  (hcf:∀(args:Array Value) (w:World),(callFunc fn args).run Tryz.prog w=.ok (.enter fn args) w)
  (hJ0:J V F w []) (hJn:zLR J ad)
  (hJs:∀(V1 F1:Nat->Prop) (w1:World) (acc:List (Int × List UInt8)) (id:Int) (sv:Value) (b:List UInt8),J V1 F1 w1 acc->yG F1 ad w1->(∀k,V1 k->F1 k)->Sl F1 w1 1 zT sv b->b.length<=1000->acc.length<=4096 ->
   Calls Tryz.prog fn #[.int .i64 id,sv,cv] w1 λe w2=>∃V2 F2,e=.returned (.tuple #[])/\J V2 F2 w2 (acc++[(id,b)])/\zV V1 V2 F1 F2 ad w1 w2) :
  Calls Tryz.prog 300 #[pgV c s gen,.int .i64 id,.int .i64 n,.func (.func fn) #[] #[cv]] w (zH5 J F P V ad w c s G l (qV G fuel id n)):=by
 unfold pgV;have hlim:=h.lim;have m0:zG w (w.alloc (gP c s gen)):=(zA.refl _ w).alloc _;have hs0:WS J P V F ad w w.heap.size c s gen G l P V F (w.alloc (gP c s gen)) []:=by
  have hn:=zV.ext hL (P:=U P V) (λk hk=>hk.elim (hP k) (hV k)) m0;exact⟨h.at m0,hn,zK.new w _ _,λf=>by have:=h.bd _ f;omega,λf=>by have:=hL.lt _ (hV _ f);omega,hJn _ _ _ _ _ _ _ _ hJ0 (zV.ext hL hP m0) hPV,hPV⟩
 have HS0:=oh hs0;have HJN:=oh hJn;have HJS:=oh hJs;have HOK:=oh hok;obtain⟨b8,b256,s256,s1024,_,_⟩:=hlim;obtain⟨nn,hnn⟩:∃nn,nn=G.size-28:=⟨_,rfl⟩;have hnI:(G.size:Int)-28=(nn:Int):=by omega
 have HNI:=oh hnI;have hnn2:228<=nn/\nn<=996:=by omega
 obtain⟨hnn3,hnn4⟩:=hnn2;clear hL hP h m0 hJ0 hJn hJs hok hnn hnI hV hPV hs0
 go_enter Tryz.func300, Tryz.ntmps300
 go_wp2_with fail;go_loopg [1,2] fuel (λm iv nv wr=>∃(id1 n1:Int) (P1 V1 F1:Nat->Prop) (acc:List (Int × List UInt8)),iv=.int .i64 id1/\nv=.int .i64 n1/\n1<=m/\0<=n1/\n1<=4096/\(-9223372036854775808<=id1/\id1<=9223372036854775807) /\
  Hid (WS J P V F ad w w.heap.size c s gen G l P1 V1 F1 wr acc/\zBI G m id1 n1/\(acc.length:Int)+n1<=4096/\acc++(qV G m id1 n1).1=(qV G fuel id n).1/\(qV G m id1 n1).2=(qV G fuel id n).2))
 case atStart=>exact⟨id,n,P,V,F,[],rfl,rfl,hf,hn0,hn,hid,oh ⟨HS0.out,HOK.out,by simpa using hn,by simp,rfl⟩⟩
 case round =>
  obtain⟨id1,n1,P1,V1,F1,acc,rfl,rfl,hf1,h01,hn1,⟨hi1,hi2⟩,HW⟩:=hrel;by_cases hpos:0<n1
  .obtain⟨m,rfl⟩:∃m,gk=m+1:=⟨gk-1,by omega⟩;have hW3:=HW.out.1.box;have hkn:=(HW.out.2.1 hpos).1;have HKN:=oh hkn;have r0:=hW3.cell (o:=0) (v:=.pointer (some ⟨c,0,none⟩)) rfl;clear hW3 hkn;go_wp2_with fail;refine (zR5 HW.out.1.envr HW.out.1.subP HW.out.1.pg id1 HKN.out).mono ?_;rintro e w2 ⟨P2,F2,hG2,hN2,hres⟩;have HS2:=oh (HW.out.1.nxt HJN.out hN2 hG2);have HB2:=oh HS2.out.box;clear hG2 hN2 r0;rcases hres with ⟨x,xv,hx,rfl,hxv⟩|⟨er,f,hx,rfl,hE⟩
   .obtain⟨xa,xc,rfl,x1,x2,x3,x4⟩:=_root_.id hxv;obtain⟨xk,xi,xg,xb⟩:=x;simp only at x1 x3 x4 hxv;unfold maxLen at x2;have HXV:=oh hxv;have HX:=oh hx;have X4:=oh x4;obtain⟨wt,hwt⟩:∃wt:Nat,min n1 (nn:Int)=(wt:Int):=⟨(min n1 (nn:Int)).toNat,by omega⟩;have hwt1:1<=wt:=by omega
    have hwt2:(wt:Int)<=n1:=by omega
    have hwt3:wt<=996:=by omega
    have HWT:Hid (min n1 ((G.size:Int)-28)=(wt:Int)):=oh (by rw[HNI.out];exact hwt);have hB3:=HB2.out.alloc (.cells #[.int .i64 xk,.int .i64 xi,.int .u64 (xg:Int),.slice xa xb.length xc] 304);have r0:=hB3.cell (o:=0) (v:=.pointer (some ⟨c,0,none⟩)) rfl;have r1:=hB3.cell (o:=1) (v:=.pointer (some ⟨s,0,none⟩)) rfl;have r2:=hB3.cell (o:=2) (v:=.int .u64 (gen:Int)) rfl;have HG3:=oh (HS2.out.pg.at ((zA.refl _ w2).alloc (.cells #[.int .i64 xk,.int .i64 xi,.int .u64 (xg:Int),.slice xa xb.length xc] 304)));have HB9:=oh (zK.new w2 #[.int .i64 xk,.int .i64 xi,.int .u64 (xg:Int),.slice xa xb.length xc] 304);clear hx hxv x4 hB3;simp only[qD];go_wp2_with fail;refine (zFi HG3.out gen).mono ?_;rintro e w4 ⟨rfl,hm4⟩;have HM4:Hid (zG w2 w4):=oh (((zA.refl _ w2).alloc _).trans hm4);have hB9:=HB9.out.ext hm4;have q0:=hB9.cell (o:=0) (v:=.int .i64 xk) rfl;have q3:=hB9.cell (o:=3) (v:=.slice xa xb.length xc) rfl;have HB94:=oh hB9;clear hm4 hB9 r0 r1 r2;go_wp2_with fail;refine (zGW (G.size:Int) _ (by omega) (by omega)).mono ?_;rintro e w4' ⟨rfl,rfl⟩;rw[HNI.out];have HL4:=oh (HS2.out.envr.mods HM4.out.ext);go_wp2_with fail;refine (zDY HL4.out (.slice xa xb.length xc) xb (HXV.out.ext HM4.out) 0 4 (by omega)).mono ?_;rintro e w5 ⟨ev,rfl,hE5,hm5⟩;have HM5:Hid (zG w2 w5):=oh (HM4.out.trans hm5);have HL5:=oh (HS2.out.envr.mods HM5.out.ext);have c5:=HL5.out.c5;have hB9:=HB94.out.ext hm5;have p0:=hB9.cell (o:=0) (v:=.int .i64 xk) rfl;have p3:=hB9.cell (o:=3) (v:=.slice xa xb.length xc) rfl;have htl:=zQU xb;obtain⟨tk,htk⟩:∃t,t=qO xb 0 4:=⟨_,rfl⟩;rw[<- htk] at hE5 htl ⊢;obtain⟨nx,o⟩:=tk;simp only at hE5 htl ⊢;have HTK:=oh htk;have BAD:jO G.size ⟨xk,xi,xg,xb⟩ n1=true->∀(w6:World) (f6:Nat),zG w5 w6->yY F2 ad w6 (zJ f6) [zBm id1] 5->zH5 J F P V ad w c s G l (qV G fuel id n) (.returned (zJ f6)) w6:=by
     intro hpb w6 f6 hm6 hE6;have h8:=HW.out.2.2.2.1;have h9:=HW.out.2.2.2.2;rw[qV,if_neg (by omega),HX.out] at h8 h9;simp only[hpb,tS] at h8 h9;have hS:=HS2.out.ext HJN.out (HM5.out.trans hm6);refine⟨P2,V1,F2,_,rfl,hS.pg,hS.nx,?_,hS.apart,?_⟩
     .rw[<- h8,wH];exact hS.j
     .rw[<- h9];exact⟨f6,rfl,hE6⟩
    have BADT:Hid (∀(w6:World) (f6:Nat),jO G.size ⟨xk,xi,xg,xb⟩ n1=true->zG w5 w6->yY F2 ad w6 (zJ f6) [zBm id1] 5->zH5 J F P V ad w c s G l (qV G fuel id n) (.returned (zJ f6)) w6):=oh (λw6 f6 hpb h1 h2=>BAD hpb w6 f6 h1 h2);clear BAD htk hm5 hB9 q0 q3;cases o with
    | some er =>
     obtain⟨el,ek⟩:=er;obtain⟨f5,rfl,_⟩:=hE5;have HPB:Hid (jO G.size ⟨xk,xi,xg,xb⟩ n1=true):=oh (by unfold jO;rw[<- HTK.out];simp)
     -- bad
     go_wp2_with fail;refine (jY HL5.out _ id1 _ _ 5 (.sent 5 (by decide) (by decide))).mono ?_;rintro e w6 ⟨f6,rfl,hE6,hm6⟩;have HE6:=oh hE6;have HM6:=oh hm6;clear hE6 hm6;go_wp2_with fail;go_ret;exact BADT.out w6 f6 HPB.out HM6.out HE6.out
    | none =>
     cases hE5
     by_cases hk4:xk=4
     .subst hk4;by_cases hlen:(xb.length:Int)=4+(wt:Int)
      .have b1:((xb.length:Int) != 4+(wt:Int))=false:=by simp[hlen]
       by_cases hz:(nx=0) ↔ (n1=(wt:Int))
       .have HPB:Hid (jO G.size ⟨4,xi,xg,xb⟩ n1=false):=oh (by
         unfold jO;rw[<- HTK.out,HWT.out];by_cases h1:nx=0 <;> by_cases h2:n1=(wt:Int) <;> simp[h1,h2,hlen] at hz ⊢)
        have hxl:5<=xb.length:=by omega
        have HLN:=oh hlen;obtain⟨b0,off,hxa⟩:∃b0 off,xa=some ⟨b0,off,none⟩:=by
         rcases X4.out with h|⟨b,off,h,_⟩
         .rw[h] at hxl;simp at hxl
         .exact⟨b,off,h⟩
        subst hxa;have HSL:Hid (Sl F2 w5 1 zT (.slice (some ⟨b0,off+4,none⟩) (xb.length-4) (xc-4)) (xb.drop 4)):=oh (by
         have:=(HXV.out.ext HM5.out).sub 4 xb.length (by omega) (uK _);rw[uZ (by simp)] at this;exact this)
        have HS5:=oh (HS2.out.ext HJN.out HM5.out);have hxc5:5<=xc:=by omega
        have hxc4:¬ xc=4:=by omega
        have HAL:Hid (acc.length<=4096):=oh (by have:=HW.out.2.2.1;omega);have HNXT:Hid (zBI G m (nx:Int) (n1-(wt:Int))/\acc++[(id1,xb.drop 4)]++(qV G m (nx:Int) (n1-(wt:Int))).1=(qV G fuel id n).1/\(qV G m (nx:Int) (n1-(wt:Int))).2=(qV G fuel id n).2):=oh (by
         have h6:=(HW.out.2.1 hpos).2 ⟨4,xi,xg,xb⟩ HX.out HPB.out;have h8:=HW.out.2.2.2.1;have h9:=HW.out.2.2.2.2;rw[qV,if_neg (by omega),HX.out] at h8 h9;simp only[HPB.out] at h8 h9;rw[<- HTK.out,HWT.out] at h6 h8 h9;refine⟨h6,?_,by simpa using h9⟩;simpa using h8)
        by_cases h1:nx=0
        .subst h1;have h2:n1=(wt:Int):=hz.1 rfl;subst h2;clear hz hlen;go_wp2_with fail;refine (HJS.out V1 F2 w5 acc id1 _ (xb.drop 4) HS5.out.j HS5.out.envr HS5.out.subV HSL.out (by have:=HLN.out;simp;omega) HAL.out).mono ?_;rintro e w6 ⟨V6,F6,rfl,hJ6,hX6⟩;have HNX:=oh (HS5.out.clo hX6 hJ6);clear hJ6 hX6;go_wp2_with fail;go_roundg m
         case measure=>omega
         case rel=>exact⟨((0:Nat):Int),(wt:Int)-(wt:Int),P2,V6,F6,acc++[(id1,xb.drop 4)],by first|rfl|exact zFw (by omega),by first|rfl|exact zFw (by omega),by omega,by omega,by omega,⟨by omega,by omega⟩,oh ⟨HNX.out,HNXT.out.1,by have:=HW.out.2.2.1;simp;omega,HNXT.out.2.1,HNXT.out.2.2⟩⟩
        .have h2:n1≠(wt:Int):=λe=>h1 (hz.2 e)
         have b2:(n1 == (wt:Int))=false:=uU.2 h2;have b3:((nx:Int) == 0)=false:=uU.2 (by omega);clear hz hlen h1 h2;go_wp2_with fail;refine (HJS.out V1 F2 w5 acc id1 _ (xb.drop 4) HS5.out.j HS5.out.envr HS5.out.subV HSL.out (by have:=HLN.out;simp;omega) HAL.out).mono ?_;rintro e w6 ⟨V6,F6,rfl,hJ6,hX6⟩;have HNX:=oh (HS5.out.clo hX6 hJ6);clear hJ6 hX6;go_wp2_with fail;go_roundg m
         case measure=>omega
         case rel=>exact⟨(nx:Int),n1-(wt:Int),P2,V6,F6,acc++[(id1,xb.drop 4)],by first|rfl|exact zFw (by omega),by first|rfl|exact zFw (by omega),by omega,by omega,by omega,⟨by omega,by omega⟩,oh ⟨HNX.out,HNXT.out.1,by have:=HW.out.2.2.1;simp;omega,HNXT.out.2.1,HNXT.out.2.2⟩⟩
       .have HPB:Hid (jO G.size ⟨4,xi,xg,xb⟩ n1=true):=oh (by
         unfold jO;rw[<- HTK.out,HWT.out];by_cases h1:nx=0 <;> by_cases h2:n1=(wt:Int) <;> simp[h1,h2] at hz ⊢)
        by_cases h1:nx=0
        .subst h1;have h2:n1≠(wt:Int):=λe=>hz ⟨λ_=>e,λ_=>rfl⟩
         have b2:(n1 == (wt:Int))=false:=uU.2 h2;clear hz hlen h2;go_wp2_with fail;refine (jY HL5.out _ id1 _ _ 5 (.sent 5 (by decide) (by decide))).mono ?_;rintro e w6 ⟨f6,rfl,hE6,hm6⟩;have HE6:=oh hE6;have HM6:=oh hm6;clear hE6 hm6;go_wp2_with fail;go_ret;exact BADT.out w6 f6 HPB.out HM6.out HE6.out
        .have h2:n1=(wt:Int):=Classical.byContradiction (λe=>hz ⟨λh=>absurd h h1,λh=>absurd h e⟩);have b2:(n1 == (wt:Int))=true:=rI.2 h2;have b3:((nx:Int) == 0)=false:=uU.2 (by omega);clear hz hlen h2;go_wp2_with fail;refine (jY HL5.out _ id1 _ _ 5 (.sent 5 (by decide) (by decide))).mono ?_;rintro e w6 ⟨f6,rfl,hE6,hm6⟩;have HE6:=oh hE6;have HM6:=oh hm6;clear hE6 hm6;go_wp2_with fail;go_ret;exact BADT.out w6 f6 HPB.out HM6.out HE6.out
      .have b1:((xb.length:Int) != 4+(wt:Int))=true:=bne_iff_ne.2 hlen;have b1':((xb.length:Int) == 4+(wt:Int))=false:=uU.2 hlen;have HPB:Hid (jO G.size ⟨4,xi,xg,xb⟩ n1=true):=oh (by
        unfold jO;rw[<- HTK.out,HWT.out];simp[hlen])
       clear hlen;go_wp2_with fail;refine (jY HL5.out _ id1 _ _ 5 (.sent 5 (by decide) (by decide))).mono ?_;rintro e w6 ⟨f6,rfl,hE6,hm6⟩;have HE6:=oh hE6;have HM6:=oh hm6;clear hE6 hm6;go_wp2_with fail;go_ret;exact BADT.out w6 f6 HPB.out HM6.out HE6.out
     .have b1:(xk != 4)=true:=bne_iff_ne.2 hk4;have b1':(xk == 4)=false:=uU.2 hk4;have HPB:Hid (jO G.size ⟨xk,xi,xg,xb⟩ n1=true):=oh (by
       unfold jO;rw[<- HTK.out];simp[hk4])
      clear hk4;go_wp2_with fail;refine (jY HL5.out _ id1 _ _ 5 (.sent 5 (by decide) (by decide))).mono ?_;rintro e w6 ⟨f6,rfl,hE6,hm6⟩;have HE6:=oh hE6;have HM6:=oh hm6;clear hE6 hm6;go_wp2_with fail;go_ret;exact BADT.out w6 f6 HPB.out HM6.out HE6.out
   .have HX:=oh hx;have HE:=oh hE;clear hx hE;simp only[qD,zHy];go_wp2_with fail;go_ret;have hS:=HS2.out.ext HJN.out ((zA.refl _ w2).alloc gE);refine⟨P2,V1,F2,_,rfl,hS.pg,hS.nx,?_,hS.apart,?_⟩
    .have h8:=HW.out.2.2.2.1;rw[qV,if_neg (by omega),HX.out,wH] at h8;rw[<- h8];exact hS.j
    .have h9:=HW.out.2.2.2.2;rw[qV,if_neg (by omega),HX.out] at h9;rw[<- h9];exact⟨f,rfl,HE.out.mods ((zA.refl _ _).alloc _)⟩
  .go_wp2_with fail;go_ret;have hz:qV G gk id1 n1=([],none):=by
    cases gk with
    | zero=>rfl
    | succ k=>rw[qV,if_pos (by omega)]
   have h8:=HW.out.2.2.2.1;have h9:=HW.out.2.2.2.2;rw[hz] at h8 h9;refine⟨P1,V1,F1,_,rfl,HW.out.1.pg,HW.out.1.nx,?_,HW.out.1.apart,?_⟩
   .rw[<- h8,wH];exact HW.out.1.j
   .rw[<- h9];rfl
end
theorem zDA{P:Program}{F:Nat->Prop}{w:World}{src dst e:TypeId}(hs:P.underlying src=some (.slice e))(he:P.underlying e=some (.int .u8))(hd:P.underlying dst=some .string){v:Value}{l:List UInt8}(h:Sl F w 1 zT v l) :
  (convert src dst v).run P w=.ok (.string ⟨l.toArray⟩) w:=by
 obtain⟨a,cap,rfl,h1,h2,h3,h4⟩:=h;rcases h4 with h4|⟨b,off,rfl,hb,hF,hc⟩
 .subst h4;rw[run_convert_bytes_string w src dst e _ _ cap hs he hd];cases a <;> simp[Conv.bytesToString,loadCells,loadCellsFrom] <;> rfl
 .have:=run_convert_bytes_arg (P:=P) w src e hs he b off l.length cap (l.map λx=>(x.toNat:Int)) (by simp) (λi hi=>by
   have h5:=hc i l[i] (uB hi) 0 _ rfl;simp only[u9,uP] at h5;rw[h5];simp[List.getD,hi]) dst hd
  rw[this];congr 3
  unfold strOfNums;simp only[List.map_map];congr 2
  have:((λn:Int=>UInt8.ofNat n.toNat) ∘ λx:UInt8=>(x.toNat:Int))=id:=by funext x;simp
  rw[this,List.map_id]
section
variable {P P' F F':Nat->Prop}{ad:Nat->Addr}{w w':World}{c s:Nat}{G G':GA}{l l':List Nat}
theorem zV.comp{V V' F1 F2:Nat->Prop}{w1 w2:World}(n1:zV P P F F1 ad w w1)(n2:zV (U P V) (U P' V') F1 F2 ad w1 w2)(hV:∀k,V k->w.heap.size<=k):zV P P' F F2 ad w w2 :=
 ⟨⟨n1.stp.mods.trans' n2.stp.mods (λi hi h=>h.elim id (λhv=>by have:=hV i hv;omega)),λk hk h=>(n2.stp.old k (uI hk n1.stp.mods.size) (.inl h)).elim id (λhv=>by have:=hV k hv;omega),λk h=>n2.stp.bd k (.inl h)⟩,
  λk h=>n2.sub k (.inl h),λk h=>n2.grow k (n1.grow k h),λk hk h=>n1.oldF k hk (n2.oldF k (uI hk n1.stp.mods.size) h),n2.env⟩
theorem zN2(a b:List UInt8):(⟨a.toArray⟩:ByteArray) ++ ⟨b.toArray⟩=⟨(a++b).toArray⟩:=by
 apply pN;simp
def zJT(b:Nat)(V _F:Nat->Prop)(w:World)(acc:List (Int × List UInt8)):Prop:=(∀k,V k ↔ k=b)/\zK w b #[.string ⟨(acc.flatMap (·.2)).toArray⟩] 9 /\ (acc.flatMap (·.2)).length<=1000 * acc.length
theorem zJT.keep(b:Nat):zLR (zJT b) ad:=λ_ _ _ _ _ _ _ _ h n hap=>⟨h.1,n.blk h.2.1 (λhp=>hap b hp ((h.1 b).2 rfl)),h.2.2⟩
theorem zOr(b:Nat)(V1 F1:Nat->Prop)(w1:World)(acc:List (Int × List UInt8))(id:Int)(sv:Value)(x:List UInt8)(h:zJT b V1 F1 w1 acc)(hL:yG F1 ad w1)(hV:∀k,V1 k->F1 k)(hs:Sl F1 w1 1 zT sv x)(hx:x.length<=1000)(hacc:acc.length<=4096) :
  Calls Tryz.prog 301 #[.int .i64 id,sv,.pointer (some ⟨b,0,none⟩)] w1 λe w2=>∃V2 F2,e=.returned (.tuple #[])/\zJT b V2 F2 w2 (acc++[(id,x)])/\zV V1 V2 F1 F2 ad w1 w2:=by
 have c0:=h.2.1.cell (o:=0) (v:=.string ⟨(acc.flatMap (·.2)).toArray⟩) rfl;have f0:=h.2.1.frozen 0;have hcv:=zDA (P:=Tryz.prog) Tryz.underlying26 Tryz.underlying5 Tryz.underlying9 hs;obtain⟨S,hS⟩:∃S,S=(acc.flatMap (·.2)):=⟨_,rfl⟩;have hSl:=h.2.2;rw[<- hS] at c0 hSl;have hSl2:S.length<=4096000:=by omega
 have HS:=oh hS;have HH:=oh h;have HL:=oh hL;have HV:=oh hV;clear h hL hV hs hS
 go_enter Tryz.func301, Tryz.ntmps301
 go_wp2_with fail;go_end0
 have e1:(acc++[(id,x)]).flatMap (·.2)=S++x:=by rw[wT,HS.out];simp
 refine⟨V1,F1,rfl,⟨HH.out.1,?_,?_⟩,zV.same HL.out HV.out (zA.at _ _ b 0 _ ((HH.out.1 b).2 rfl))⟩
 .have:=HH.out.2.1.set 0 (.string ⟨(S++x).toArray⟩);rw[e1,<- zN2];rw[<- zN2] at this;simpa using this
 .rw[e1];simp;omega
def zJU(b:Nat)(V _F:Nat->Prop)(w:World)(acc:List (Int × List UInt8)):Prop :=
 ∃iv,zK w b #[iv] 90 /\ yA (λ_=>False) w b 3 1 yP iv (acc.map (·.1))/\iv.ownBlock≠some b/\∀k,V k ↔ (k=b\/iv.ownBlock=some k)
theorem zJU.keep(b:Nat):zLR (zJU b) ad:=λ_ _ _ _ _ _ _ _ ⟨iv,h1,h2,h3,h4⟩ n hap =>
 ⟨iv,n.blk h1 (λhp=>hap b hp ((h4 b).2 (.inl rfl))),h2.mods n.stp.mods (λg hg hp=>hap g hp ((h4 g).2 (.inr hg))),h3,h4⟩
theorem zOs(b:Nat)(V1 F1:Nat->Prop)(w1:World)(acc:List (Int × List UInt8))(id:Int)(sv:Value)(h:zJU b V1 F1 w1 acc)(hL:yG F1 ad w1)(hV:∀k,V1 k->F1 k)(hacc:acc.length<=4096)(x:List UInt8) :
  Calls Tryz.prog 313 #[.int .i64 id,sv,.pointer (some ⟨b,0,none⟩)] w1 λe w2=>∃V2 F2,e=.returned (.tuple #[])/\zJU b V2 F2 w2 (acc++[(id,x)])/\zV V1 V2 F1 F2 ad w1 w2:=by
 obtain⟨iv,k1,k2,k3,k4⟩:=h;obtain⟨ia,icap,rfl,_⟩:=k2.form;have c0:=k1.cell (o:=0) (v:=.slice ia (acc.map (·.1)).length icap) rfl;have f0:=k1.frozen 0;have hbl:=k1.lt;obtain⟨A,hA⟩:∃A,A=acc.map (·.1):=⟨_,rfl⟩;have hAl:A.length<=4096:=by rw[hA];simpa using hacc
 rw[<- hA] at c0 k1 k2 k3 k4;have HA:=oh hA;have K1:=oh k1;have K2:=oh k2;have K3:=oh k3;have K4:=oh k4;have HL:=oh hL;have HV:=oh hV;clear hA k1 k2 k3 k4 hL hV hacc
 go_enter Tryz.func313, Tryz.ntmps313
 go_wp2_with (at_builtin;refine yH Tryz.elI jT rfl _ _ rfl b (.slice ia A.length icap) (.slice (some ⟨w1.heap.size,0,none⟩) 1 1) A [id] rfl rfl (K2.out.ext ((zA.refl _ _).alloc _)) (Sl.one (F:=λ_=>False) (x:=id) (t := 3) (fz:=(0,0)) (zO rfl) (λf=>f)) (by simp;omega) (uY (Nat.le_of_lt hbl) (by simp)) (λf=>f) ?_;intro a' c' w4 hown hmod hat;have y0:=(zJM hmod (zJN ⟨c0,f0⟩ (.cells #[.int .i64 id] 3)) K3.out).1;have y1:=(zJM hmod (zJN ⟨c0,f0⟩ (.cells #[.int .i64 id] 3)) K3.out).2);go_end0
 have hB4:=(K1.out.alloc (.cells #[.int .i64 id] 3)).mods hmod K3.out;have hsz:=hmod.size;simp only[World.alloc] at hsz;have hne:(Value.slice a' (A.length + [id].length) c').ownBlock≠some b:=λe=>by
  rcases hat with e2|e2
  .exact K3.out (e2 ▸ e)
  .rw[e2] at e;injection e with e;simp at e;omega
 have m1:zA V1 w1 w4:=((zA.refl _ w1).alloc (.cells #[.int .i64 id] 3)).trans (hmod.mono (λk hk=>(K4.out k).2 (.inr hk)));have m2:=m1.setCell (p:=⟨b,0,none⟩) (.inr ((K4.out b).2 (.inl rfl))) (.slice a' (A.length + [id].length) c');have st:Stp V1 (λk=>k=b\/(Value.slice a' (A.length + [id].length) c').ownBlock=some k) w1 (w4.setCell ⟨b,0,none⟩ (.slice a' (A.length + [id].length) c')):=by
  refine⟨m2,λk hk hf=>?_,λk hf=>?_⟩
  .rcases hf with rfl|hf
   .exact (K4.out k).2 (.inl rfl)
   .rcases hat with e2|e2
    .exact (K4.out k).2 (.inr (e2 ▸ hf))
    .rw[e2] at hf;injection hf with hf;simp at hf;omega
  .rcases hf with rfl|hf
   .exact uI hbl m2.size
   .have:=(hown.lt k hf).2;simpa[World.setCell] using this
 refine⟨_,_,rfl,⟨.slice a' (A.length + [id].length) c',?_,?_,hne,λk=>rZ⟩,zV.of HL.out HV.out st⟩
 .have:=hB4.set 0 (.slice a' (A.length + [id].length) c');simpa using this
 .have h1:=hown.mods (zA.at (λk=>k=b) w4 b 0 (.slice a' (A.length + [id].length) c') rfl) (λg hg e=>hne (e ▸ hg));rw[List.map_append,<- HA.out];exact h1
end
section
variable {P P' F F':Nat->Prop}{ad:Nat->Addr}{w w':World}{c s:Nat}{G G':GA}{l l':List Nat}
def zAa(G:GA)(id n:Int):Option Err :=
 match zAy n with
 | some e=>some e
 | none=>zP6 (qV G n.toNat id n).2
def zQV(F P:Nat->Prop)(ad:Nat->Addr)(w:World)(c s:Nat)(G:GA)(l:List Nat)(id n:Int)(e:Ending)(w':World):Prop :=
  ∃(P' F':Nat->Prop),vH F' w' P' c s G l/\zV P P' F F' ad w w' /\
    ((zAa G id n = none /\ e = .returned (.tuple #[.string ⟨((qV G n.toNat id n).1.flatMap (·.2)).toArray⟩, .nilIface])) \/
     (∃(er:Err) (f:Nat),zAa G id n=some er/\e=.returned (.tuple #[.string ⟨#[]⟩,zJ f])/\yY F' ad w' (zJ f) er.1 er.2))
def zQW(F P:Nat->Prop)(ad:Nat->Addr)(w:World)(c s:Nat)(G:GA)(l:List Nat)(id n:Int)(e:Ending)(w':World):Prop :=
  ∃(P' F':Nat->Prop),vH F' w' P' c s G l/\zV P P' F F' ad w w' /\
    ((zAa G id n = none /\ ∃ iv, e = .returned (.tuple #[iv, .nilIface]) /\ Sl P' w' 1 yP iv ((qV G n.toNat id n).1.map (·.1))) \/
     (∃(er:Err) (f:Nat),zAa G id n=some er/\e=.returned (.tuple #[.slice none 0 0,zJ f])/\yY F' ad w' (zJ f) er.1 er.2))
theorem vH.plusNew(h:vH F w P c s G l)(_hP:∀k,P k->F k){Q:Nat->Prop}(m:zG w w')(hQ:∀k,Q k->w.heap.size<=k):vH (λk=>F k\/Q k) w' P c s G l :=
 h.plus (Q:=λ_=>False) m (λ_ _ f=>f) (λ_ f=>f.elim) (λk hk hn hf=>hf.elim hn (λhq=>by have:=hQ k hq;omega))
theorem zV.new(hL:yG F ad w)(hP:∀k,P k->F k){Q:Nat->Prop}(m:zG w w')(hQ:∀k,Q k->w.heap.size<=k)(hQ2:∀k,Q k->k<w'.heap.size):zV P P F (λk=>F k\/Q k) ad w w' :=
 ⟨Stp.ext (λk h=>hL.lt k (hP k h)) m,λk h=>.inl (hP k h),λ_ h=>.inl h,λk hk h=>h.elim id (λhq=>by have:=hQ k hq;omega),
  hL.step m.ext (λk hk hn hf=>hf.elim hn (λhq=>by have:=hQ k hq;omega)) (λk hf=>hf.elim (λhf=>uI (hL.lt k hf) m.size) (hQ2 k))⟩
theorem Tryz.enterR(args:Array Value)(w:World):(callFunc 301 args).run Tryz.prog w=.ok (.enter 301 args) w:=by kernel_rfl
theorem Tryz.enterL(args:Array Value)(w:World):(callFunc 313 args).run Tryz.prog w=.ok (.enter 313 args) w:=by kernel_rfl
theorem zMz(hL:yG F ad w)(hP:∀k,P k->F k)(h:vH F w P c s G l)(gen:Nat)(id n:Int)(hid : -9223372036854775808<=id/\id<=9223372036854775807)(hok:25<=n->n<=4096->zBI G n.toNat id n) :
  Calls Tryz.prog 246 #[pgV c s gen,.int .i64 id,.int .i64 n] w (zQV F P ad w c s G l id n):=by
 unfold pgV;have m0:zG w (w.alloc (gP c s gen)):=(zA.refl _ w).alloc _;have HB0:=oh (zK.new w (gP c s gen) 142);have HX0:=oh (zV.ext hL hP m0);have HL:=oh hL;have HP:=oh hP;have HG:=oh h;have HOK:=oh hok;have HM0:=oh m0;clear hL hP h m0 hok
 go_enter Tryz.func246, Tryz.ntmps246
 go_wp2_with fail;refine (zEf HX0.out.env _ gen n).mono ?_;rintro e w1 ⟨ev,rfl,hE,hm1⟩;have HM1:=oh (HM0.out.trans hm1);have hB1:=HB0.out.ext hm1;have r0:=hB1.cell (o:=0) (v:=.pointer (some ⟨c,0,none⟩)) rfl;have r1:=hB1.cell (o:=1) (v:=.pointer (some ⟨s,0,none⟩)) rfl;have r2:=hB1.cell (o:=2) (v:=.int .u64 (gen:Int)) rfl;have hbl:=hB1.lt;cases hck:zAy n with
 | some er =>
  obtain⟨el,ek⟩:=er;rw[hck] at hE;obtain⟨f,rfl,hE⟩:=hE;have HE:=oh hE;have HK:Hid (zAa G id n=some (el,ek)):=oh (by unfold zAa;rw[hck]);clear hE hck hm1 hB1;go_wp2_with fail;go_ret2
  exact⟨P,F,HG.out.at HM1.out,zV.ext HL.out HP.out HM1.out,.inr ⟨(el,ek),f,HK.out,rfl,HE.out⟩⟩
 | none =>
  rw[hck] at hE;cases hE
  have hn:25<=n/\n<=4096:=by unfold zAy at hck;split at hck;cases hck;omega
  obtain⟨hn1,hn2⟩:=hn;have HCK:=oh hck;have m1:zG w (w1.alloc (.cells #[.string ⟨#[]⟩] 9)):=HM1.out.alloc _;have HN1:=oh (zV.new (Q:=λk=>k=w1.heap.size) HL.out HP.out m1 (λk hk=>hk ▸ HM1.out.size) (λk hk=>by rw[hk];simp));have HG1:=oh (HG.out.plusNew HP.out (Q:=λk=>k=w1.heap.size) m1 (λk hk=>hk ▸ HM1.out.size));have HBV:=oh (zK.new w1 #[.string ⟨#[]⟩] 9);have HBD:=oh HG.out.bd;clear hck hm1 hB1;go_wp2_with fail;refine (zLS (zJT w1.heap.size) (λk=>k=w1.heap.size) HN1.out.env HN1.out.sub (λk hk=>.inr hk) (λk hk hv=>by have:=HBD.out k hk;have:=HM1.out.size;omega) HG1.out gen id n (by omega) n.toNat (by omega) (HOK.out hn1 hn2) 301 (.pointer (some ⟨w1.heap.size,0,none⟩)) hid (by omega) Tryz.enterR ⟨λk=>rZ,HBV.out,by simp⟩ (zJT.keep _) (λV1 F1 w2 acc id sv b j1 j2 j3 j4 j5 j6=>zOr _ V1 F1 w2 acc id sv b j1 j2 j3 j4 j5 j6)).mono ?_;rintro e w3 ⟨P3,V3,F3,ev,rfl,hG3,hN3,hJ3,hA3,hE3⟩;have HN3:=oh (HN1.out.comp hN3 (λk hk=>by rw[hk];exact HM1.out.size));have HG3:=oh hG3;have hc:=hJ3.2.1.cell (o:=0) (v:=.string ⟨((qV G n.toNat id n).1.flatMap (·.2)).toArray⟩) rfl;obtain⟨wk,hwk⟩:∃x,x=qV G n.toNat id n:=⟨_,rfl⟩;rw[<- hwk] at hc hE3;obtain⟨wr1,we⟩:=wk;have HWK:=oh hwk;simp only at hc hE3;clear hG3 hN3 hJ3 hA3 hwk;cases we with
  | none =>
   cases hE3
   have HK:Hid (zAa G id n=none):=oh (by unfold zAa;rw[HCK.out,<- HWK.out];rfl);go_wp2_with fail;go_ret2
   exact⟨P3,F3,HG3.out,HN3.out,.inl ⟨HK.out,by rw[<- HWK.out];rfl⟩⟩
  | some er =>
   obtain⟨el,ek⟩:=er;obtain⟨f,rfl,hE3⟩:=hE3;have HE3:=oh hE3;have HK:Hid (zAa G id n=some (-1 :: el,ek)):=oh (by unfold zAa;rw[HCK.out,<- HWK.out];rfl);clear hE3;go_wp2_with fail;refine (wrap_any HN3.out.env _ _ el ek HE3.out).mono ?_;rintro e w4 ⟨f4,rfl,hE4,hm4⟩;have HE4:=oh hE4;have HM4:=oh hm4;clear hE4 hm4;go_wp2_with fail;go_ret2
   exact⟨P3,F3,HG3.out.at HM4.out,HN3.out.trans (zV.ext HN3.out.env HN3.out.sub HM4.out),.inr ⟨(-1 :: el,ek),f4,HK.out,rfl,HE4.out⟩⟩
end
section
theorem zJV(G:GA):∀(f:Nat) (id n:Int),(qV G f id n).1.length<=f
 | 0,_,_=>by simp[qV]
 | f+1,id,n=>by
  rw[qV];split
  .simp
  .split
   .simp
   .split
    .simp
    .have:=zJV G f;simp only[uD];exact Nat.succ_le_succ (this _ _)
variable {P P' F F':Nat->Prop}{ad:Nat->Addr}{w w':World}{c s:Nat}{G G':GA}{l l':List Nat}
def zOt(F P:Nat->Prop)(ad:Nat->Addr)(w:World)(c s:Nat)(G:GA)(l:List Nat)(id n:Int)(e:Ending)(w':World):Prop :=
  ∃(P' F':Nat->Prop),vH F' w' P' c s G l/\zV P P' F F' ad w w' /\
    ((zAa G id n = none /\ ∃ iv, e = .returned (.tuple #[iv, .nilIface]) /\ Sl P' w' 1 yP iv ((qV G n.toNat id n).1.map (·.1)) /\ ∀ g, iv.ownBlock = some g -> w.heap.size <= g) \/
     (∃(er:Err) (f:Nat),zAa G id n=some er/\e=.returned (.tuple #[.slice none 0 0,zJ f])/\yY F' ad w' (zJ f) er.1 er.2))
theorem zLT(hL:yG F ad w)(hP:∀k,P k->F k)(h:vH F w P c s G l)(gen:Nat)(id n:Int)(hid : -9223372036854775808<=id/\id<=9223372036854775807)(hok:25<=n->n<=4096->zBI G n.toNat id n) :
  Calls Tryz.prog 275 #[pgV c s gen,.int .i64 id,.int .i64 n] w (zOt F P ad w c s G l id n):=by
 unfold pgV;have m0:zG w (w.alloc (gP c s gen)):=(zA.refl _ w).alloc _;have HB0:=oh (zK.new w (gP c s gen) 142);have HX0:=oh (zV.ext hL hP m0);have HL:=oh hL;have HP:=oh hP;have HG:=oh h;have HOK:=oh hok;have HM0:=oh m0;clear hL hP h m0 hok
 go_enter Tryz.func275, Tryz.ntmps275
 go_wp2_with fail;refine (zEf HX0.out.env _ gen n).mono ?_;rintro e w1 ⟨ev,rfl,hE,hm1⟩;have HM1:=oh (HM0.out.trans hm1);have hB1:=HB0.out.ext hm1;have r0:=hB1.cell (o:=0) (v:=.pointer (some ⟨c,0,none⟩)) rfl;have r1:=hB1.cell (o:=1) (v:=.pointer (some ⟨s,0,none⟩)) rfl;have r2:=hB1.cell (o:=2) (v:=.int .u64 (gen:Int)) rfl;have hbl:=hB1.lt;cases hck:zAy n with
 | some er =>
  obtain⟨el,ek⟩:=er;rw[hck] at hE;obtain⟨f,rfl,hE⟩:=hE;have HE:=oh hE;have HK:Hid (zAa G id n=some (el,ek)):=oh (by unfold zAa;rw[hck]);clear hE hck hm1 hB1;go_wp2_with fail;go_ret2
  exact⟨P,F,HG.out.at HM1.out,zV.ext HL.out HP.out HM1.out,.inr ⟨(el,ek),f,HK.out,rfl,HE.out⟩⟩
 | none =>
  rw[hck] at hE;cases hE
  have hn:25<=n/\n<=4096:=by unfold zAy at hck;split at hck;cases hck;omega
  obtain⟨hn1,hn2⟩:=hn;have HCK:=oh hck;have m1:zG w (w1.alloc (.cells #[.slice none 0 0] 90)):=HM1.out.alloc _;have HN1:=oh (zV.new (Q:=λk=>k=w1.heap.size) HL.out HP.out m1 (λk hk=>hk ▸ HM1.out.size) (λk hk=>by rw[hk];simp));have HG1:=oh (HG.out.plusNew HP.out (Q:=λk=>k=w1.heap.size) m1 (λk hk=>hk ▸ HM1.out.size));have HBV:=oh (zK.new w1 #[.slice none 0 0] 90);have HBD:=oh HG.out.bd;clear hck hm1 hB1;go_wp2_with fail;refine (zLS (zJU w1.heap.size) (λk=>k=w1.heap.size) HN1.out.env HN1.out.sub (λk hk=>.inr hk) (λk hk hv=>by have:=HBD.out k hk;have:=HM1.out.size;omega) HG1.out gen id n (by omega) n.toNat (by omega) (HOK.out hn1 hn2) 313 (.pointer (some ⟨w1.heap.size,0,none⟩)) hid (by omega) Tryz.enterL ⟨.slice none 0 0,HBV.out,yA.nil _ _ _ _ _ _,by simp[Value.ownBlock],λk=>by simp[Value.ownBlock]⟩ (zJU.keep _) (λV1 F1 w2 acc id sv b j1 j2 j3 j4 j5 j6=>zOs _ V1 F1 w2 acc id sv j1 j2 j3 j6 b)).mono ?_;rintro e w3 ⟨P3,V3,F3,ev,rfl,hG3,hN3,hJ3,hA3,hE3⟩;have HN3:=oh (HN1.out.comp hN3 (λk hk=>by rw[hk];exact HM1.out.size));have HG3:=oh hG3;obtain⟨iv,q1,q2,q3,q4⟩:=hJ3;have hc:=q1.cell (o:=0) (v:=iv) rfl;have HSl:Hid (((qV G n.toNat id n).1.map (·.1)).length<=140737488355328->Sl P3 w3 1 yP iv ((qV G n.toNat id n).1.map (·.1))):=oh (λhl=>yA.sl (F:=P3) (q2.blocks (λg hg hp=>hA3 g hp ((q4 g).2 (.inr hg)))) jT.len hl);have HFR:Hid (∀g,iv.ownBlock=some g->w.heap.size<=g):=oh (λg hg=>uY HM1.out.size (q2.lt g hg).1);obtain⟨wk,hwk⟩:∃x,x=qV G n.toNat id n:=⟨_,rfl⟩;rw[<- hwk] at hE3 HSl;have HLEN:Hid ((qV G n.toNat id n).1.length<=4096):=oh (by have:=zJV G n.toNat id n;omega);obtain⟨wr1,we⟩:=wk;have HWK:=oh hwk;simp only at hE3;clear hG3 hN3 hA3 hwk q1 q2 q3 q4;cases we with
  | none =>
   cases hE3
   have HK:Hid (zAa G id n=none):=oh (by unfold zAa;rw[HCK.out,<- HWK.out];rfl);go_wp2_with fail;go_ret2
   exact⟨P3,F3,HG3.out,HN3.out,.inl ⟨HK.out,iv,rfl,by
    have:=HLEN.out;rw[<- HWK.out] at this ⊢;exact HSl.out (by rw[wU];exact uY this (by omega)),HFR.out⟩⟩
  | some er =>
   obtain⟨el,ek⟩:=er;obtain⟨f,rfl,hE3⟩:=hE3;have HE3:=oh hE3;have HK:Hid (zAa G id n=some (-1 :: el,ek)):=oh (by unfold zAa;rw[HCK.out,<- HWK.out];rfl);clear hE3;go_wp2_with fail;refine (wrap_any HN3.out.env _ _ el ek HE3.out).mono ?_;rintro e w4 ⟨f4,rfl,hE4,hm4⟩;have HE4:=oh hE4;have HM4:=oh hm4;clear hE4 hm4;go_wp2_with fail;go_ret2
   exact⟨P3,F3,HG3.out.at HM4.out,HN3.out.trans (zV.ext HN3.out.env HN3.out.sub HM4.out),.inr ⟨(-1 :: el,ek),f4,HK.out,rfl,HE4.out⟩⟩
theorem zM0(hL:yG F ad w)(hP:∀k,P k->F k)(h:vH F w P c s G l)(gen:Nat)(id n:Int)(hid : -9223372036854775808<=id/\id<=9223372036854775807)(hok:25<=n->n<=4096->zBI G n.toNat id n) :
  Calls Tryz.prog 275 #[pgV c s gen,.int .i64 id,.int .i64 n] w (zQW F P ad w c s G l id n) :=
 (zLT hL hP h gen id n hid hok).mono λ_ _ ⟨P',F',g,nx,r⟩=>⟨P',F',g,nx,r.imp (λ⟨a,iv,b,d,_⟩=>⟨a,iv,b,d⟩) (λh=>h)⟩
theorem slN{v:Value}{x:List Nat}{y:List Int}(e:y=x.map (λk:Nat=>(k:Int)))(h:Sl P w 1 yP v y):Sl P w 1 zI1 v x:=by
 subst e;obtain⟨a,cap,e1,h1,h2,h3,h4⟩:=h;refine⟨a,cap,by simpa using e1,by simpa using h1,h2,by simpa using h3,?_⟩;rcases h4 with h4|⟨b,off,ha,hb,hF,hc⟩
 .exact .inl (by simpa using h4)
 .exact .inr ⟨b,off,ha,hb,hF,λi z hz j u hu=>hc i (z:Int) (by simp[hz]) j u hu⟩
def zOu(F P:Nat->Prop)(ad:Nat->Addr)(w:World)(c s:Nat)(G:GA)(l:List Nat)(id n:Int)(ids:List Nat)(e:Ending)(w':World):Prop :=
  ∃(P' F':Nat->Prop) (G':GA) (l':List Nat),vH F' w' P' c s G' l'/\zV P P' F F' ad w w' /\
    ((zAa G id n = none /\ G' = zAB G ids /\ l' = jN l ids /\ e = .returned .nilIface) \/
     (∃(er:Err) (f:Nat),zAa G id n=some er/\G'=G/\l'=l/\e=.returned (zJ f)/\yY F' ad w' (zJ f) (-1 :: er.1) er.2))
theorem zLU(hL:yG F ad w)(hP:∀k,P k->F k)(h:vH F w P c s G l)(gen:Nat)(id n:Int)(hid : -9223372036854775808<=id/\id<=9223372036854775807)(hok:25<=n->n<=4096->zBI G n.toNat id n)
  (ids:List Nat) (hids:zAa G id n=none->(qV G n.toNat id n).1.map (·.1)=ids.map (λk:Nat=>(k:Int))/\zCV l ids) :
  Calls Tryz.prog 224 #[pgV c s gen,.int .i64 id,.int .i64 n] w (zOu F P ad w c s G l id n ids):=by
 unfold pgV;have m0:zG w (w.alloc (gP c s gen)):=(zA.refl _ w).alloc _;have HB0:=oh (zK.new w (gP c s gen) 142);have HX0:=oh (zV.ext hL hP m0);have HL:=oh hL;have HP:=oh hP;have HG:=oh (h.at m0);have HOK:=oh hok;have HI:=oh hids;have hnb:=λk (hk:P k)=>h.bd k hk
 have HNB:=oh hnb;clear hL hP h m0 hok hids hnb
 go_enter Tryz.func224, Tryz.ntmps224
 go_wp2_with fail;refine (zM0 HX0.out.env HX0.out.sub HG.out gen id n hid HOK.out).mono ?_;rintro e w1 ⟨P1,F1,hG1,hN1,hr⟩;have hB1:=hN1.blk HB0.out (λhp=>by have:=HNB.out _ hp;omega);have r0:=hB1.cell (o:=0) (v:=.pointer (some ⟨c,0,none⟩)) rfl;have r1:=hB1.cell (o:=1) (v:=.pointer (some ⟨s,0,none⟩)) rfl;have r2:=hB1.cell (o:=2) (v:=.int .u64 (gen:Int)) rfl;have HG1:=oh hG1;have HN1:=oh (HX0.out.trans hN1);clear hG1 hN1 hB1;rcases hr with ⟨hk,iv,rfl,hiv⟩|⟨er,f,hk,rfl,hE⟩
 .obtain⟨i1,i2⟩:=HI.out hk;have HS:=oh (slN i1 hiv);have HK:=oh hk;have HI2:=oh i2;clear i1 i2 hiv hk;go_wp2_with fail;refine (zH1 HN1.out.env HN1.out.sub HG1.out gen iv ids HS.out HI2.out).mono ?_;rintro e w2 ⟨P2,F2,hG2,hN2,rfl⟩;have HG2:=oh hG2;have HN2:=oh (HN1.out.trans hN2);clear hG2 hN2;go_wp2_with fail;refine (wrap_nil _ _).mono ?_;rintro e w3 ⟨rfl,rfl⟩;go_wp2_with fail;go_ret;exact⟨P2,F2,_,_,HG2.out,HN2.out,.inl ⟨HK.out,rfl,rfl,rfl⟩⟩
 .obtain⟨el,ek⟩:=er;have HE:=oh hE;have HK:=oh hk;clear hE hk;go_wp2_with fail;refine (wrap_any HN1.out.env _ _ el ek HE.out).mono ?_;rintro e w2 ⟨f2,rfl,hE2,hm2⟩;have HE2:=oh hE2;have HM2:=oh hm2;clear hE2 hm2;go_wp2_with fail;go_ret;exact⟨P1,F1,G,l,HG1.out.at HM2.out,HN1.out.trans (zV.ext HN1.out.env HN1.out.sub HM2.out),.inr ⟨(el,ek),f2,HK.out,rfl,rfl,rfl,HE2.out⟩⟩
end
theorem zHG(v:List UInt8)(nn:Nat):∀(c i:Nat),(List.range' i c).flatMap (zCB v nn)=(v.drop (i * nn)).take (c * nn)
 | 0,i=>by simp
 | c+1,i=>by
  rw[List.range'_succ,u7,zHG v nn c (i+1),zCB,show (c+1) * nn=nn+c * nn by rw[tU,n9],List.take_add,List.drop_drop,show (i+1) * nn=i * nn+nn from tU i nn]
theorem zM1(v:List UInt8)(nn m:Nat)(h:v.length<=m * nn):(List.range' 0 m).flatMap (zCB v nn)=v:=by
 rw[zHG];simp[uZ h]
theorem zH6(next:Nat)(b:List UInt8)(hn:next<4294967296):qO (zU 4 next++b) 0 4=(next,none):=by
 unfold qO;rw[if_neg (by simp;omega),if_neg (by simp[zC];omega)];have e:((zU 4 next++b).drop (0:Int).toNat).take 4=zU 4 next:=by
  rw[Int.toNat_zero,List.drop_zero];exact tR (zC 4 next)
 rw[e,zFx,rG (by simpa using hn)]
theorem zOv(next:Nat)(b:List UInt8):(zU 4 next++b).drop 4=b:=pQ (zC 4 next)
theorem zOw(v:List UInt8)(nn i:Nat):(zCB v nn i).length=min nn (v.length-i * nn):=by simp[zCB]
structure Fit(n nn m:Nat):Prop where
 m1:1<=m
 n228:228<=nn
 lo:(m-1) * nn<n
 hi:n<=m * nn
theorem Fit.left{n nn m i:Nat}(h:Fit n nn m)(hi:i<m):i * nn<n:=by
 have:=rN nn (show i<=m-1 by omega);have:=h.lo;omega
theorem Fit.more{n nn m i:Nat}(h:Fit n nn m)(hi:i+1<m):i * nn+nn<n:=by
 have:=h.left hi;rw[tU] at this;exact this
theorem Fit.last{n nn m i:Nat}(h:Fit n nn m)(hi:i+1=m):n<=i * nn+nn:=by
 have:=h.hi;rw[<- hi,tU] at this;exact this
theorem zM2(G:GA)(f:Nat)(id n:Int)(h:n<=0):qV G f id n=([],none):=by
 cases f with
 | zero=>rfl
 | succ f=>rw[qV,if_pos h]
theorem zLV(G:GA)(f:Nat)(id n:Int)(h:n<=0):zBI G f id n:=by
 cases f with
 | zero=>trivial
 | succ f=>rw[zBI];intro h1;omega
theorem zLW{G:GA}{id:Nat}(hid:id<G.blocks){p:yI}(h:G.view id=some (.inl p)):G.get (id:Int)=.inl p:=by
 unfold GA.get GA.check;rw[if_neg (by omega)];simp only[uM,h]
theorem zCx:∀(a:List Nat) (G:GA),(zAB G a).blocks=G.blocks/\(zAB G a).size=G.size/\(zAB G a).cost=G.cost/\(zAB G a).look=G.look/\(zAB G a).last=G.last
 | [],_=>⟨rfl,rfl,rfl,rfl,rfl⟩
 | x :: a,G=>zCx a (G.drop x)
def zB(s:Nat):List UInt8:=List.replicate s 0
def zSN:List UInt8:=zB 256
def G0(n:Nat):GA:=⟨n,256,λid=>if id<n then some (yV zSN id) else none,λid=>if id<n then some zSN else none,λid=>if id<n then some zSN else none,0⟩
def NoB:Nat->Prop:=λ_=>False
theorem zQX{w:World}{s b2:Nat}{l:List Nat}(h:SpR w s b2 l):∀k,spF s b2 k->k<w.heap.size:=λk hk=>by
 rcases hk with rfl|rfl
 .exact h.own.lt
 .exact h.row.lt
structure zFG(D:zS):Prop where
 off:D.off=false
 lit:D.lit=false
 wait:D.waiting=[]
 lenL:D.lasting.length=D.blocks
 len:∀id,id<D.blocks->(D.look id).length=D.size
 b8:8<=D.blocks
 b256:D.blocks<=256
 s256:256<=D.size
 s1024:D.size<=1024
structure zFj(D:zS):Prop where
 off:D.off=false
 lit:D.lit=false
 wait:∀p∈D.waiting,p.1<D.blocks
 lenL:D.lasting.length=D.blocks
 len:∀id,id<D.blocks->(D.look id).length=D.size
theorem zFG.wet{D:zS}(h:zFG D):zFj D:=⟨h.off,h.lit,λp hp=>by rw[h.wait] at hp;simp at hp,h.lenL,h.len⟩
theorem zFj.wrote{D:zS}(h:zFj D){i:Nat}{b:List UInt8}(hi:i<D.blocks)(hb:b.length=D.size):zFj (D.wrote i b):=by
 refine⟨h.off,h.lit,λp hp=>?_,h.lenL,λid hid=>?_⟩
 .rcases uN.1 hp with hp|hp
  .exact h.wait p hp
  .rw[tB.1 hp];exact hi
 .rw[zB8];split
  .exact hb
  .exact h.len id hid
theorem zFj.flushed{D:zS}(h:zFj D):zFj D.flushed/\D.flushed.waiting=[]/\∀id,D.flushed.look id=D.look id:=by
 have hk:=λid=>zKE h.lenL h.wait id
 refine⟨⟨h.off,h.lit,λp hp=>(by cases hp),(by show (settle _ _).length=_;rw[zCH];exact h.lenL),λid hid=>?_⟩,rfl,hk⟩;rw[hk];exact h.len id hid
theorem zFG.last{D:zS}(h:zFG D)(id:Nat):D.lasting.getD id []=D.look id:=by
 unfold zS.look;rw[h.wait];rfl
structure zJW(D:zS)(s:jM)(m:zBQ):Prop where
 dry:zFG D
 blk:s.blocks=D.blocks
 siz:s.size=D.size
 ok:zC6 s=true
 gen:s.gen<18446744073709551615
 sup0:D.look 0=zAQ s 0
 sup1:D.look 1=zAQ s 1
 mok:zB5 m=true
 mgen:m.gen=s.gen
 mblk:m.blocks=s.blocks
 map0:D.look (place s.gen 0)=qL m (place s.gen 0) D.size
 map1:D.look (place s.gen 1)=qL m (place s.gen 1) D.size
theorem zJW.open0{D:zS}{s:jM}{m:zBQ}(h:zJW D s m):zBC (D.look 0) 0=some s:=by rw[h.sup0];exact zJE h.ok (by have:=h.gen;omega) (by omega)
theorem zJW.open1{D:zS}{s:jM}{m:zBQ}(h:zJW D s m):zBC (D.look 1) 1=some s:=by rw[h.sup1];exact zJE h.ok (by have:=h.gen;omega) (by omega)
def zAF(D:zS):jM:=⟨1,D.blocks,D.size,0,0⟩
def zCc(D:zS):zBQ:=⟨1,D.blocks,[0,1,2,3,4,5]⟩
def zEg(D:zS):zS :=
 ((((((D.wrote 4 (qL (zCc D) 4 D.size)).wrote 5 (qL (zCc D) 5 D.size)).flushed).wrote 1 (zAQ (zAF D) 1)).flushed).wrote 0 (zAQ (zAF D) 0)).flushed
theorem zGa{D:zS}(h:zFG D):zJW (zEg D) (zAF D) (zCc D)/\∀id,6<=id->(zEg D).look id=D.look id:=by
 have hb8:=h.b8;have hok:zC6 (zAF D)=true:=(zB9 _).2 ⟨h.b8,h.b256,h.s256,h.s1024,by show 0<=2147483647;omega,.inl rfl,λ_=>rfl⟩;have hmk:zB5 (zCc D)=true:=(zAL _).2 ⟨h.b8,h.b256,by show 6<=6;omega,rfl,by show ([0,1,2,3,4,5]:List Nat).Pairwise (· < ·);decide,λn hn=>by
  have:n<6:=by
   have hn':n∈([0,1,2,3,4,5]:List Nat):=hn;simp at hn';omega
  show n<D.blocks;omega⟩
 have l4:(qL (zCc D) 4 D.size).length=D.size:=zAR hmk 4 h.s256;have l5:(qL (zCc D) 5 D.size).length=D.size:=zAR hmk 5 h.s256;have l1:(zAQ (zAF D) 1).length=D.size:=zBc hok 1;have l0:(zAQ (zAF D) 0).length=D.size:=zBc hok 0;have w1:=h.wet.wrote (i:=4) (by omega) l4;have w2:=w1.wrote (i:=5) (b:=qL (zCc D) 5 D.size) (by show 5<D.blocks;omega) l5;obtain⟨w3,q3,k3⟩:=w2.flushed;have w4:=w3.wrote (i:=1) (b:=zAQ (zAF D) 1) (by show 1<D.blocks;omega) l1;obtain⟨w5,q5,k5⟩:=w4.flushed;have w6:=w5.wrote (i:=0) (b:=zAQ (zAF D) 0) (by show 0<D.blocks;omega) l0;obtain⟨w7,q7,k7⟩:=w6.flushed;have hk:∀id,(zEg D).look id=if 0=id then zAQ (zAF D) 0 else if 1=id then zAQ (zAF D) 1 else if 5=id then qL (zCc D) 5 D.size else if 4=id then qL (zCc D) 4 D.size else D.look id:=by
  intro id;show (zS.flushed _).look id=_;rw[k7,zB8,k5,zB8,k3,zB8,zB8]
 have hp0:place (zAF D).gen 0=4:=rfl;have hp1:place (zAF D).gen 1=5:=rfl;refine⟨⟨⟨w7.off,w7.lit,q7,w7.lenL,w7.len,h.b8,h.b256,h.s256,h.s1024⟩,rfl,rfl,hok,by show 1<18446744073709551615;omega,?_,?_,hmk,rfl,rfl,?_,?_⟩,λid hid=>?_⟩
 .rw[hk,if_pos rfl]
 .rw[hk,if_neg (by omega),if_pos rfl]
 .rw[hp0,hk,if_neg (by omega),if_neg (by omega),if_neg (by omega),if_pos rfl];rfl
 .rw[hp1,hk,if_neg (by omega),if_neg (by omega),if_pos rfl];rfl
 .rw[hk,if_neg (by omega),if_neg (by omega),if_neg (by omega),if_neg (by omega)]
def zDO(D:zS):GA:=⟨D.blocks,D.size,λid=>if id<D.blocks then some (yV (D.look id) id) else none,λid=>if id<D.blocks then some (D.look id) else none,λid=>if id<D.blocks then some (D.look id) else none,0⟩
theorem zOx{D:zS}(h:zFG D)(q:Nat)(h3:3<=q)(h64:q<=64):vP ⟨D,List.replicate q qT,0⟩/\zB4 ⟨D,List.replicate q qT,0⟩ (zDO D):=by
 have si:∀{α:Type} {p:Prop} [Decidable p] {x y:α},(if p then some x else none)=some y->x=y:=λ{α p _ x y} h=>by
  by_cases hp:p
  .rw[if_pos hp] at h;exact Option.some.inj h
  .rw[if_neg hp] at h;cases h
 refine⟨zOZ D q h3 h64 h.s256 h.s1024 h.b8 h.b256 h.lenL h.len h.off h.lit,zOb D q (zDO D) rfl rfl (λid r hr=>si hr) (λid b hb=>si hb) (λid b hb=>⟨?_,λp hp=>by rw[h.wait] at hp;simp at hp⟩) (by rw[h.wait];exact uK 0)⟩;rw[h.last];exact si hb
def zAT(n:Nat)(used:List Nat):List Nat:=(List.range n).map λi=>if i∈used then 1 else 0
theorem zBi(n:Nat)(u:List Nat):(zAT n u).length=n:=by simp[zAT]
theorem zAU{n:Nat}(u:List Nat){i:Nat}(h:i<n):(zAT n u)[i]? = some (if i∈u then 1 else 0):=by
 simp[zAT,h]
theorem zM3{n i:Nat}{u:List Nat}(h2:2<=i)(hn:i<n)(hi:i ∉ u):zET (zAT n u) (i:Int)=(zAT n (u++[i]),none):=by
 have hg:=zAU (n:=n) u hn;rw[if_neg hi] at hg;have hc:vJ (zAT n u) (i:Int)=none:=by
  unfold vJ;rw[zBi,if_neg (by omega)]
 unfold zET;rw[hc];simp only;rw[uM,if_pos hg];congr 1
 refine rK (λj=>?_);rw[pE];by_cases e:i=j
 .subst e;rw[if_pos rfl,if_pos (by rw[zBi];exact hn),zAU _ hn,if_pos (by simp)]
 .rw[if_neg e];by_cases hj:j<n
  .rw[zAU _ hj,zAU _ hj];congr 1
   have:j∈u++[i] ↔ j∈u:=by
    rw[uN,tB];exact⟨λh=>h.elim id (λh=>absurd h.symm e),.inl⟩
   by_cases hm:j∈u
   .rw[if_pos hm,if_pos (this.2 hm)]
   .rw[if_neg hm,if_neg (λh=>hm (this.1 h))]
  .rw[wP (by rw[zBi];omega),wP (by rw[zBi];omega)]
end Go.Proofs.YtdnbmdghmmpgcaaGreatDoor
