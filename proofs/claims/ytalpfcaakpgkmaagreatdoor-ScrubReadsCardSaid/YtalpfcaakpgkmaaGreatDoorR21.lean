import Derived.Test.YtalpfcaakpgkmaaGreatDoorR60
namespace Go.Proofs.YtalpfcaakpgkmaaGreatDoor
open Lib renaming hid->oh
set_option maxHeartbeats 4000000
set_option maxRecDepth 100000
open Go.RowKit
def yS(size:Nat)(x:zY)(n:Int):Bool :=
 (vC x.body 0 4).2.isSome || decide (x.kind≠4) || decide ((x.body.length:Int)≠4+min n ((size:Int)-28)) || (decide ((vC x.body 0 4).1=0) != decide (n=min n ((size:Int)-28)))
def qN(G:GA):Nat->Int->Int->List (Int × List UInt8) × Option Err
 | 0,_,_=>([],none)
 | f+1,id,n=>if n<=0 then ([],none) else
  match G.get id with
  | .inr e=>([],some e)
  | .inl x=>if yS G.size x n=true then ([],some ([zBz id],5)) else
   ((id,x.body.drop 4) :: (qN G f ((vC x.body 0 4).1:Nat) (n-min n ((G.size:Int)-28))).1,(qN G f ((vC x.body 0 4).1:Nat) (n-min n ((G.size:Int)-28))).2)
def zAi(G:GA):Nat->Int->Int->Prop
 | 0,_,_=>True
 | f+1,id,n=>0<n->G.knows id/\∀x,G.get id=.inl x->yS G.size x n=false->zAi G f ((vC x.body 0 4).1:Nat) (n-min n ((G.size:Int)-28))
def U(A B:NP):NP:=λk=>A k\/B k
structure WS[zQ](J:(NP)->(NP)->World->List (Int × List UInt8)->Prop)(P V F:NP)(ad:Nat->Addr)(w:World)(B0 c s gen:Nat)(G:GA)(l:List Nat)(P1 V1 F1:NP)(wr:World)(acc:List (Int × List UInt8)):Prop where
 pg:jK F1 wr P1 c s G l
 nx:zX (U P V) (U P1 V1) F F1 ad w wr
 box:zG wr B0 (gP c s gen) 117
 bP:¬ P1 B0
 bV:¬ V1 B0
 j:J V1 F1 wr acc
 apart:∀k,P1 k->¬ V1 k
def zIF[zQ](J:(NP)->(NP)->World->List (Int × List UInt8)->Prop)(F P V:NP)(ad:Nat->Addr)(w:World)(c s:Nat)(G:GA)(l:List Nat)(r:List (Int × List UInt8) × Option Err)(e:Ending)(w':World):Prop :=
 ∃(P' V' F':NP) (ev:Value),e=.returned ev/\jK F' w' P' c s G l/\zX (U P V) (U P' V') F F' ad w w'/\J V' F' w' r.1/\(∀k,P' k->¬ V' k)/\zAb F' ad w' ev r.2
def zLX(J:(NP)->(NP)->World->List (Int × List UInt8)->Prop)(ad:Nat->Addr):Prop :=
 ∀(P1 P2 V1 F1 F2:NP) (w1 w2:World) (acc:List (Int × List UInt8)),J V1 F1 w1 acc->zX P1 P2 F1 F2 ad w1 w2->(∀k,P1 k->¬ V1 k)->J V1 F2 w2 acc
section
variable {J:(NP)->(NP)->World->List (Int × List UInt8)->Prop}{P V F P1 P2 V1 V2 F1 F2:NP}{ad:Nat->Addr}{w wr w2:World}{B0 c s gen:Nat}{G:GA}{l:List Nat}{acc acc':List (Int × List UInt8)}
theorem WS.envr[zQ](h:WS J P V F ad w B0 c s gen G l P1 V1 F1 wr acc):yH F1 ad wr:=h.nx.env
theorem WS.subP[zQ](h:WS J P V F ad w B0 c s gen G l P1 V1 F1 wr acc):∀k,P1 k->F1 k:=λk hk=>h.nx.sub k (.inl hk)
theorem WS.subV[zQ](h:WS J P V F ad w B0 c s gen G l P1 V1 F1 wr acc):∀k,V1 k->F1 k:=λk hk=>h.nx.sub k (.inr hk)
theorem WS.nxt[zQ](h:WS J P V F ad w B0 c s gen G l P1 V1 F1 wr acc)(K:zLX J ad)(n:zX P1 P2 F1 F2 ad wr w2)(hG:jK F2 w2 P2 c s G l):WS J P V F ad w B0 c s gen G l P2 V1 F2 w2 acc :=
 ⟨hG,h.nx.trans (n.part (Q:=V1) h.subV h.envr),n.blk h.box h.bP,n.not h.box.lt h.bP,h.bV,K _ _ _ _ _ _ _ _ h.j n h.apart,λk hk hv=>by
  have hb:=h.nx.stp.bd k (.inr hv);exact h.apart k (n.stp.old k hb hk) hv⟩
theorem WS.ext[zQ](h:WS J P V F ad w B0 c s gen G l P1 V1 F1 wr acc)(K:zLX J ad)(m:zF wr w2):WS J P V F ad w B0 c s gen G l P1 V1 F1 w2 acc :=
 h.nxt K (zX.ext h.envr h.subP m) (h.pg.at m)
theorem WS.clo[zQ](h:WS J P V F ad w B0 c s gen G l P1 V1 F1 wr acc)(n:zX V1 V2 F1 F2 ad wr w2)(hj:J V2 F2 w2 acc'):WS J P V F ad w B0 c s gen G l P1 V2 F2 w2 acc':=by
 have hq:=n.part (Q:=P1) h.subP h.envr;have Cn:zX (U P1 V1) (U P1 V2) F1 F2 ad wr w2:=hq.iff (λk=>Or.comm) (λk=>Or.comm);refine⟨h.pg.plus n.stp.mods (λk hk hv=>h.apart k hk hv) h.subV (λk hk hn hf=>hn (n.oldF k hk hf)),h.nx.trans Cn,n.blk h.box h.bV,h.bP,n.not h.box.lt h.bV,hj,λk hk hv=>?_⟩;have hb:=h.nx.stp.bd k (.inl hk);exact h.apart k hk (n.stp.old k hb hv)
end
section
variable {P P' F F':NP}{ad:Nat->Addr}{w w':World}{c s:Nat}{G G':GA}{l l':List Nat}
theorem zLY(b:List UInt8):(vC b 0 4).1<4294967296:=by
 unfold vC;split
 .simp
 .split
  .simp
  .have:=zE5 ((b.drop (0:Int).toNat).take 4);have h2:((b.drop (0:Int).toNat).take 4).length<=4:=List.length_take_le _ _;have h3:(256:Nat) ^ ((b.drop (0:Int).toNat).take 4).length<=256 ^ 4:=wX (by omega) h2;simp only;omega
theorem zLZ[zQ](J:(NP)->(NP)->World->List (Int × List UInt8)->Prop)(V:NP)(hL:yH F ad w)(hP:∀k,P k->F k)(hV:∀k,V k->F k)(Bj:∀k,P k->¬ V k)(h:jK F w P c s G l)(gen:Nat)(id n:Int)(hn:n<=4096)(fuel:Nat)(hf:n<=fuel)(A8:zAi G fuel id n)(fn:FuncId)(cv:Value)
  (hid : -9223372036854775808<=id/\id<=9223372036854775807) (Co:0<=n)
  (Df:∀(args:Array Value) (w:World),(callFunc fn args).run Tryz.prog w=.ok (.enter fn args) w)
  (C1:J V F w []) (Bk:zLX J ad)
  (C2:∀(V1 F1:NP) (w1:World) (acc:List (Int × List UInt8)) (id:Int) (sv:Value) (b:List UInt8),J V1 F1 w1 acc->yH F1 ad w1->(∀k,V1 k->F1 k)->Sl F1 w1 1 zZ sv b->b.length<=1000->acc.length<=4096 ->
   Calls Tryz.prog fn #[.int .i64 id,sv,cv] w1 λe w2=>∃V2 F2,e=.returned (.tuple #[])/\J V2 F2 w2 (acc++[(id,b)])/\zX V1 V2 F1 F2 ad w1 w2) :
  Calls Tryz.prog 258 #[pgV c s gen,.int .i64 id,.int .i64 n,.func (.func fn) #[] #[cv]] w (zIF J F P V ad w c s G l (qN G fuel id n)):=by
 unfold pgV;have Bl:=h.lim;have m0:zF w (w.alloc (gP c s gen)):=(zss w).alloc _;have C3:WS J P V F ad w w.heap.size c s gen G l P V F (w.alloc (gP c s gen)) []:=by
  have hn:=zX.ext hL (P:=U P V) (λk hk=>hk.elim (hP k) (hV k)) m0;exact⟨h.at m0,hn,zG.new w _ _,λf=>by have:=h.bd _ f;omega,λf=>by have:=hL.lt _ (hV _ f);omega,Bk _ _ _ _ _ _ _ _ C1 (zX.ext hL hP m0) Bj,Bj⟩
 have Cp:=oh C3;have B8:=oh Bk;have C4:=oh C2;have Ak:=oh A8;obtain⟨b8,b256,s256,s1024,_,_⟩:=Bl;obtain⟨nn,Cq⟩:∃nn,nn=G.size-28:=⟨_,rfl⟩;have C5:(G.size:Int)-28=(nn:Int):=by omega
 have C6:=oh C5;have Bm:228<=nn/\nn<=996:=by omega
 obtain⟨Cr,Cs⟩:=Bm;clear hL hP h m0 C1 Bk C2 A8 Cq C5 hV Bj C3
 go_enter Tryz.func258, Tryz.ntmps258
 go_wp2_with fail;go_loopg [1,2] fuel (λm iv nv wr=>∃(id1 n1:Int) (P1 V1 F1:NP) (acc:List (Int × List UInt8)),iv=.int .i64 id1/\nv=.int .i64 n1/\n1<=m/\0<=n1/\n1<=4096/\(-9223372036854775808<=id1/\id1<=9223372036854775807) /\
  Hid (WS J P V F ad w w.heap.size c s gen G l P1 V1 F1 wr acc/\zAi G m id1 n1/\(acc.length:Int)+n1<=4096/\acc++(qN G m id1 n1).1=(qN G fuel id n).1/\(qN G m id1 n1).2=(qN G fuel id n).2))
 case atStart=>exact⟨id,n,P,V,F,[],rfl,rfl,hf,Co,hn,hid,oh ⟨Cp.out,Ak.out,by simpa using hn,by simp,rfl⟩⟩
 case round =>
  obtain⟨id1,n1,P1,V1,F1,acc,rfl,rfl,Dg,Dh,B9,⟨Di,Dj⟩,HW⟩:=hrel;by_cases Au:0<n1
  .obtain⟨m,rfl⟩:∃m,gk=m+1:=⟨gk-1,by omega⟩;have C7:=HW.out.1.box;have C8:=(HW.out.2.1 Au).1;have Ct:=oh C8;have r0:=C7.d 0 (.pointer (some ⟨c,0,none⟩)) rfl;clear C7 C8;go_wp2_with fail;refine (zSA HW.out.1.envr HW.out.1.subP HW.out.1.pg id1 Ct.out).mono ?_;rintro e w2 ⟨P2,F2,Av,Aw,Bn⟩;have Al:=oh (HW.out.1.nxt B8.out Aw Av);have Cu:=oh Al.out.box;clear Av Aw r0;rcases Bn with ⟨x,xv,hx,rfl,Ba⟩|⟨er,f,hx,rfl,hE⟩
   .obtain⟨xa,xc,rfl,x1,x2,x3,x4⟩:=_root_.id Ba;obtain⟨xk,xi,xg,xb⟩:=x;simp only at x1 x3 x4 Ba;unfold maxLen at x2;have C9:=oh Ba;have HX:=oh hx;have X4:=oh x4;obtain⟨wt,Cv⟩:∃wt:Nat,min n1 (nn:Int)=(wt:Int):=⟨(min n1 (nn:Int)).toNat,by omega⟩;have Cw:1<=wt:=by omega
    have Cx:(wt:Int)<=n1:=by omega
    have Cy:wt<=996:=by omega
    have Bb:Hid (min n1 ((G.size:Int)-28)=(wt:Int)):=oh (by rw[C6.out];exact Cv);have Bc:=Cu.out.alloc (.cells #[.int .i64 xk,.int .i64 xi,.int .u64 (xg:Int),.slice xa xb.length xc] 221);have r0:=Bc.d 0 (.pointer (some ⟨c,0,none⟩)) rfl;have r1:=Bc.d 1 (.pointer (some ⟨s,0,none⟩)) rfl;have r2:=Bc.d 2 (.int .u64 (gen:Int)) rfl;have Am:=oh (Al.out.pg.at ((zss w2).alloc (.cells #[.int .i64 xk,.int .i64 xi,.int .u64 (xg:Int),.slice xa xb.length xc] 221)));have Cz:=oh (zG.new w2 #[.int .i64 xk,.int .i64 xi,.int .u64 (xg:Int),.slice xa xb.length xc] 221);clear hx Ba x4 Bc;simp only[qC];go_wp2_with fail;refine (zFl Am.out gen).mono ?_;rintro e w4 ⟨rfl,Ad⟩;have Ae:Hid (zF w2 w4):=oh (((zss w2).alloc _).trans Ad);have Ai:=Cz.out.ext Ad;have q0:=Ai.d 0 (.int .i64 xk) rfl;have q3:=Ai.d 3 (.slice xa xb.length xc) rfl;have Bo:=oh Ai;clear Ad Ai r0 r1 r2;go_wp2_with fail;refine (zGY (G.size:Int) _ (by omega) (by omega)).mono ?_;rintro e w4' ⟨rfl,rfl⟩;rw[C6.out];have D0:=oh (Al.out.envr.mods Ae.out.ext);go_wp2_with fail;refine (zF4 D0.out (.slice xa xb.length xc) xb (C9.out.ext Ae.out) 0 4 (by omega)).mono ?_;rintro e w5 ⟨ev,rfl,Bd,Bp⟩;have Be:Hid (zF w2 w5):=oh (Ae.out.trans Bp);have Ar:=oh (Al.out.envr.mods Be.out.ext);have c5:=Ar.out.c5;have Ai:=Bo.out.ext Bp;have p0:=Ai.d 0 (.int .i64 xk) rfl;have p3:=Ai.d 3 (.slice xa xb.length xc) rfl;have Ca:=zLY xb;obtain⟨tk,Bq⟩:∃t,t=vC xb 0 4:=⟨_,rfl⟩;rw[<- Bq] at Bd Ca ⊢;obtain⟨nx,o⟩:=tk;simp only at Bd Ca ⊢;have As:=oh Bq;have BAD:yS G.size ⟨xk,xi,xg,xb⟩ n1=true->∀(w6:World) (f6:Nat),zF w5 w6->vN F2 ad w6 (zP f6) [zBz id1] 5->zIF J F P V ad w c s G l (qN G fuel id n) (.returned (zP f6)) w6:=by
     intro Br w6 f6 A3 A4;have h8:=HW.out.2.2.2.1;have h9:=HW.out.2.2.2.2;rw[qN,if_neg (by omega),HX.out] at h8 h9;simp only[Br,tU] at h8 h9;have hS:=Al.out.ext B8.out (Be.out.trans A3);refine⟨P2,V1,F2,_,rfl,hS.pg,hS.nx,?_,hS.apart,?_⟩
     .rw[<- h8,wJ];exact hS.j
     .rw[<- h9];exact⟨f6,rfl,A4⟩
    have BADT:Hid (∀(w6:World) (f6:Nat),yS G.size ⟨xk,xi,xg,xb⟩ n1=true->zF w5 w6->vN F2 ad w6 (zP f6) [zBz id1] 5->zIF J F P V ad w c s G l (qN G fuel id n) (.returned (zP f6)) w6):=oh (λw6 f6 Br h1 h2=>BAD Br w6 f6 h1 h2);clear BAD Bq Bp Ai q0 q3;cases o with
    | some er =>
     obtain⟨el,ek⟩:=er;obtain⟨f5,rfl,_⟩:=Bd;have Aa:Hid (yS G.size ⟨xk,xi,xg,xb⟩ n1=true):=oh (by unfold yS;rw[<- As.out];simp)
     -- bad
     go_wp2_with fail;refine (zAF Ar.out _ id1 _ _ 5 (.sent 5 (by decide) (by decide))).mono ?_;rintro e w6 ⟨f6,rfl,A4,A3⟩;have Af:=oh A4;have Ag:=oh A3;clear A4 A3;go_wp2_with fail;go_ret;exact BADT.out w6 f6 Aa.out Ag.out Af.out
    | none =>
     cases Bd
     by_cases Ax:xk=4
     .subst Ax;by_cases A0:(xb.length:Int)=4+(wt:Int)
      .have b1:((xb.length:Int) != 4+(wt:Int))=false:=by simp[A0]
       by_cases hz:(nx=0) ↔ (n1=(wt:Int))
       .have Aa:Hid (yS G.size ⟨4,xi,xg,xb⟩ n1=false):=oh (by
         unfold yS;rw[<- As.out,Bb.out];by_cases h1:nx=0 <;> by_cases h2:n1=(wt:Int) <;> simp[h1,h2,A0] at hz ⊢)
        have Cb:5<=xb.length:=by omega
        have Cc:=oh A0;obtain⟨b0,off,D1⟩:∃b0 off,xa=some ⟨b0,off,none⟩:=by
         rcases X4.out with h|⟨b,off,h,_⟩
         .rw[h] at Cb;simp at Cb
         .exact⟨b,off,h⟩
        subst D1;have Cd:Hid (Sl F2 w5 1 zZ (.slice (some ⟨b0,off+4,none⟩) (xb.length-4) (xc-4)) (xb.drop 4)):=oh (by
         have:=(C9.out.ext Be.out).sub 4 xb.length (by omega) (uD _);rw[uY (by simp)] at this;exact this)
        have Aj:=oh (Al.out.ext B8.out Be.out);have D2:5<=xc:=by omega
        have D3:¬ xc=4:=by omega
        have Ce:Hid (acc.length<=4096):=oh (by have:=HW.out.2.2.1;omega);have A9:Hid (zAi G m (nx:Int) (n1-(wt:Int))/\acc++[(id1,xb.drop 4)]++(qN G m (nx:Int) (n1-(wt:Int))).1=(qN G fuel id n).1/\(qN G m (nx:Int) (n1-(wt:Int))).2=(qN G fuel id n).2):=oh (by
         have h6:=(HW.out.2.1 Au).2 ⟨4,xi,xg,xb⟩ HX.out Aa.out;have h8:=HW.out.2.2.2.1;have h9:=HW.out.2.2.2.2;rw[qN,if_neg (by omega),HX.out] at h8 h9;simp only[Aa.out] at h8 h9;rw[<- As.out,Bb.out] at h6 h8 h9;refine⟨h6,?_,by simpa using h9⟩;simpa using h8)
        by_cases h1:nx=0
        .subst h1;have h2:n1=(wt:Int):=hz.1 rfl;subst h2;clear hz A0;go_wp2_with fail;refine (C4.out V1 F2 w5 acc id1 _ (xb.drop 4) Aj.out.j Aj.out.envr Aj.out.subV Cd.out (by have:=Cc.out;simp;omega) Ce.out).mono ?_;rintro e w6 ⟨V6,F6,rfl,Ay,Az⟩;have Bs:=oh (Aj.out.clo Az Ay);clear Ay Az;go_wp2_with fail;go_roundg m
         case measure=>omega
         case rel=>exact⟨((0:Nat):Int),(wt:Int)-(wt:Int),P2,V6,F6,acc++[(id1,xb.drop 4)],by first|rfl|exact zC1 (by omega),by first|rfl|exact zC1 (by omega),by omega,by omega,by omega,⟨by omega,by omega⟩,oh ⟨Bs.out,A9.out.1,by have:=HW.out.2.2.1;simp;omega,A9.out.2.1,A9.out.2.2⟩⟩
        .have h2:n1≠(wt:Int):=λe=>h1 (hz.2 e)
         have b2:(n1 == (wt:Int))=false:=uR.2 h2;have b3:((nx:Int) == 0)=false:=uR.2 (by omega);clear hz A0 h1 h2;go_wp2_with fail;refine (C4.out V1 F2 w5 acc id1 _ (xb.drop 4) Aj.out.j Aj.out.envr Aj.out.subV Cd.out (by have:=Cc.out;simp;omega) Ce.out).mono ?_;rintro e w6 ⟨V6,F6,rfl,Ay,Az⟩;have Bs:=oh (Aj.out.clo Az Ay);clear Ay Az;go_wp2_with fail;go_roundg m
         case measure=>omega
         case rel=>exact⟨(nx:Int),n1-(wt:Int),P2,V6,F6,acc++[(id1,xb.drop 4)],by first|rfl|exact zC1 (by omega),by first|rfl|exact zC1 (by omega),by omega,by omega,by omega,⟨by omega,by omega⟩,oh ⟨Bs.out,A9.out.1,by have:=HW.out.2.2.1;simp;omega,A9.out.2.1,A9.out.2.2⟩⟩
       .have Aa:Hid (yS G.size ⟨4,xi,xg,xb⟩ n1=true):=oh (by
         unfold yS;rw[<- As.out,Bb.out];by_cases h1:nx=0 <;> by_cases h2:n1=(wt:Int) <;> simp[h1,h2] at hz ⊢)
        by_cases h1:nx=0
        .subst h1;have h2:n1≠(wt:Int):=λe=>hz ⟨λ_=>e,λ_=>rfl⟩
         have b2:(n1 == (wt:Int))=false:=uR.2 h2;clear hz A0 h2;go_wp2_with fail;refine (zAF Ar.out _ id1 _ _ 5 (.sent 5 (by decide) (by decide))).mono ?_;rintro e w6 ⟨f6,rfl,A4,A3⟩;have Af:=oh A4;have Ag:=oh A3;clear A4 A3;go_wp2_with fail;go_ret;exact BADT.out w6 f6 Aa.out Ag.out Af.out
        .have h2:n1=(wt:Int):=Classical.byContradiction (λe=>hz ⟨λh=>absurd h h1,λh=>absurd h e⟩);have b2:(n1 == (wt:Int))=true:=rE.2 h2;have b3:((nx:Int) == 0)=false:=uR.2 (by omega);clear hz A0 h2;go_wp2_with fail;refine (zAF Ar.out _ id1 _ _ 5 (.sent 5 (by decide) (by decide))).mono ?_;rintro e w6 ⟨f6,rfl,A4,A3⟩;have Af:=oh A4;have Ag:=oh A3;clear A4 A3;go_wp2_with fail;go_ret;exact BADT.out w6 f6 Aa.out Ag.out Af.out
      .have b1:((xb.length:Int) != 4+(wt:Int))=true:=bne_iff_ne.2 A0;have b1':((xb.length:Int) == 4+(wt:Int))=false:=uR.2 A0;have Aa:Hid (yS G.size ⟨4,xi,xg,xb⟩ n1=true):=oh (by
        unfold yS;rw[<- As.out,Bb.out];simp[A0])
       clear A0;go_wp2_with fail;refine (zAF Ar.out _ id1 _ _ 5 (.sent 5 (by decide) (by decide))).mono ?_;rintro e w6 ⟨f6,rfl,A4,A3⟩;have Af:=oh A4;have Ag:=oh A3;clear A4 A3;go_wp2_with fail;go_ret;exact BADT.out w6 f6 Aa.out Ag.out Af.out
     .have b1:(xk != 4)=true:=bne_iff_ne.2 Ax;have b1':(xk == 4)=false:=uR.2 Ax;have Aa:Hid (yS G.size ⟨xk,xi,xg,xb⟩ n1=true):=oh (by
       unfold yS;rw[<- As.out];simp[Ax])
      clear Ax;go_wp2_with fail;refine (zAF Ar.out _ id1 _ _ 5 (.sent 5 (by decide) (by decide))).mono ?_;rintro e w6 ⟨f6,rfl,A4,A3⟩;have Af:=oh A4;have Ag:=oh A3;clear A4 A3;go_wp2_with fail;go_ret;exact BADT.out w6 f6 Aa.out Ag.out Af.out
   .have HX:=oh hx;have HE:=oh hE;clear hx hE;simp only[qC,zH8];go_wp2_with fail;go_ret;have hS:=Al.out.ext B8.out ((zss w2).alloc gE);refine⟨P2,V1,F2,_,rfl,hS.pg,hS.nx,?_,hS.apart,?_⟩
    .have h8:=HW.out.2.2.2.1;rw[qN,if_neg (by omega),HX.out,wJ] at h8;rw[<- h8];exact hS.j
    .have h9:=HW.out.2.2.2.2;rw[qN,if_neg (by omega),HX.out] at h9;rw[<- h9];exact⟨f,rfl,HE.out.mods (zr.alloc _)⟩
  .go_wp2_with fail;go_ret;have hz:qN G gk id1 n1=([],none):=by
    cases gk with
    | zero=>rfl
    | succ k=>rw[qN,if_pos (by omega)]
   have h8:=HW.out.2.2.2.1;have h9:=HW.out.2.2.2.2;rw[hz] at h8 h9;refine⟨P1,V1,F1,_,rfl,HW.out.1.pg,HW.out.1.nx,?_,HW.out.1.apart,?_⟩
   .rw[<- h8,wJ];exact HW.out.1.j
   .rw[<- h9];rfl
end
theorem zG8{P:Program}{F:NP}{w:World}{src dst e:TypeId}(hs:P.underlying src=some (.slice e))(he:P.underlying e=some (.int .u8))(hd:P.underlying dst=some .string){v:Value}{l:List UInt8}(h:Sl F w 1 zZ v l) :
  (convert src dst v).run P w=.ok (.string ⟨l.toArray⟩) w:=by
 obtain⟨a,cap,rfl,h1,h2,h3,h4⟩:=h;rcases h4 with h4|⟨b,off,rfl,hb,hF,hc⟩
 .subst h4;rw[run_convert_bytes_string w src dst e _ _ cap hs he hd];cases a <;> simp[Conv.bytesToString,loadCells,loadCellsFrom] <;> rfl
 .have:=run_convert_bytes_arg (P:=P) w src e hs he b off l.length cap (l.map λx=>(x.toNat:Int)) (by simp) (λi hi=>by
   have h5:=hc i l[i] (uB hi) 0 _ rfl;simp only[wC,uT] at h5;rw[h5];simp[List.getD,hi]) dst hd
  rw[this];congr 3
  unfold strOfNums;simp only[List.map_map];congr 2
  have:((λn:Int=>UInt8.ofNat n.toNat) ∘ λx:UInt8=>(x.toNat:Int))=id:=by funext x;simp
  rw[this,List.map_id]
section
variable {P P' F F':NP}{ad:Nat->Addr}{w w':World}{c s:Nat}{G G':GA}{l l':List Nat}
theorem zX.comp{V V' F1 F2:NP}{w1 w2:World}(n1:zX P P F F1 ad w w1)(n2:zX (U P V) (U P' V') F1 F2 ad w1 w2)(hV:∀k,V k->w.heap.size<=k):zX P P' F F2 ad w w2 :=
 ⟨⟨n1.stp.mods.trans' n2.stp.mods (λi hi h=>h.elim id (λhv=>by have:=hV i hv;omega)),λk hk h=>(n2.stp.old k (uF hk n1.stp.mods.size) (.inl h)).elim id (λhv=>by have:=hV k hv;omega),λk h=>n2.stp.bd k (.inl h)⟩,
  λk h=>n2.sub k (.inl h),λk h=>n2.grow k (n1.grow k h),λk hk h=>n1.oldF k hk (n2.oldF k (uF hk n1.stp.mods.size) h),n2.env⟩
theorem zN6(a b:List UInt8):(⟨a.toArray⟩:ByteArray) ++ ⟨b.toArray⟩=⟨(a++b).toArray⟩:=by
 apply pN;simp
def zJc(b:Nat)(V _F:NP)(w:World)(acc:List (Int × List UInt8)):Prop:=(∀k,V k ↔ k=b)/\zG w b #[.string ⟨(acc.flatMap (·.2)).toArray⟩] 9 /\ (acc.flatMap (·.2)).length<=1000 * acc.length
theorem zJc.keep(b:Nat):zLX (zJc b) ad:=λ_ _ _ _ _ _ _ _ h n Bf=>⟨h.1,n.blk h.2.1 (λhp=>Bf b hp ((h.1 b).2 rfl)),h.2.2⟩
theorem zOv(b:Nat)(V1 F1:NP)(w1:World)(acc:List (Int × List UInt8))(id:Int)(sv:Value)(x:List UInt8)(h:zJc b V1 F1 w1 acc)(hL:yH F1 ad w1)(hV:∀k,V1 k->F1 k)(hs:Sl F1 w1 1 zZ sv x)(hx:x.length<=1000)(An:acc.length<=4096) :
  Calls Tryz.prog 259 #[.int .i64 id,sv,.pointer (some ⟨b,0,none⟩)] w1 λe w2=>∃V2 F2,e=.returned (.tuple #[])/\zJc b V2 F2 w2 (acc++[(id,x)])/\zX V1 V2 F1 F2 ad w1 w2:=by
 have c0:=h.2.1.d 0 (.string ⟨(acc.flatMap (·.2)).toArray⟩) rfl;have f0:=h.2.1.frozen 0;have Dk:=zG8 (P:=Tryz.prog) Tryz.underlying69 Tryz.underlying5 Tryz.underlying9 hs;obtain⟨S,hS⟩:∃S,S=(acc.flatMap (·.2)):=⟨_,rfl⟩;have D4:=h.2.2;rw[<- hS] at c0 D4;have D5:S.length<=4096000:=by omega
 have HS:=oh hS;have HH:=oh h;have HL:=oh hL;have HV:=oh hV;clear h hL hV hs hS
 go_enter Tryz.func259, Tryz.ntmps259
 go_wp2_with fail;go_end0
 have e1:(acc++[(id,x)]).flatMap (·.2)=S++x:=by rw[tP,HS.out];simp
 refine⟨V1,F1,rfl,⟨HH.out.1,?_,?_⟩,zX.same HL.out HV.out (zA.at _ _ b 0 _ ((HH.out.1 b).2 rfl))⟩
 .have:=HH.out.2.1.set 0 (.string ⟨(S++x).toArray⟩);rw[e1,<- zN6];rw[<- zN6] at this;simpa using this
 .rw[e1];simp;omega
def zJd(b:Nat)(V _F:NP)(w:World)(acc:List (Int × List UInt8)):Prop :=
 ∃iv,zG w b #[iv] 34 /\ yC (λ_=>False) w b 3 1 yI iv (acc.map (·.1))/\iv.ownBlock≠some b/\∀k,V k ↔ (k=b\/iv.ownBlock=some k)
theorem zJd.keep(b:Nat):zLX (zJd b) ad:=λ_ _ _ _ _ _ _ _ ⟨iv,h1,h2,h3,h4⟩ n Bf =>
 ⟨iv,n.blk h1 (λhp=>Bf b hp ((h4 b).2 (.inl rfl))),h2.mods n.stp.mods (λg hg hp=>Bf g hp ((h4 g).2 (.inr hg))),h3,h4⟩
theorem zOw(b:Nat)(V1 F1:NP)(w1:World)(acc:List (Int × List UInt8))(id:Int)(sv:Value)(h:zJd b V1 F1 w1 acc)(hL:yH F1 ad w1)(hV:∀k,V1 k->F1 k)(An:acc.length<=4096)(x:List UInt8) :
  Calls Tryz.prog 318 #[.int .i64 id,sv,.pointer (some ⟨b,0,none⟩)] w1 λe w2=>∃V2 F2,e=.returned (.tuple #[])/\zJd b V2 F2 w2 (acc++[(id,x)])/\zX V1 V2 F1 F2 ad w1 w2:=by
 obtain⟨iv,k1,k2,k3,k4⟩:=h;obtain⟨ia,icap,rfl,_⟩:=k2.form;have c0:=k1.d 0 (.slice ia (acc.map (·.1)).length icap) rfl;have f0:=k1.frozen 0;have Bg:=k1.lt;obtain⟨A,hA⟩:∃A,A=acc.map (·.1):=⟨_,rfl⟩;have Dl:A.length<=4096:=by rw[hA];simpa using An
 rw[<- hA] at c0 k1 k2 k3 k4;have HA:=oh hA;have K1:=oh k1;have K2:=oh k2;have K3:=oh k3;have K4:=oh k4;have HL:=oh hL;have HV:=oh hV;clear hA k1 k2 k3 k4 hL hV An
 go_enter Tryz.func318, Tryz.ntmps318
 go_wp2_with (at_builtin;refine yX Tryz.elI vH rfl _ _ rfl b (.slice ia A.length icap) (.slice (some ⟨w1.heap.size,0,none⟩) 1 1) A [id] rfl rfl (K2.out.ext (zr.alloc _)) (Sl.one (F:=λ_=>False) (x:=id) (t := 3) (fz:=(0,0)) (zS rfl) (λf=>f)) (by simp;omega) (uP (Nat.le_of_lt Bg) (by simp)) (λf=>f) ?_;intro a' c' w4 B1 Ab Cf;have y0:=(zJU Ab (zJV ⟨c0,f0⟩ (.cells #[.int .i64 id] 3)) K3.out).1;have y1:=(zJU Ab (zJV ⟨c0,f0⟩ (.cells #[.int .i64 id] 3)) K3.out).2);go_end0
 have D6:=(K1.out.alloc (.cells #[.int .i64 id] 3)).mods Ab K3.out;have D7:=Ab.size;simp only[World.alloc] at D7;have Cg:(Value.slice a' (A.length + [id].length) c').ownBlock≠some b:=λe=>by
  rcases Cf with e2|e2
  .exact K3.out (e2 ▸ e)
  .rw[e2] at e;injection e with e;simp at e;omega
 have m1:zA V1 w1 w4:=((zss w1).alloc (.cells #[.int .i64 id] 3)).trans (Ab.mono (λk hk=>(K4.out k).2 (.inr hk)));have m2:=m1.setCell (p:=⟨b,0,none⟩) (.inr ((K4.out b).2 (.inl rfl))) (.slice a' (A.length + [id].length) c');have st:Stp V1 (λk=>k=b\/(Value.slice a' (A.length + [id].length) c').ownBlock=some k) w1 (w4.setCell ⟨b,0,none⟩ (.slice a' (A.length + [id].length) c')):=by
  refine⟨m2,λk hk hf=>?_,λk hf=>?_⟩
  .rcases hf with rfl|hf
   .exact (K4.out k).2 (.inl rfl)
   .rcases Cf with e2|e2
    .exact (K4.out k).2 (.inr (e2 ▸ hf))
    .rw[e2] at hf;injection hf with hf;simp at hf;omega
  .rcases hf with rfl|hf
   .exact uF Bg m2.size
   .have:=(B1.lt k hf).2;simpa[World.setCell] using this
 refine⟨_,_,rfl,⟨.slice a' (A.length + [id].length) c',?_,?_,Cg,λk=>rQ⟩,zX.of HL.out HV.out st⟩
 .have:=D6.set 0 (.slice a' (A.length + [id].length) c');simpa using this
 .have h1:=B1.mods (zA.at (λk=>k=b) w4 b 0 (.slice a' (A.length + [id].length) c') rfl) (λg hg e=>Cg (e ▸ hg));rw[rH,<- HA.out];exact h1
def zAZ(G:GA)(id n:Int):Option Err :=
 match zAl n with
 | some e=>some e
 | none=>zN1 (qN G n.toNat id n).2
def zQT[zQ](F P:NP)(ad:Nat->Addr)(w:World)(c s:Nat)(G:GA)(l:List Nat)(id n:Int)(e:Ending)(w':World):Prop :=
  ∃(P' F':NP),jK F' w' P' c s G l/\zX P P' F F' ad w w' /\
    ((zAZ G id n = none /\ e = .returned (.tuple #[.string ⟨((qN G n.toNat id n).1.flatMap (·.2)).toArray⟩, .nilIface])) \/
     (∃(er:Err) (f:Nat),zAZ G id n=some er/\e=.returned (.tuple #[.string ⟨#[]⟩,zP f])/\vN F' ad w' (zP f) er.1 er.2))
def zQU[zQ](F P:NP)(ad:Nat->Addr)(w:World)(c s:Nat)(G:GA)(l:List Nat)(id n:Int)(e:Ending)(w':World):Prop :=
  ∃(P' F':NP),jK F' w' P' c s G l/\zX P P' F F' ad w w' /\
    ((zAZ G id n = none /\ ∃ iv, e = .returned (.tuple #[iv, .nilIface]) /\ Sl P' w' 1 yI iv ((qN G n.toNat id n).1.map (·.1))) \/
     (∃(er:Err) (f:Nat),zAZ G id n=some er/\e=.returned (.tuple #[.slice none 0 0,zP f])/\vN F' ad w' (zP f) er.1 er.2))
theorem jK.plusNew[zQ](h:jK F w P c s G l)(_hP:∀k,P k->F k){Q:NP}(m:zF w w')(hQ:∀k,Q k->w.heap.size<=k):jK (λk=>F k\/Q k) w' P c s G l :=
 h.plus (Q:=λ_=>False) m (λ_ _ f=>f) (λ_ f=>f.elim) (λk hk hn hf=>hf.elim hn (λhq=>by have:=hQ k hq;omega))
theorem zX.new(hL:yH F ad w)(hP:∀k,P k->F k){Q:NP}(m:zF w w')(hQ:∀k,Q k->w.heap.size<=k)(D8:∀k,Q k->k<w'.heap.size):zX P P F (λk=>F k\/Q k) ad w w' :=
 ⟨Stp.ext (λk h=>hL.lt k (hP k h)) m,λk h=>.inl (hP k h),λ_ h=>.inl h,λk hk h=>h.elim id (λhq=>by have:=hQ k hq;omega),
  hL.step m.ext (λk hk hn hf=>hf.elim hn (λhq=>by have:=hQ k hq;omega)) (λk hf=>hf.elim (λhf=>uF (hL.lt k hf) m.size) (D8 k))⟩
theorem Tryz.enterR(args:Array Value)(w:World):(callFunc 259 args).run Tryz.prog w=.ok (.enter 259 args) w:=by kernel_rfl
theorem Tryz.enterL(args:Array Value)(w:World):(callFunc 318 args).run Tryz.prog w=.ok (.enter 318 args) w:=by kernel_rfl
theorem zMw[zQ](hL:yH F ad w)(hP:∀k,P k->F k)(h:jK F w P c s G l)(gen:Nat)(id n:Int)(hid : -9223372036854775808<=id/\id<=9223372036854775807)(A8:25<=n->n<=4096->zAi G n.toNat id n) :
  Calls Tryz.prog 181 #[pgV c s gen,.int .i64 id,.int .i64 n] w (zQT F P ad w c s G l id n):=by
 unfold pgV;have m0:zF w (w.alloc (gP c s gen)):=(zss w).alloc _;have B2:=oh (zG.new w (gP c s gen) 117);have Ao:=oh (zX.ext hL hP m0);have HL:=oh hL;have HP:=oh hP;have HG:=oh h;have Ak:=oh A8;have Bt:=oh m0;clear hL hP h m0 A8
 go_enter Tryz.func181, Tryz.ntmps181
 go_wp2_with fail;refine (zEr Ao.out.env _ gen n).mono ?_;rintro e w1 ⟨ev,rfl,hE,Ah⟩;have A5:=oh (Bt.out.trans Ah);have A2:=B2.out.ext Ah;have r0:=A2.d 0 (.pointer (some ⟨c,0,none⟩)) rfl;have r1:=A2.d 1 (.pointer (some ⟨s,0,none⟩)) rfl;have r2:=A2.d 2 (.int .u64 (gen:Int)) rfl;have Bg:=A2.lt;cases A1:zAl n with
 | some er =>
  obtain⟨el,ek⟩:=er;rw[A1] at hE;obtain⟨f,rfl,hE⟩:=hE;have HE:=oh hE;have HK:Hid (zAZ G id n=some (el,ek)):=oh (by unfold zAZ;rw[A1]);clear hE A1 Ah A2;go_wp2_with fail;go_ret2
  exact⟨P,F,HG.out.at A5.out,zX.ext HL.out HP.out A5.out,.inr ⟨(el,ek),f,HK.out,rfl,HE.out⟩⟩
 | none =>
  rw[A1] at hE;cases hE
  have hn:25<=n/\n<=4096:=by unfold zAl at A1;split at A1;cases A1;omega
  obtain⟨B9,Bu⟩:=hn;have B3:=oh A1;have m1:zF w (w1.alloc (.cells #[.string ⟨#[]⟩] 9)):=A5.out.alloc _;have A6:=oh (zX.new (Q:=λk=>k=w1.heap.size) HL.out HP.out m1 (λk hk=>hk ▸ A5.out.size) (λk hk=>by rw[hk];simp));have At:=oh (HG.out.plusNew HP.out (Q:=λk=>k=w1.heap.size) m1 (λk hk=>hk ▸ A5.out.size));have Bv:=oh (zG.new w1 #[.string ⟨#[]⟩] 9);have Bw:=oh HG.out.bd;clear A1 Ah A2;go_wp2_with fail;refine (zLZ (zJc w1.heap.size) (λk=>k=w1.heap.size) A6.out.env A6.out.sub (λk hk=>.inr hk) (λk hk hv=>by have:=Bw.out k hk;have:=A5.out.size;omega) At.out gen id n (by omega) n.toNat (by omega) (Ak.out B9 Bu) 259 (.pointer (some ⟨w1.heap.size,0,none⟩)) hid (by omega) Tryz.enterR ⟨λk=>rQ,Bv.out,by simp⟩ (zJc.keep _) (λV1 F1 w2 acc id sv b j1 j2 j3 j4 j5 j6=>zOv _ V1 F1 w2 acc id sv b j1 j2 j3 j4 j5 j6)).mono ?_;rintro e w3 ⟨P3,V3,F3,ev,rfl,B4,B5,Bh,Bi,A7⟩;have Ac:=oh (A6.out.comp B5 (λk hk=>by rw[hk];exact A5.out.size));have Am:=oh B4;have hc:=Bh.2.1.d 0 (.string ⟨((qN G n.toNat id n).1.flatMap (·.2)).toArray⟩) rfl;obtain⟨wk,Ap⟩:∃x,x=qN G n.toNat id n:=⟨_,rfl⟩;rw[<- Ap] at hc A7;obtain⟨wr1,we⟩:=wk;have Aq:=oh Ap;simp only at hc A7;clear B4 B5 Bh Bi Ap;cases we with
  | none =>
   cases A7
   have HK:Hid (zAZ G id n=none):=oh (by unfold zAZ;rw[B3.out,<- Aq.out];rfl);go_wp2_with fail;go_ret2
   exact⟨P3,F3,Am.out,Ac.out,.inl ⟨HK.out,by rw[<- Aq.out];rfl⟩⟩
  | some er =>
   obtain⟨el,ek⟩:=er;obtain⟨f,rfl,A7⟩:=A7;have Bx:=oh A7;have HK:Hid (zAZ G id n=some (-1 :: el,ek)):=oh (by unfold zAZ;rw[B3.out,<- Aq.out];rfl);clear A7;go_wp2_with fail;refine (wrap_any Ac.out.env _ _ el ek Bx.out).mono ?_;rintro e w4 ⟨f4,rfl,B6,Ad⟩;have By:=oh B6;have Ae:=oh Ad;clear B6 Ad;go_wp2_with fail;go_ret2
   exact⟨P3,F3,Am.out.at Ae.out,Ac.out.trans (zX.ext Ac.out.env Ac.out.sub Ae.out),.inr ⟨(-1 :: el,ek),f4,HK.out,rfl,By.out⟩⟩
end
section
theorem zJe(G:GA):∀(f:Nat) (id n:Int),(qN G f id n).1.length<=f
 | 0,_,_=>by simp[qN]
 | f+1,id,n=>by
  rw[qN];split
  .simp
  .split
   .simp
   .split
    .simp
    .have:=zJe G f;simp only[uG];exact Nat.succ_le_succ (this _ _)
variable {P P' F F':NP}{ad:Nat->Addr}{w w':World}{c s:Nat}{G G':GA}{l l':List Nat}
def zOx[zQ](F P:NP)(ad:Nat->Addr)(w:World)(c s:Nat)(G:GA)(l:List Nat)(id n:Int)(e:Ending)(w':World):Prop :=
  ∃(P' F':NP),jK F' w' P' c s G l/\zX P P' F F' ad w w' /\
    ((zAZ G id n = none /\ ∃ iv, e = .returned (.tuple #[iv, .nilIface]) /\ Sl P' w' 1 yI iv ((qN G n.toNat id n).1.map (·.1)) /\ ∀ g, iv.ownBlock = some g -> w.heap.size <= g) \/
     (∃(er:Err) (f:Nat),zAZ G id n=some er/\e=.returned (.tuple #[.slice none 0 0,zP f])/\vN F' ad w' (zP f) er.1 er.2))
theorem zLa[zQ](hL:yH F ad w)(hP:∀k,P k->F k)(h:jK F w P c s G l)(gen:Nat)(id n:Int)(hid : -9223372036854775808<=id/\id<=9223372036854775807)(A8:25<=n->n<=4096->zAi G n.toNat id n) :
  Calls Tryz.prog 287 #[pgV c s gen,.int .i64 id,.int .i64 n] w (zOx F P ad w c s G l id n):=by
 unfold pgV;have m0:zF w (w.alloc (gP c s gen)):=(zss w).alloc _;have B2:=oh (zG.new w (gP c s gen) 117);have Ao:=oh (zX.ext hL hP m0);have HL:=oh hL;have HP:=oh hP;have HG:=oh h;have Ak:=oh A8;have Bt:=oh m0;clear hL hP h m0 A8
 go_enter Tryz.func287, Tryz.ntmps287
 go_wp2_with fail;refine (zEr Ao.out.env _ gen n).mono ?_;rintro e w1 ⟨ev,rfl,hE,Ah⟩;have A5:=oh (Bt.out.trans Ah);have A2:=B2.out.ext Ah;have r0:=A2.d 0 (.pointer (some ⟨c,0,none⟩)) rfl;have r1:=A2.d 1 (.pointer (some ⟨s,0,none⟩)) rfl;have r2:=A2.d 2 (.int .u64 (gen:Int)) rfl;have Bg:=A2.lt;cases A1:zAl n with
 | some er =>
  obtain⟨el,ek⟩:=er;rw[A1] at hE;obtain⟨f,rfl,hE⟩:=hE;have HE:=oh hE;have HK:Hid (zAZ G id n=some (el,ek)):=oh (by unfold zAZ;rw[A1]);clear hE A1 Ah A2;go_wp2_with fail;go_ret2
  exact⟨P,F,HG.out.at A5.out,zX.ext HL.out HP.out A5.out,.inr ⟨(el,ek),f,HK.out,rfl,HE.out⟩⟩
 | none =>
  rw[A1] at hE;cases hE
  have hn:25<=n/\n<=4096:=by unfold zAl at A1;split at A1;cases A1;omega
  obtain⟨B9,Bu⟩:=hn;have B3:=oh A1;have m1:zF w (w1.alloc (.cells #[.slice none 0 0] 34)):=A5.out.alloc _;have A6:=oh (zX.new (Q:=λk=>k=w1.heap.size) HL.out HP.out m1 (λk hk=>hk ▸ A5.out.size) (λk hk=>by rw[hk];simp));have At:=oh (HG.out.plusNew HP.out (Q:=λk=>k=w1.heap.size) m1 (λk hk=>hk ▸ A5.out.size));have Bv:=oh (zG.new w1 #[.slice none 0 0] 34);have Bw:=oh HG.out.bd;clear A1 Ah A2;go_wp2_with fail;refine (zLZ (zJd w1.heap.size) (λk=>k=w1.heap.size) A6.out.env A6.out.sub (λk hk=>.inr hk) (λk hk hv=>by have:=Bw.out k hk;have:=A5.out.size;omega) At.out gen id n (by omega) n.toNat (by omega) (Ak.out B9 Bu) 318 (.pointer (some ⟨w1.heap.size,0,none⟩)) hid (by omega) Tryz.enterL ⟨.slice none 0 0,Bv.out,yC.nil _ _ _ _ _ _,by simp[Value.ownBlock],λk=>by simp[Value.ownBlock]⟩ (zJd.keep _) (λV1 F1 w2 acc id sv b j1 j2 j3 j4 j5 j6=>zOw _ V1 F1 w2 acc id sv j1 j2 j3 j6 b)).mono ?_;rintro e w3 ⟨P3,V3,F3,ev,rfl,B4,B5,Bh,Bi,A7⟩;have Ac:=oh (A6.out.comp B5 (λk hk=>by rw[hk];exact A5.out.size));have Am:=oh B4;obtain⟨iv,q1,q2,q3,q4⟩:=Bh;have hc:=q1.d 0 iv rfl;have HSl:Hid (((qN G n.toNat id n).1.map (·.1)).length<=140737488355328->Sl P3 w3 1 yI iv ((qN G n.toNat id n).1.map (·.1))):=oh (λhl=>yC.sl (F:=P3) (q2.blocks (λg hg hp=>Bi g hp ((q4 g).2 (.inr hg)))) vH.len hl);have D9:Hid (∀g,iv.ownBlock=some g->w.heap.size<=g):=oh (λg hg=>uP A5.out.size (q2.lt g hg).1);obtain⟨wk,Ap⟩:∃x,x=qN G n.toNat id n:=⟨_,rfl⟩;rw[<- Ap] at A7 HSl;have Bz:Hid ((qN G n.toNat id n).1.length<=4096):=oh (by have:=zJe G n.toNat id n;omega);obtain⟨wr1,we⟩:=wk;have Aq:=oh Ap;simp only at A7;clear B4 B5 Bi Ap q1 q2 q3 q4;cases we with
  | none =>
   cases A7
   have HK:Hid (zAZ G id n=none):=oh (by unfold zAZ;rw[B3.out,<- Aq.out];rfl);go_wp2_with fail;go_ret2
   exact⟨P3,F3,Am.out,Ac.out,.inl ⟨HK.out,iv,rfl,by
    have:=Bz.out;rw[<- Aq.out] at this ⊢;exact HSl.out (by rw[wS];exact uP this (by omega)),D9.out⟩⟩
  | some er =>
   obtain⟨el,ek⟩:=er;obtain⟨f,rfl,A7⟩:=A7;have Bx:=oh A7;have HK:Hid (zAZ G id n=some (-1 :: el,ek)):=oh (by unfold zAZ;rw[B3.out,<- Aq.out];rfl);clear A7;go_wp2_with fail;refine (wrap_any Ac.out.env _ _ el ek Bx.out).mono ?_;rintro e w4 ⟨f4,rfl,B6,Ad⟩;have By:=oh B6;have Ae:=oh Ad;clear B6 Ad;go_wp2_with fail;go_ret2
   exact⟨P3,F3,Am.out.at Ae.out,Ac.out.trans (zX.ext Ac.out.env Ac.out.sub Ae.out),.inr ⟨(-1 :: el,ek),f4,HK.out,rfl,By.out⟩⟩
theorem zMx[zQ](hL:yH F ad w)(hP:∀k,P k->F k)(h:jK F w P c s G l)(gen:Nat)(id n:Int)(hid : -9223372036854775808<=id/\id<=9223372036854775807)(A8:25<=n->n<=4096->zAi G n.toNat id n) :
  Calls Tryz.prog 287 #[pgV c s gen,.int .i64 id,.int .i64 n] w (zQU F P ad w c s G l id n) :=
 (zLa hL hP h gen id n hid A8).mono λ_ _ ⟨P',F',g,nx,r⟩=>⟨P',F',g,nx,r.imp (λ⟨a,iv,b,d,_⟩=>⟨a,iv,b,d⟩) (λh=>h)⟩
theorem slN{v:Value}{x:List Nat}{y:List Int}(e:y=x.map (λk:Nat=>(k:Int)))(h:Sl P w 1 yI v y):Sl P w 1 zJD v x:=by
 subst e;obtain⟨a,cap,e1,h1,h2,h3,h4⟩:=h;refine⟨a,cap,by simpa using e1,by simpa using h1,h2,by simpa using h3,?_⟩;rcases h4 with h4|⟨b,off,ha,hb,hF,hc⟩
 .exact .inl (by simpa using h4)
 .exact .inr ⟨b,off,ha,hb,hF,λi z hz j u hu=>hc i (z:Int) (by simp[hz]) j u hu⟩
def zOy[zQ](F P:NP)(ad:Nat->Addr)(w:World)(c s:Nat)(G:GA)(l:List Nat)(id n:Int)(ids:List Nat)(e:Ending)(w':World):Prop :=
  ∃(P' F':NP) (G':GA) (l':List Nat),jK F' w' P' c s G' l'/\zX P P' F F' ad w w' /\
    ((zAZ G id n = none /\ G' = jY G ids /\ l' = jU l ids /\ e = .returned .nilIface) \/
     (∃(er:Err) (f:Nat),zAZ G id n=some er/\G'=G/\l'=l/\e=.returned (zP f)/\vN F' ad w' (zP f) (-1 :: er.1) er.2))
theorem zLb[zQ](hL:yH F ad w)(hP:∀k,P k->F k)(h:jK F w P c s G l)(gen:Nat)(id n:Int)(hid : -9223372036854775808<=id/\id<=9223372036854775807)(A8:25<=n->n<=4096->zAi G n.toNat id n)
  (ids:List Nat) (B7:zAZ G id n=none->(qN G n.toNat id n).1.map (·.1)=ids.map (λk:Nat=>(k:Int))/\zCr l ids) :
  Calls Tryz.prog 225 #[pgV c s gen,.int .i64 id,.int .i64 n] w (zOy F P ad w c s G l id n ids):=by
 unfold pgV;have m0:zF w (w.alloc (gP c s gen)):=(zss w).alloc _;have B2:=oh (zG.new w (gP c s gen) 117);have Ao:=oh (zX.ext hL hP m0);have HL:=oh hL;have HP:=oh hP;have HG:=oh (h.at m0);have Ak:=oh A8;have HI:=oh B7;have Ch:=λk (hk:P k)=>h.bd k hk
 have Da:=oh Ch;clear hL hP h m0 A8 B7 Ch
 go_enter Tryz.func225, Tryz.ntmps225
 go_wp2_with fail;refine (zMx Ao.out.env Ao.out.sub HG.out gen id n hid Ak.out).mono ?_;rintro e w1 ⟨P1,F1,Ci,C0,hr⟩;have A2:=C0.blk B2.out (λhp=>by have:=Da.out _ hp;omega);have r0:=A2.d 0 (.pointer (some ⟨c,0,none⟩)) rfl;have r1:=A2.d 1 (.pointer (some ⟨s,0,none⟩)) rfl;have r2:=A2.d 2 (.int .u64 (gen:Int)) rfl;have At:=oh Ci;have A6:=oh (Ao.out.trans C0);clear Ci C0 A2;rcases hr with ⟨hk,iv,rfl,Cj⟩|⟨er,f,hk,rfl,hE⟩
 .obtain⟨i1,i2⟩:=HI.out hk;have HS:=oh (slN i1 Cj);have HK:=oh hk;have Db:=oh i2;clear i1 i2 Cj hk;go_wp2_with fail;refine (zIB A6.out.env A6.out.sub At.out gen iv ids HS.out Db.out).mono ?_;rintro e w2 ⟨P2,F2,Av,Aw,rfl⟩;have Dc:=oh Av;have Dd:=oh (A6.out.trans Aw);clear Av Aw;go_wp2_with fail;refine (wrap_nil _ _).mono ?_;rintro e w3 ⟨rfl,rfl⟩;go_wp2_with fail;go_ret;exact⟨P2,F2,_,_,Dc.out,Dd.out,.inl ⟨HK.out,rfl,rfl,rfl⟩⟩
 .obtain⟨el,ek⟩:=er;have HE:=oh hE;have HK:=oh hk;clear hE hk;go_wp2_with fail;refine (wrap_any A6.out.env _ _ el ek HE.out).mono ?_;rintro e w2 ⟨f2,rfl,Ck,Cl⟩;have De:=oh Ck;have Cm:=oh Cl;clear Ck Cl;go_wp2_with fail;go_ret;exact⟨P1,F1,G,l,At.out.at Cm.out,A6.out.trans (zX.ext A6.out.env A6.out.sub Cm.out),.inr ⟨(el,ek),f2,HK.out,rfl,rfl,rfl,De.out⟩⟩
end
section
variable {F:NP}{ad:Nat->Addr}{w:World}
def zN7:Option Err->Nat
 | none=>0
 | some e=>e.2
end
end Go.Proofs.YtalpfcaakpgkmaaGreatDoor
