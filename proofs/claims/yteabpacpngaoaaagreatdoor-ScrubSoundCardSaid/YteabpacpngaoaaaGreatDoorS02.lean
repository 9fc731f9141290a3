import Derived.Test.YteabpacpngaoaaaGreatDoorS01
import Derived.Test.YteabpacpngaoaaaGreatDoorB24
namespace Go.Proofs.YteabpacpngaoaaaGreatDoor
open Lib renaming hid->oh
set_option maxRecDepth 100000
open Go.RowKit
section
variable {P F:Nat->Prop}{ad:Nat->Addr}{w w':World}{d bl:Nat}{gs ws:List Nat}{wv kv:Value}{D:DiskA}
theorem zBV(x mask k r:Nat)(hx:x<256)(hm:mask<4294967296)(hr:r<8):bits .xor .u8 (x:Int) (bits .and .u32 ((mask:Int) / 2 ^ k) 1 % 256 * 2 ^ r % 256)=((x ^^^ (mask / 2 ^ k % 2 * 2 ^ r):Nat):Int):=by
 have e1:((mask:Int) / 2 ^ k)=((mask / 2 ^ k:Nat):Int):=by simp
 have Aj:mask / 2 ^ k<4294967296:=Nat.lt_of_le_of_lt (Nat.div_le_self _ _) hm;have e2:bits .and .u32 ((mask / 2 ^ k:Nat):Int) 1=((mask / 2 ^ k % 2:Nat):Int):=by
  have:=u32_and_nat (mask / 2 ^ k) 1 Aj (by decide);rw[nat_mask1] at this;exact this
 have hb:mask / 2 ^ k % 2<2:=Nat.mod_lt _ (by omega);rw[e1,e2];generalize mask / 2 ^ k % 2=b at hb
 have hp:=jJ b r hb hr;have e3:((b:Int) % 256 * 2 ^ r % 256)=((b * 2 ^ r:Nat):Int):=by
  rw[Int.emod_eq_of_lt (by omega) (by omega:(b:Int)<256)];have e:((b * 2 ^ r:Nat):Int)=(b:Int) * 2 ^ r:=by simp
  rw[<- e];omega
 rw[e3];exact u8_xor_nat x (b * 2 ^ r) hx hp
theorem vZ:∀(l:List Nat) (i j x:Nat),l.Nodup->l[i]? = some x->l[j]? = some x->i=j
 | [],i,_,_,_,h,_=>by simp at h
 | a :: l,0,0,_,_,_,_=>rfl
 | a :: l,0,j+1,x,hn,h1,h2=>by
  simp at h1 h2;subst h1;exact absurd (uL h2) (uO.1 hn).1
 | a :: l,i+1,0,x,hn,h1,h2=>by
  simp at h1 h2;subst h2;exact absurd (uL h1) (uO.1 hn).1
 | a :: l,i+1,j+1,x,hn,h1,h2=>by rw[vZ l i j x (uO.1 hn).2 (by simpa using h1) (by simpa using h2)]
theorem DkR.rowSet{w1 wr:World}{i g:Nat}{l:List UInt8}(h:DkR w1 d bl gs ws wv kv D)(hg:gs[i]? = some g)(m:Mods (λx=>x=g) w1 wr)(hb:Blk wr g (bytesC l) 5)(hl:l.length=D.size)(hd:g≠d)(Ak:g≠bl) :
  DkR wr d bl gs ws wv kv { D with lasting:=D.lasting.set i l }:=by
 have hn:=h.nodup;have Aa:=(uO.1 (uO.1 hn).2).2;rw[List.nodup_append] at Aa;obtain⟨n1,n2,n3⟩:=Aa;have Ab:g∈gs:=uL hg;obtain⟨cap,a1,a2,a3,rest,a4,a5⟩:=h.own;have A3:∀x,x∈d :: bl :: (gs++ws)->g∈d :: bl :: (gs++ws):=λ_ _=>uF _ (uF _ (uR _ Ab))
 refine⟨⟨cap,a1,a2,a3.mods m (Ne.symm hd),rest,a4.mods m (Ne.symm Ak),a5⟩,h.lenB,by simpa using h.lenL,h.lenW,h.keep.mods m (λx hx e=>h.keep.2 x hx (e ▸ A3 d uI)),h.kw,h.few2,h.wait.mods m (λx hx e=>h.wait.2 x hx (e ▸ A3 d uI)),
  λj g' b hg' hb'=>?_,λj g' p hg' hp=>⟨(h.wrow j g' p hg' hp).1,(h.wrow j g' p hg' hp).2.1,(h.wrow j g' p hg' hp).2.2.mods m (λe=>n3 g Ab g' (uL hg') e.symm)⟩,hn,h.b8,h.b256,h.s256,h.s1024,h.few⟩
 rcases set_cases hb' with ⟨rfl,rfl⟩|⟨Al,hb'⟩
 .rw[hg] at hg';injection hg' with hg';subst hg';exact⟨hl,hb⟩
 .refine⟨(h.row j g' b hg' hb').1,(h.row j g' b hg' hb').2.mods m (λe=>Al ?_)⟩;subst e;exact (vZ gs i j _ n1 hg hg').symm
set_option maxHeartbeats 1000000 in
theorem jL(hL:Env F ad w)(hP:∀k,P k->F k)(h:DkR w d bl gs ws wv kv D)(hD:∀k,P k ↔ dkF d bl gs ws wv kv k)(i bit mask:Nat)(hi:i<D.blocks)(hb:bit<8 * D.size)(hm:mask<4294967296) :
  Calls Tryz.prog 36 #[.pointer (some ⟨d,0,none⟩),.int .i64 (i:Int),.int .i64 (bit:Int),.int .u32 (mask:Int)] w (DkDone F P ad w d { D with lasting:=D.lasting.set i (zI (D.lasting.getD i []) bit mask) }):=by
 have A0:D.check i=none:=by unfold DiskA.check;rw[if_neg (by omega)]
 have HL:=oh hL;have HD:=oh h;have HP:=oh hP;have Ac:=oh hD;have Am:D.size<=1024:=h.s1024;have An:=h.b256;clear h hL hP hD
 go_enter Tryz.func36, Tryz.ntmps36
 go_wp2_with fail;refine (dkCheck_any HL.out HD.out _ i).mono ?_;rintro e w1 ⟨ev,rfl,hE,A8⟩;rw[A0] at hE;cases hE
 have A1:=oh (HD.out.at A8);have A6:=oh A8;have c1:=A1.out.sizeC;obtain⟨g,L,cap,k1,k2,k3,k4,k5,k6,k7,k8⟩:=A1.out.lastC i hi;have K1:=oh k1;have K2:=oh k2;have K6:=oh k6;have K7:=oh k7;have K8:=oh k8;have A4:Hid (g≠d/\g≠bl):=oh (by
  have hn:=A1.out.nodup;have hg:g∈gs++ws:=uR _ (uL k1);exact⟨λe=>(uO.1 hn).1 (e ▸ uF _ hg),λe=>(uO.1 (uO.1 hn).2).1 (e ▸ hg)⟩)
 have Ay:(0:Int)<=(i:Int):=by omega
 have Az:(i:Int)<(D.blocks:Int):=by omega
 have B0:¬ (bit:Int)<0:=by omega
 have B1:(bit:Int)<8 * (D.size:Int):=by omega
 clear A0 A8 k1 k2 k7 k8;go_wp2_with fail;go_loopg [33] 32 (λm v wr=>∃(k:Nat) (l:List UInt8),k+m=32/\v=.int .i64 k/\Hid (Mods (λx=>x=g) w1 wr/\Blk wr g (bytesC l) 5 /\ l.length=D.size/\zF mask bit m k l=zI L bit mask))
 case atStart=>exact⟨0,L,rfl,rfl,oh ⟨Mods.refl _ _,K8.out,K7.out,rfl⟩⟩
 case round =>
  obtain⟨k,l,hk,rfl,HW⟩:=hrel;obtain⟨A2,Ad,Ae,Ao⟩:=HW.out;have x1:=(A2.cell (cell_lt c1) (Ne.symm A4.out.1)).trans c1;have x3:=(A2.cell (cell_lt k3) (Ne.symm A4.out.1)).trans k3;have x6:=(A2.cell (cell_lt K6.out) (Ne.symm A4.out.2)).trans K6.out;simp only[rowV] at x6;have fz:=Ad.frozen;have Ap:=oh Ae;clear A2 Ad Ae Ao;by_cases B2:k<32
  .obtain⟨m,rfl⟩:∃m,gk=m+1:=⟨gk-1,by omega⟩;by_cases Af:bit+k<8 * D.size
   .obtain⟨q,hq⟩:∃q,q=(bit+k) / 8:=⟨_,rfl⟩;obtain⟨r,hr⟩:∃r,r=(bit+k) % 8:=⟨_,rfl⟩;have Aq:q<D.size:=by omega
    have Ag:r<8:=by omega
    obtain⟨x,hx⟩:∃x,l[q]? = some x:=⟨_,uG (by rw[Ap.out];exact Aq)⟩;have hc:wr.cell? ⟨g,q,none⟩=some (.int .u8 (x.toNat:Int)):=HW.out.2.1.cell (by rw[bytesC];simp[hx]);have t1:((bit:Int)+(k:Int)) / 8=(q:Int):=by omega
    have t2:((bit:Int)+(k:Int)).tdiv 8=(q:Int):=by rw[Int.tdiv_eq_ediv_of_nonneg (by omega)];exact t1
    have t3:((bit:Int)+(k:Int)) % 8=(r:Int):=by omega
    have t4:((bit:Int)+(k:Int)).tmod 8=(r:Int):=by rw[uT (by omega)];exact t3
    have t5:(bit:Int)+(k:Int)<8 * (D.size:Int):=by omega
    have B3:=x.toNat_lt;have u0:(0:Int)<=(q:Int):=by omega
    have u1:(q:Int)<(D.size:Int):=by omega
    have HX:=oh hx;have HQ:=oh hq;have HR:=oh hr;clear hx hq hr;have A5:bits .xor .u8 (x.toNat:Int) (bits .and .u32 ((mask:Int) / 2 ^ k) 1 % 256 * 2 ^ r % 256)=((x.toNat ^^^ (mask / 2 ^ k % 2 * 2 ^ r):Nat):Int):=zBV x.toNat mask k r x.toNat_lt hm Ag;have A9:=oh A5;have A7:Hid (Mods (λx=>x=g) w1 (wr.setCell ⟨g,q,none⟩ (.int .u8 ((x.toNat ^^^ (mask / 2 ^ k % 2 * 2 ^ r):Nat):Int)))/\Blk (wr.setCell ⟨g,q,none⟩ (.int .u8 ((x.toNat ^^^ (mask / 2 ^ k % 2 * 2 ^ r):Nat):Int))) g (bytesC (yR l (bit+k) (mask / 2 ^ k % 2))) 5 /\ (yR l (bit+k) (mask / 2 ^ k % 2)).length=D.size/\zF mask bit m (k+1) (yR l (bit+k) (mask / 2 ^ k % 2))=zI L bit mask):=oh (by
     obtain⟨j1,j2,j3,j4⟩:=HW.out;refine⟨j1.setCell (.inr rfl) _,?_,by rw[yM];exact j3,?_⟩
     .have e:=j2.set q (.int .u8 ((x.toNat ^^^ (mask / 2 ^ k % 2 * 2 ^ r):Nat):Int));have e2:(bytesC l).setIfInBounds q (.int .u8 ((x.toNat ^^^ (mask / 2 ^ k % 2 * 2 ^ r):Nat):Int))=bytesC (yR l (bit+k) (mask / 2 ^ k % 2)):=by
       unfold yR bytesC;rw[<- HQ.out,<- HR.out,show l.getD q 0=x by simp[List.getD,HX.out],List.map_set,List.setIfInBounds_toArray,UInt8.toNat_ofNat',Nat.mod_eq_of_lt (Nat.xor_lt_two_pow (n:=8) x.toNat_lt (jJ _ _ (Nat.mod_lt _ (by omega)) Ag))]
      rw[e2] at e;exact e
     .rw[<- j4,zF,if_pos (by rw[j3];exact Af)])
    clear A5;go_wp2_with fail;go_region
    rw[A9.out];go_wp2_with fail;go_roundg m
    case measure=>omega
    case rel=>exact⟨k+1,yR l (bit+k) (mask / 2 ^ k % 2),by omega,by go_num,oh ⟨A7.out.1.drew,A7.out.2⟩⟩
   .have t5:¬ (bit:Int)+(k:Int)<8 * (D.size:Int):=by omega
    have A7:Hid (zF mask bit m (k+1) l=zI L bit mask):=oh (by
     obtain⟨j1,j2,j3,j4⟩:=HW.out;rw[<- j4,zF,if_neg (by rw[j3];exact Af)])
    go_wp2_with fail;go_roundg m
    case measure=>omega
    case rel=>exact⟨k+1,l,by omega,by go_num,oh ⟨HW.out.1,HW.out.2.1,HW.out.2.2.1,A7.out⟩⟩
  .obtain rfl:gk=0:=by omega
   go_wp2_with fail;go_ret;obtain⟨j1,j2,j3,j4⟩:=HW.out;have e:l=zI L bit mask:=j4;have Ar:P g:=(Ac.out g).2 (.inl (uF _ (uF _ (uR _ (uL K1.out)))));refine⟨P,F,rfl,⟨bl,gs,ws,wv,kv,?_,Ac.out⟩,Nxt.same HL.out HP.out (A6.out.ext.trans (j1.mono (λx hx=>hx ▸ Ar)))⟩;have eL:D.lasting.getD i []=L:=by simp[List.getD,K2.out]
   rw[eL,<- e];exact A1.out.rowSet K1.out j1 j2 j3 A4.out.1 A4.out.2
end
theorem jY(g:Nat):isPlace g (place g 0)=true:=by unfold isPlace;simp
theorem jZ(g:Nat):isPlace g (place g 1)=true:=by unfold isPlace;simp
section
variable {F P:Nat->Prop}{ad:Nat->Addr}{w w':World}{d bl:Nat}{gs ws:List Nat}{wv kv:Value}{D:DiskA}
theorem jM(hL:Env F ad w)(h:DkR w d bl gs ws wv kv D)(i:Nat)(hi:i<D.blocks) :
  Calls Tryz.prog 37 #[.pointer (some ⟨d,0,none⟩),.int .i64 (i:Int)] w λe w'=>∃g,e=.returned (.tuple #[rowV D.size g,.nilIface])/\w.heap.size<=g/\Blk w' g (bytesC (D.lasting.getD i [])) 5 /\ (D.lasting.getD i []).length=D.size/\Ext w w':=by
 have A0:D.check i=none:=by unfold DiskA.check;rw[if_neg (by omega)]
 have HL:=oh hL;have HD:=oh h;have As:=h.b256;clear h hL
 go_enter Tryz.func37, Tryz.ntmps37
 go_wp2_with fail;refine (dkCheck_any HL.out HD.out _ i).mono ?_;rintro e w1 ⟨ev,rfl,hE,hm⟩;rw[A0] at hE;cases hE
 have A1:=oh (HD.out.at hm);have A6:=oh hm;have HBd:Hid (Bd (λ_=>False) w1):=oh (λ_ f=>f.elim);have Am:D.size<=1024:=A1.out.s1024;have At:256<=D.size:=A1.out.s256;obtain⟨g,b,cap,k1,k2,k3,k4,k5,k6,k7,k8⟩:=A1.out.lastC i hi;have HLk:Hid (D.lasting.getD i []=b):=oh (by simp[k2]);have HLn:=oh k7;have HK:=oh k8;clear k1 k2 k7 k8 A0 hm;go_wp2_with fail;refine (bcloned_any HBd.out (rowV D.size g) b (row_sl HK.out HLn.out (λf=>f) (by omega)) (by have:=HLn.out;omega) (by have:=HLn.out;omega)).mono ?_;rintro e w2 ⟨g2,rfl,Ah,Au,Ai,A2⟩;rw[HLn.out];have Av:=oh Ai;have Aw:=oh Ah;clear Ai Ah Au;go_wp2_with fail;go_ret2
 exact⟨g2,rfl,uJ A6.out.size Aw.out,by rw[HLk.out];exact Av.out,by rw[HLk.out];exact HLn.out,A6.out.trans A2⟩
theorem vV(hL:Env F ad w)(h:DkR w d bl gs ws wv kv D)(i:Int)(hi:i<0\/(D.blocks:Int)<=i) :
  Calls Tryz.prog 37 #[.pointer (some ⟨d,0,none⟩),.int .i64 i] w λe w'=>∃b,e=.returned (.tuple #[.slice none 0 0,faultV b])/\Ext w w':=by
 have A0:D.check i=some ([if i < -1 then -1 else i],2):=by unfold DiskA.check;rw[if_pos hi]
 have HL:=oh hL;have HD:=oh h;clear h hL hi
 go_enter Tryz.func37, Tryz.ntmps37
 go_wp2_with fail;refine (dkCheck_any HL.out HD.out _ i).mono ?_;rintro e w1 ⟨ev,rfl,hE,hm⟩;rw[A0] at hE;obtain⟨b,rfl, -⟩:=hE;have HM:=oh hm;clear hm A0;unfold faultV;go_wp2_with fail;go_ret2
 exact⟨b,rfl,HM.out⟩
theorem DkS.lasting_bad(hL:Env F ad w)(h:DkS w P d D)(i:Int)(hi:i<0\/(D.blocks:Int)<=i) :
  Calls Tryz.prog 37 #[.pointer (some ⟨d,0,none⟩),.int .i64 i] w λe w'=>∃b,e=.returned (.tuple #[.slice none 0 0,faultV b])/\Ext w w':=by
 obtain⟨bl,gs,ws,wv,kv,h1,h2⟩:=h;exact vV hL h1 i hi
theorem DkS.lasting(hL:Env F ad w)(h:DkS w P d D)(i:Nat)(hi:i<D.blocks) :
  Calls Tryz.prog 37 #[.pointer (some ⟨d,0,none⟩),.int .i64 (i:Int)] w λe w'=>∃v,e=.returned (.tuple #[v,.nilIface])/\Sl F w' 1 encB v (D.lasting.getD i [])/\(D.lasting.getD i []).length=D.size/\Ext w w':=by
 have Ax:=h.lim;obtain⟨bl,gs,ws,wv,kv,h1,h2⟩:=h;refine (jM hL h1 i hi).mono ?_;rintro e w' ⟨g,rfl,hg,hB,hl,hm⟩;exact⟨_,rfl,row_sl hB hl (λf=>by have:=hL.lt g f;omega) (by omega),hl,hm⟩
end
end Go.Proofs.YteabpacpngaoaaaGreatDoor
