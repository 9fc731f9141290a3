import Derived.Test.YteabpacpngaoaaaGreatDoorC51
import Derived.Test.YteabpacpngaoaaaGreatDoorC24
namespace Go.Proofs.YteabpacpngaoaaaGreatDoor
open Lib renaming hid->oh
set_option maxRecDepth 100000
open Go.RowKit
section
variable {P F:Nat->Prop}{ad:Nat->Addr}{w w':World}{d bl:Nat}{gs ws:List Nat}{wv kv:Value}{D:zI}
theorem zQ5(x mask k r:Nat)(hx:x<256)(hm:mask<4294967296)(hr:r<8):bits .xor .u8 (x:Int) (bits .and .u32 ((mask:Int) / 2 ^ k) 1 % 256 * 2 ^ r % 256)=((x ^^^ (mask / 2 ^ k % 2 * 2 ^ r):Nat):Int):=by
 have e1:((mask:Int) / 2 ^ k)=((mask / 2 ^ k:Nat):Int):=by simp
 have hmk:mask / 2 ^ k<4294967296:=Nat.lt_of_le_of_lt (Nat.div_le_self _ _) hm;have e2:bits .and .u32 ((mask / 2 ^ k:Nat):Int) 1=((mask / 2 ^ k % 2:Nat):Int):=by
  have:=u32_and_nat (mask / 2 ^ k) 1 hmk (by decide);rw[nat_mask1] at this;exact this
 have hb:mask / 2 ^ k % 2<2:=Nat.mod_lt _ (by omega);rw[e1,e2];generalize mask / 2 ^ k % 2=b at hb
 have hp:=zKI b r hb hr;have e3:((b:Int) % 256 * 2 ^ r % 256)=((b * 2 ^ r:Nat):Int):=by
  rw[Int.emod_eq_of_lt (by omega) (by omega:(b:Int)<256)];have e:((b * 2 ^ r:Nat):Int)=(b:Int) * 2 ^ r:=by simp
  rw[<- e];omega
 rw[e3];exact u8_xor_nat x (b * 2 ^ r) hx hp
theorem zJX:∀(l:List Nat) (i j x:Nat),l.Nodup->l[i]? = some x->l[j]? = some x->i=j
 | [],i,_,_,_,h,_=>by simp at h
 | a :: l,0,0,_,_,_,_=>rfl
 | a :: l,0,j+1,x,hn,h1,h2=>by
  simp at h1 h2;subst h1;exact absurd (List.mem_of_getElem? h2) (List.nodup_cons.1 hn).1
 | a :: l,i+1,0,x,hn,h1,h2=>by
  simp at h1 h2;subst h2;exact absurd (List.mem_of_getElem? h1) (List.nodup_cons.1 hn).1
 | a :: l,i+1,j+1,x,hn,h1,h2=>by rw[zJX l i j x (List.nodup_cons.1 hn).2 (by simpa using h1) (by simpa using h2)]
theorem DkR.rowSet{w1 wr:World}{i g:Nat}{l:List UInt8}(h:DkR w1 d bl gs ws wv kv D)(hg:gs[i]? = some g)(m:zA (λx=>x=g) w1 wr)(hb:zH wr g (yW l) 5)(hl:l.length=D.size)(hd:g≠d)(hbl:g≠bl) :
  DkR wr d bl gs ws wv kv { D with lasting:=D.lasting.set i l }:=by
 have hn:=h.nodup;have hn2:=(List.nodup_cons.1 (List.nodup_cons.1 hn).2).2;rw[List.nodup_append] at hn2;obtain⟨n1,n2,n3⟩:=hn2;have hgm:g∈gs:=List.mem_of_getElem? hg;obtain⟨cap,a1,a2,a3,rest,a4,a5⟩:=h.own;have hall:∀x,x∈d :: bl :: (gs++ws)->g∈d :: bl :: (gs++ws):=λ_ _=>List.mem_cons_of_mem _ (List.mem_cons_of_mem _ (List.mem_append_left _ hgm))
 refine⟨⟨cap,a1,a2,a3.mods m (Ne.symm hd),rest,a4.mods m (Ne.symm hbl),a5⟩,h.lenB,by simpa using h.lenL,h.lenW,h.keep.mods m (λx hx e=>h.keep.2 x hx (e ▸ hall d List.mem_cons_self)),h.kw,h.few2,h.wait.mods m (λx hx e=>h.wait.2 x hx (e ▸ hall d List.mem_cons_self)),
  λj g' b hg' hb'=>?_,λj g' p hg' hp=>⟨(h.wrow j g' p hg' hp).1,(h.wrow j g' p hg' hp).2.1,(h.wrow j g' p hg' hp).2.2.mods m (λe=>n3 g hgm g' (List.mem_of_getElem? hg') e.symm)⟩,hn,h.b8,h.b256,h.s256,h.s1024,h.few⟩
 rcases zK hb' with ⟨rfl,rfl⟩|⟨hne,hb'⟩
 .rw[hg] at hg';injection hg' with hg';subst hg';exact⟨hl,hb⟩
 .refine⟨(h.row j g' b hg' hb').1,(h.row j g' b hg' hb').2.mods m (λe=>hne ?_)⟩;subst e;exact (zJX gs i j _ n1 hg hg').symm
set_option maxHeartbeats 1000000 in
theorem zKK(hL:yG F ad w)(hP:∀k,P k->F k)(h:DkR w d bl gs ws wv kv D)(hD:∀k,P k ↔ dkF d bl gs ws wv kv k)(i bit mask:Nat)(hi:i<D.blocks)(hb:bit<8 * D.size)(hm:mask<4294967296) :
  Calls Tryz.prog 36 #[.pointer (some ⟨d,0,none⟩),.int .i64 (i:Int),.int .i64 (bit:Int),.int .u32 (mask:Int)] w (zMI F P ad w d { D with lasting:=D.lasting.set i (jS (D.lasting.getD i []) bit mask) }):=by
 have hck:D.check i=none:=by unfold zI.check;rw[if_neg (by omega)]
 have HL:=oh hL;have HD:=oh h;have HP:=oh hP;have HDD:=oh hD;have hsz:D.size<=1024:=h.s1024;have hbl2:=h.b256;clear h hL hP hD
 go_enter Tryz.func36, Tryz.ntmps36
 go_wp2_with fail;refine (zBa HL.out HD.out _ i).mono ?_;rintro e w1 ⟨ev,rfl,hE,hm1⟩;rw[hck] at hE;cases hE
 have HD1:=oh (HD.out.at hm1);have HM1:=oh hm1;have c1:=HD1.out.sizeC;obtain⟨g,L,cap,k1,k2,k3,k4,k5,k6,k7,k8⟩:=HD1.out.lastC i hi;have K1:=oh k1;have K2:=oh k2;have K6:=oh k6;have K7:=oh k7;have K8:=oh k8;have HGN:Hid (g≠d/\g≠bl):=oh (by
  have hn:=HD1.out.nodup;have hg:g∈gs++ws:=List.mem_append_left _ (List.mem_of_getElem? k1);exact⟨λe=>(List.nodup_cons.1 hn).1 (e ▸ List.mem_cons_of_mem _ hg),λe=>(List.nodup_cons.1 (List.nodup_cons.1 hn).2).1 (e ▸ hg)⟩)
 have hi0:(0:Int)<=(i:Int):=by omega
 have hi1:(i:Int)<(D.blocks:Int):=by omega
 have hz0:¬ (bit:Int)<0:=by omega
 have hz1:(bit:Int)<8 * (D.size:Int):=by omega
 clear hck hm1 k1 k2 k7 k8;go_wp2_with fail;go_loopg [33] 32 (λm v wr=>∃(k:Nat) (l:List UInt8),k+m=32/\v=.int .i64 k/\Hid (zA (λx=>x=g) w1 wr/\zH wr g (yW l) 5 /\ l.length=D.size/\vP mask bit m k l=jS L bit mask))
 case atStart=>exact⟨0,L,rfl,rfl,oh ⟨zA.refl _ _,K8.out,K7.out,rfl⟩⟩
 case round =>
  obtain⟨k,l,hk,rfl,HW⟩:=hrel;obtain⟨hm2,hbk,hll,hcf⟩:=HW.out;have x1:=(hm2.cell (yH c1) (Ne.symm HGN.out.1)).trans c1;have x3:=(hm2.cell (yH k3) (Ne.symm HGN.out.1)).trans k3;have x6:=(hm2.cell (yH K6.out) (Ne.symm HGN.out.2)).trans K6.out;simp only[zAL] at x6;have fz:=hbk.frozen;have HLL:=oh hll;clear hm2 hbk hll hcf;by_cases hlt:k<32
  .obtain⟨m,rfl⟩:∃m,gk=m+1:=⟨gk-1,by omega⟩;by_cases hin:bit+k<8 * D.size
   .obtain⟨q,hq⟩:∃q,q=(bit+k) / 8:=⟨_,rfl⟩;obtain⟨r,hr⟩:∃r,r=(bit+k) % 8:=⟨_,rfl⟩;have hql:q<D.size:=by omega
    have hr8:r<8:=by omega
    obtain⟨x,hx⟩:∃x,l[q]? = some x:=⟨_,List.getElem?_eq_getElem (by rw[HLL.out];exact hql)⟩;have hc:wr.cell? ⟨g,q,none⟩=some (.int .u8 (x.toNat:Int)):=HW.out.2.1.cell (by rw[yW];simp[hx]);have t1:((bit:Int)+(k:Int)) / 8=(q:Int):=by omega
    have t2:((bit:Int)+(k:Int)).tdiv 8=(q:Int):=by rw[Int.tdiv_eq_ediv_of_nonneg (by omega)];exact t1
    have t3:((bit:Int)+(k:Int)) % 8=(r:Int):=by omega
    have t4:((bit:Int)+(k:Int)).tmod 8=(r:Int):=by rw[Int.tmod_eq_emod_of_nonneg (by omega)];exact t3
    have t5:(bit:Int)+(k:Int)<8 * (D.size:Int):=by omega
    have hx8:=x.toNat_lt;have u0:(0:Int)<=(q:Int):=by omega
    have u1:(q:Int)<(D.size:Int):=by omega
    have HX:=oh hx;have HQ:=oh hq;have HR:=oh hr;clear hx hq hr;have hval:bits .xor .u8 (x.toNat:Int) (bits .and .u32 ((mask:Int) / 2 ^ k) 1 % 256 * 2 ^ r % 256)=((x.toNat ^^^ (mask / 2 ^ k % 2 * 2 ^ r):Nat):Int):=zQ5 x.toNat mask k r x.toNat_lt hm hr8;have HVAL:=oh hval;have HNX:Hid (zA (λx=>x=g) w1 (wr.setCell ⟨g,q,none⟩ (.int .u8 ((x.toNat ^^^ (mask / 2 ^ k % 2 * 2 ^ r):Nat):Int)))/\zH (wr.setCell ⟨g,q,none⟩ (.int .u8 ((x.toNat ^^^ (mask / 2 ^ k % 2 * 2 ^ r):Nat):Int))) g (yW (zEh l (bit+k) (mask / 2 ^ k % 2))) 5 /\ (zEh l (bit+k) (mask / 2 ^ k % 2)).length=D.size/\vP mask bit m (k+1) (zEh l (bit+k) (mask / 2 ^ k % 2))=jS L bit mask):=oh (by
     obtain⟨j1,j2,j3,j4⟩:=HW.out;refine⟨j1.setCell (.inr rfl) _,?_,by rw[zD8];exact j3,?_⟩
     .have e:=j2.set q (.int .u8 ((x.toNat ^^^ (mask / 2 ^ k % 2 * 2 ^ r):Nat):Int));have e2:(yW l).setIfInBounds q (.int .u8 ((x.toNat ^^^ (mask / 2 ^ k % 2 * 2 ^ r):Nat):Int))=yW (zEh l (bit+k) (mask / 2 ^ k % 2)):=by
       unfold zEh yW;rw[<- HQ.out,<- HR.out,show l.getD q 0=x by simp[List.getD,HX.out],List.map_set,List.setIfInBounds_toArray,UInt8.toNat_ofNat',Nat.mod_eq_of_lt (Nat.xor_lt_two_pow (n:=8) x.toNat_lt (zKI _ _ (Nat.mod_lt _ (by omega)) hr8))]
      rw[e2] at e;exact e
     .rw[<- j4,vP,if_pos (by rw[j3];exact hin)])
    clear hval;go_wp2_with fail;go_region
    rw[HVAL.out];go_wp2_with fail;go_roundg m
    case measure=>omega
    case rel=>exact⟨k+1,zEh l (bit+k) (mask / 2 ^ k % 2),by omega,by go_num,oh ⟨HNX.out.1.drew,HNX.out.2⟩⟩
   .have t5:¬ (bit:Int)+(k:Int)<8 * (D.size:Int):=by omega
    have HNX:Hid (vP mask bit m (k+1) l=jS L bit mask):=oh (by
     obtain⟨j1,j2,j3,j4⟩:=HW.out;rw[<- j4,vP,if_neg (by rw[j3];exact hin)])
    go_wp2_with fail;go_roundg m
    case measure=>omega
    case rel=>exact⟨k+1,l,by omega,by go_num,oh ⟨HW.out.1,HW.out.2.1,HW.out.2.2.1,HNX.out⟩⟩
  .obtain rfl:gk=0:=by omega
   go_wp2_with fail;go_ret;obtain⟨j1,j2,j3,j4⟩:=HW.out;have e:l=jS L bit mask:=j4;have hPg:P g:=(HDD.out g).2 (.inl (List.mem_cons_of_mem _ (List.mem_cons_of_mem _ (List.mem_append_left _ (List.mem_of_getElem? K1.out)))));refine⟨P,F,rfl,⟨bl,gs,ws,wv,kv,?_,HDD.out⟩,zY.same HL.out HP.out (HM1.out.ext.trans (j1.mono (λx hx=>hx ▸ hPg)))⟩;have eL:D.lasting.getD i []=L:=by simp[List.getD,K2.out]
   rw[eL,<- e];exact HD1.out.rowSet K1.out j1 j2 j3 HGN.out.1 HGN.out.2
end
theorem zLi(g:Nat):jX g (place g 0)=true:=by unfold jX;simp
theorem zLj(g:Nat):jX g (place g 1)=true:=by unfold jX;simp
section
variable {F P:Nat->Prop}{ad:Nat->Addr}{w w':World}{d bl:Nat}{gs ws:List Nat}{wv kv:Value}{D:zI}
theorem zKL(hL:yG F ad w)(h:DkR w d bl gs ws wv kv D)(i:Nat)(hi:i<D.blocks) :
  Calls Tryz.prog 37 #[.pointer (some ⟨d,0,none⟩),.int .i64 (i:Int)] w λe w'=>∃g,e=.returned (.tuple #[zAL D.size g,.nilIface])/\w.heap.size<=g/\zH w' g (yW (D.lasting.getD i [])) 5 /\ (D.lasting.getD i []).length=D.size/\zF w w':=by
 have hck:D.check i=none:=by unfold zI.check;rw[if_neg (by omega)]
 have HL:=oh hL;have HD:=oh h;have h256:=h.b256;clear h hL
 go_enter Tryz.func37, Tryz.ntmps37
 go_wp2_with fail;refine (zBa HL.out HD.out _ i).mono ?_;rintro e w1 ⟨ev,rfl,hE,hm⟩;rw[hck] at hE;cases hE
 have HD1:=oh (HD.out.at hm);have HM1:=oh hm;have HBd:Hid (Bd (λ_=>False) w1):=oh (λ_ f=>f.elim);have hsz:D.size<=1024:=HD1.out.s1024;have hsz2:256<=D.size:=HD1.out.s256;obtain⟨g,b,cap,k1,k2,k3,k4,k5,k6,k7,k8⟩:=HD1.out.lastC i hi;have HLk:Hid (D.lasting.getD i []=b):=oh (by simp[k2]);have HLn:=oh k7;have HK:=oh k8;clear k1 k2 k7 k8 hck hm;go_wp2_with fail;refine (zDI HBd.out (zAL D.size g) b (zDW HK.out HLn.out (λf=>f) (by omega)) (by have:=HLn.out;omega) (by have:=HLn.out;omega)).mono ?_;rintro e w2 ⟨g2,rfl,hg2,hg3,hB2,hm2⟩;rw[HLn.out];have HB2:=oh hB2;have HG2:=oh hg2;clear hB2 hg2 hg3;go_wp2_with fail;go_ret2
 exact⟨g2,rfl,Nat.le_trans HM1.out.size HG2.out,by rw[HLk.out];exact HB2.out,by rw[HLk.out];exact HLn.out,HM1.out.trans hm2⟩
theorem zIq(hL:yG F ad w)(h:DkR w d bl gs ws wv kv D)(i:Int)(hi:i<0\/(D.blocks:Int)<=i) :
  Calls Tryz.prog 37 #[.pointer (some ⟨d,0,none⟩),.int .i64 i] w λe w'=>∃b,e=.returned (.tuple #[.slice none 0 0,zL b])/\zF w w':=by
 have hck:D.check i=some ([if i < -1 then -1 else i],2):=by unfold zI.check;rw[if_pos hi]
 have HL:=oh hL;have HD:=oh h;clear h hL hi
 go_enter Tryz.func37, Tryz.ntmps37
 go_wp2_with fail;refine (zBa HL.out HD.out _ i).mono ?_;rintro e w1 ⟨ev,rfl,hE,hm⟩;rw[hck] at hE;obtain⟨b,rfl, -⟩:=hE;have HM:=oh hm;clear hm hck;unfold zL;go_wp2_with fail;go_ret2
 exact⟨b,rfl,HM.out⟩
theorem jT.lasting_bad(hL:yG F ad w)(h:jT w P d D)(i:Int)(hi:i<0\/(D.blocks:Int)<=i) :
  Calls Tryz.prog 37 #[.pointer (some ⟨d,0,none⟩),.int .i64 i] w λe w'=>∃b,e=.returned (.tuple #[.slice none 0 0,zL b])/\zF w w':=by
 obtain⟨bl,gs,ws,wv,kv,h1,h2⟩:=h;exact zIq hL h1 i hi
theorem jT.lasting(hL:yG F ad w)(h:jT w P d D)(i:Nat)(hi:i<D.blocks) :
  Calls Tryz.prog 37 #[.pointer (some ⟨d,0,none⟩),.int .i64 (i:Int)] w λe w'=>∃v,e=.returned (.tuple #[v,.nilIface])/\Sl F w' 1 zZ v (D.lasting.getD i [])/\(D.lasting.getD i []).length=D.size/\zF w w':=by
 have hlim:=h.lim;obtain⟨bl,gs,ws,wv,kv,h1,h2⟩:=h;refine (zKL hL h1 i hi).mono ?_;rintro e w' ⟨g,rfl,hg,hB,hl,hm⟩;exact⟨_,rfl,zDW hB hl (λf=>by have:=hL.lt g f;omega) (by omega),hl,hm⟩
end
end Go.Proofs.YteabpacpngaoaaaGreatDoor
