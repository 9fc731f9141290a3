import Derived.Test.YteabpacpngaoaaaGreatDoorC09
import Derived.Test.YteabpacpngaoaaaGreatDoorC12
namespace Go.Proofs.YteabpacpngaoaaaGreatDoor
open Lib renaming hid->oh
set_option maxHeartbeats 1600000
set_option maxRecDepth 100000
open Go.RowKit
def qA(p:zX)(bv:Value):Value:=.agg #[.int .i64 p.kind,.int .i64 p.id,.int .u64 (p.gen:Int),bv]
theorem zB4(s:Int)(w:World) : Calls Tryz.prog 266 #[.int .i64 s] w λe w'=>e=.returned (.bool (zAX s))/\w=w':=by
 by_cases h1:256<=s
 .by_cases h2:s<=1024
  .have H:Hid (zAX s=true):=oh (by simp[zAX,h1,h2])
   go_enter Tryz.func266, Tryz.ntmps266
   go_wp2
   go_ret;exact⟨yB (by first|(rw[H.out];done)|(rw[H.out];simp;try omega)),rfl⟩
  .have H:Hid (zAX s=false):=oh (by simp[zAX,h2]);have h3:1024<s:=by omega
   clear h2
   go_enter Tryz.func266, Tryz.ntmps266
   go_wp2
   go_ret;exact⟨yB (by first|(rw[H.out];done)|(rw[H.out];simp;try omega)),rfl⟩
 .have H:Hid (zAX s=false):=oh (by simp[zAX,h1]);have h3:s<256:=by omega
  clear h1
  go_enter Tryz.func266, Tryz.ntmps266
  go_wp2
  go_ret;exact⟨yB (by first|(rw[H.out];done)|(rw[H.out];simp;try omega)),rfl⟩
theorem zEV(k:Int)(w:World) : Calls Tryz.prog 267 #[.int .i64 k] w λe w'=>e=.returned (.bool (zC1 k))/\w=w':=by
 by_cases h1:k=1
 .subst h1;go_enter Tryz.func267, Tryz.ntmps267;go_wp2;go_ret;exact⟨rfl,rfl⟩
 by_cases h2:k=2
 .subst h2;go_enter Tryz.func267, Tryz.ntmps267;go_wp2;go_ret;exact⟨rfl,rfl⟩
 by_cases h3:k=3
 .subst h3;go_enter Tryz.func267, Tryz.ntmps267;go_wp2;go_ret;exact⟨rfl,rfl⟩
 by_cases h4:k=4
 .subst h4;go_enter Tryz.func267, Tryz.ntmps267;go_wp2;go_ret;exact⟨rfl,rfl⟩
 by_cases h5:k=5
 .subst h5;go_enter Tryz.func267, Tryz.ntmps267;go_wp2;go_ret;exact⟨rfl,rfl⟩
 have H:Hid (zC1 k=false):=oh (by simp[zC1,h1,h2,h3,h4,h5])
 go_enter Tryz.func267, Tryz.ntmps267
 go_wp2
 go_ret;exact⟨yB H.out.symm,rfl⟩
theorem zGA{F:Nat->Prop}{ad:Nat->Addr}{w:World}(hL:yG F ad w)(p:zX)(bv:Value)(hb:Sl F w 1 zZ bv p.body)(size:Int) :
    Calls Tryz.prog 207 #[qA p bv,.int .i64 size] w λe w'=>∃ev,e=.returned ev/\zBw F ad w' ev (yY p size)/\zF w w':=by
  obtain⟨a,cap,rfl,h1,h2,h3,h4⟩:=hb
  unfold maxLen at h2
  have g1:=hL.c1
  have g2:=hL.c2
  have z1 : 0 < w.heap.size:=Nat.lt_of_lt_of_le (by decide) hL.size
  have z2 : 2 < w.heap.size:=Nat.lt_of_lt_of_le (by decide) hL.size
  have HL1:Hid (∀o,yG F ad (w.alloc o)):=oh (λo=>hL.mods ((zA.refl F w).alloc o))
  clear h4 hL
  unfold qA
  cases hs:zAX size with
  | false =>
    have HC:Hid (yY p size=some ([-1],2)):=oh (by unfold yY;rw[if_pos hs])
    go_enter Tryz.func207, Tryz.ntmps207
    go_wp2_with fail
    refine (zB4 _ _).mono ?_
    rintro e w1 ⟨rfl,rfl⟩
    go_wp2_with fail
    refine (qN (HL1.out _) _ _ _ 2 (.sent 2 (by decide) (by decide))).mono ?_
    rintro e w1 ⟨f,rfl,hE,hm⟩
    have HE:=oh hE
    clear hE
    go_wp2
    go_ret
    exact⟨_,rfl,by rw[HC.out];exact⟨f,rfl,HE.out⟩,((zA.refl _ w).alloc _).trans hm⟩
  | true =>
    have hs1:256<=size:=by simp only[zAX,Bool.and_eq_true,decide_eq_true_eq] at hs;exact hs.1
    have hs2:size<=1024:=by simp only[zAX,Bool.and_eq_true,decide_eq_true_eq] at hs;exact hs.2
    by_cases hc:zC1 p.kind=false\/p.id<0\/256<=p.id\/size-24<(p.body.length:Int)
    . have HC:Hid (yY p size=some ([-1],1)):=oh (by unfold yY;rw[if_neg (by simp[hs]),if_pos hc])
      cases hk:zC1 p.kind with
      | false =>
        clear hc
        go_enter Tryz.func207, Tryz.ntmps207
        go_wp2_with fail
        refine (zB4 _ _).mono ?_
        rintro e w1 ⟨rfl,rfl⟩
        go_wp2_with fail
        refine (zEV _ _).mono ?_
        rintro e w1 ⟨rfl,rfl⟩
        go_wp2_with fail
        refine (qN (HL1.out _) _ _ _ 1 (.sent 1 (by decide) (by decide))).mono ?_
        rintro e w1 ⟨f,rfl,hE,hm⟩
        have HE:=oh hE
        clear hE
        go_wp2
        go_ret
        exact⟨_,rfl,by rw[HC.out];exact⟨f,rfl,HE.out⟩,((zA.refl _ w).alloc _).trans hm⟩
      | true =>
        by_cases k2:p.id<0
        . clear hc
          go_enter Tryz.func207, Tryz.ntmps207
          go_wp2_with fail
          refine (zB4 _ _).mono ?_
          rintro e w1 ⟨rfl,rfl⟩
          go_wp2_with fail
          refine (zEV _ _).mono ?_
          rintro e w1 ⟨rfl,rfl⟩
          go_wp2_with fail
          refine (qN (HL1.out _) _ _ _ 1 (.sent 1 (by decide) (by decide))).mono ?_
          rintro e w1 ⟨f,rfl,hE,hm⟩
          have HE:=oh hE
          clear hE
          go_wp2
          go_ret
          exact⟨_,rfl,by rw[HC.out];exact⟨f,rfl,HE.out⟩,((zA.refl _ w).alloc _).trans hm⟩
        . by_cases k3:256<=p.id
          . clear hc k2
            have k2:0<=p.id:=by omega
            go_enter Tryz.func207, Tryz.ntmps207
            go_wp2_with fail
            refine (zB4 _ _).mono ?_
            rintro e w1 ⟨rfl,rfl⟩
            go_wp2_with fail
            refine (zEV _ _).mono ?_
            rintro e w1 ⟨rfl,rfl⟩
            go_wp2_with fail
            refine (qN (HL1.out _) _ _ _ 1 (.sent 1 (by decide) (by decide))).mono ?_
            rintro e w1 ⟨f,rfl,hE,hm⟩
            have HE:=oh hE
            clear hE
            go_wp2
            go_ret
            exact⟨_,rfl,by rw[HC.out];exact⟨f,rfl,HE.out⟩,((zA.refl _ w).alloc _).trans hm⟩
          . have k4 : size - 24 < (p.body.length : Int) := by rcases hc with h | h | h | h
                                                              . rw[hk] at h;cases h
                                                              . omega
                                                              . omega
                                                              . exact h
            have k5:0<=p.id:=by omega
            have k6:p.id<256:=by omega
            clear hc k2 k3
            go_enter Tryz.func207, Tryz.ntmps207
            go_wp2_with fail
            refine (zB4 _ _).mono ?_
            rintro e w1 ⟨rfl,rfl⟩
            go_wp2_with fail
            refine (zEV _ _).mono ?_
            rintro e w1 ⟨rfl,rfl⟩
            go_wp2_with fail
            refine (qN (HL1.out _) _ _ _ 1 (.sent 1 (by decide) (by decide))).mono ?_
            rintro e w1 ⟨f,rfl,hE,hm⟩
            have HE:=oh hE
            clear hE
            go_wp2
            go_ret
            exact⟨_,rfl,by rw[HC.out];exact⟨f,rfl,HE.out⟩,((zA.refl _ w).alloc _).trans hm⟩
    . have HC:Hid (yY p size=none):=oh (by unfold yY;rw[if_neg (by simp[hs]),if_neg hc])
      simp only[not_or,Bool.not_eq_false,Int.not_lt,Int.not_le] at hc
      obtain⟨k1,k2,k3,k4⟩:=hc
      go_enter Tryz.func207, Tryz.ntmps207
      go_wp2_with fail
      refine (zB4 _ _).mono ?_
      rintro e w1 ⟨rfl,rfl⟩
      go_wp2_with fail
      refine (zEV _ _).mono ?_
      rintro e w1 ⟨rfl,rfl⟩
      go_wp2_with fail
      go_ret
      exact⟨_,rfl,by rw[HC.out];rfl,((zA.refl _ w).alloc _)⟩
def vL(p:zX):Nat->List UInt8
 | 0=>[]
 | 1=>yD 1 p.kind.toNat
 | 2=>yD 1 p.kind.toNat++yD 1 0
 | 3=>yD 1 p.kind.toNat++yD 1 0++yD 2 p.body.length
 | 4=>yD 1 p.kind.toNat++yD 1 0++yD 2 p.body.length++yD 4 p.id.toNat
 | 5=>yD 1 p.kind.toNat++yD 1 0++yD 2 p.body.length++yD 4 p.id.toNat++yD 8 p.gen
 | _=>yD 1 p.kind.toNat++yD 1 0++yD 2 p.body.length++yD 4 p.id.toNat++yD 8 p.gen++yD 4 0
theorem Tryz.idx6_0(a0 a1 a2 a3 a4 a5 a6 a7 a8 a9 a10 a11:Value)(w:World):(Instr.index 324 (.agg #[a0,a1,a2,a3,a4,a5,a6,a7,a8,a9,a10,a11]) (.int .i64 0)).run Tryz.prog w=.ok (.agg #[a0,a1]) w:=by kernel_rfl
theorem Tryz.idx6_1(a0 a1 a2 a3 a4 a5 a6 a7 a8 a9 a10 a11:Value)(w:World):(Instr.index 324 (.agg #[a0,a1,a2,a3,a4,a5,a6,a7,a8,a9,a10,a11]) (.int .i64 1)).run Tryz.prog w=.ok (.agg #[a2,a3]) w:=by kernel_rfl
theorem Tryz.idx6_2(a0 a1 a2 a3 a4 a5 a6 a7 a8 a9 a10 a11:Value)(w:World):(Instr.index 324 (.agg #[a0,a1,a2,a3,a4,a5,a6,a7,a8,a9,a10,a11]) (.int .i64 2)).run Tryz.prog w=.ok (.agg #[a4,a5]) w:=by kernel_rfl
theorem Tryz.idx6_3(a0 a1 a2 a3 a4 a5 a6 a7 a8 a9 a10 a11:Value)(w:World):(Instr.index 324 (.agg #[a0,a1,a2,a3,a4,a5,a6,a7,a8,a9,a10,a11]) (.int .i64 3)).run Tryz.prog w=.ok (.agg #[a6,a7]) w:=by kernel_rfl
theorem Tryz.idx6_4(a0 a1 a2 a3 a4 a5 a6 a7 a8 a9 a10 a11:Value)(w:World):(Instr.index 324 (.agg #[a0,a1,a2,a3,a4,a5,a6,a7,a8,a9,a10,a11]) (.int .i64 4)).run Tryz.prog w=.ok (.agg #[a8,a9]) w:=by kernel_rfl
theorem Tryz.idx6_5(a0 a1 a2 a3 a4 a5 a6 a7 a8 a9 a10 a11:Value)(w:World):(Instr.index 324 (.agg #[a0,a1,a2,a3,a4,a5,a6,a7,a8,a9,a10,a11]) (.int .i64 5)).run Tryz.prog w=.ok (.agg #[a10,a11]) w:=by kernel_rfl
theorem zHB{F:Nat->Prop}{ad:Nat->Addr}{w:World}(hL:yG F ad w)(p:zX)(bv:Value)(hb:Sl F w 1 zZ bv p.body)(size:Nat)(hg:p.gen<18446744073709551616)(hc:yY p size=none) :
    Calls Tryz.prog 136 #[qA p bv,.int .i64 (size:Int)] w λe w'=>∃a c,e=.returned (.tuple #[.slice a size c,.nilIface])/\yC F w' w.heap.size 5 1 zZ (.slice a size c) (vH p size)/\zF w w':=by
  have HB:Hid (∀w',zF w w'->Sl F w' 1 zZ bv p.body):=oh (λw' m=>hb.ext m)
  have HL:Hid (∀w',zF w w'->yG F ad w'):=oh (λw' m=>hL.mods m.ext)
  have HF:Hid (Bd F w):=oh (λk hk=>hL.lt k hk)
  obtain⟨a,cap,rfl,h1,h2,h3,h4⟩:=hb
  unfold maxLen at h2
  clear h4 hL
  have HC:=oh hc
  obtain⟨c1,c2,c3,c4,c5,c6⟩:=yZ hc
  obtain⟨k1,k2⟩:=zEN c3
  clear hc c3
  have HR:Hid (zCm p size=vL p 6++p.body++List.replicate (size-4-(20+p.body.length)) 0):=oh rfl
  have HS:Hid (vH p size=zCm p size++yD 4 (zBQ (zCm p size))):=oh rfl
  have HRL:Hid ((zCm p size).length=size-4):=oh (zEM p size (by omega))
  obtain⟨K,hK⟩:∃n:Nat,p.kind=n:=⟨p.kind.toNat,by omega⟩
  obtain⟨I,hI⟩:∃n:Nat,p.id=n:=⟨p.id.toNat,by omega⟩
  have H1:Hid (p.kind.toNat=K):=oh (by omega)
  have H2:Hid (p.id.toNat=I):=oh (by omega)
  rw[hK] at k1 k2
  rw[hI] at c4 c5
  replace c1:256<=size:=by omega
  replace c2:size<=1024:=by omega
  replace c5:I<256:=by omega
  replace c6:p.body.length+24<=size:=by omega
  replace k2:K<6:=by omega
  have HG:=oh hg
  clear k1 c4 hg
  have HP:Hid (∀bv,qA p bv=.agg #[.int .i64 K,.int .i64 I,.int .u64 (p.gen:Int),bv]):=oh (λ_=>by rw[qA,hK,hI])
  clear hK hI
  rw[HP.out]
  go_enter Tryz.func136, Tryz.ntmps136
  go_wp2_with fail
  rw[<- HP.out]
  have m0:zF w (w.alloc (.cells #[.int .i64 K,.int .i64 I,.int .u64 (p.gen:Int),.slice a p.body.length cap] 192)):=(zA.refl _ w).alloc _
  refine (zGA (HL.out _ m0) p _ (HB.out _ m0) size).mono ?_
  rintro e w1 ⟨ev,rfl,hE,hm⟩
  rw[HC.out] at hE
  cases hE
  have M1:Hid (zF w w1):=oh (m0.trans hm)
  have hcell:∀o:Nat,w1.cell? ⟨w.heap.size,o,none⟩=(w.alloc (.cells #[.int .i64 K,.int .i64 I,.int .u64 (p.gen:Int),.slice a p.body.length cap] 192)).cell? ⟨w.heap.size,o,none⟩:=λo=>hm.cell (by simp) (λf=>f)
  have q0:w1.cell? ⟨w.heap.size,0,none⟩=some (.int .i64 K):=by rw[hcell,qO (zR rfl)];rfl
  have q1:w1.cell? ⟨w.heap.size,1,none⟩=some (.int .i64 I):=by rw[hcell,qO (zR rfl)];rfl
  have q2:w1.cell? ⟨w.heap.size,2,none⟩=some (.int .u64 p.gen):=by rw[hcell,qO (zR rfl)];rfl
  have q3:w1.cell? ⟨w.heap.size,3,none⟩=some (.slice a p.body.length cap):=by rw[hcell,qO (zR rfl)];rfl
  have Q3:Hid (∀w',zF w1 w'->w'.cell? ⟨w.heap.size,3,none⟩=some (.slice a p.body.length cap)):=oh (λw' m=>(m.cell (Nat.lt_of_lt_of_le (by simp) hm.size) (λf=>f)).trans q3)
  clear hcell hm m0
  go_wp2_with fail
  go_loopg [7,37] 6 (λm v7 v37 wr=>∃(k:Nat) (a:Option Addr) (c:Nat),k+m=6/\v7=.slice a (vL p k).length c/\v37=.int .i64 k/\Hid (Sl F wr 1 zZ (.slice a (vL p k).length c) (vL p k)) /\
    Hid (0<k->yC F wr w.heap.size 5 1 zZ (.slice a (vL p k).length c) (vL p k))/\Hid (zF w1 wr))
  case atStart=>exact⟨0,none,0,rfl,rfl,rfl,oh (Sl.nil _ _ _ _),oh (by omega),oh (zA.refl _ _)⟩
  case round =>
    clear q0 q1 q2 q3
    obtain⟨k,a2,cc2,hk,rfl,rfl,HS2,HO2,HM2⟩:=hrel
    by_cases hlt:k<6
    . have hk6:k=0\/k=1\/k=2\/k=3\/k=4\/k=5:=by omega
      obtain⟨m,rfl⟩:∃m,gk=m+1:=⟨gk-1,by omega⟩
      have hm6:Hid (k+(m+1)=6):=oh hk
      clear hk hlt
      rcases hk6 with rfl|rfl|rfl|rfl|rfl|rfl
      . have hl0:(vL p 0).length=0:=by simp[vL]
        have hstep:Hid (vL p 0++yD 1 (K)=vL p 1):=oh (by have:=H1.out;simp[vL,this])
        have hl1:Hid ((vL p 1).length=0+1):=oh (by simp[vL,zD])
        have ix:=Tryz.idx6_0
        rw[hl0] at HS2 ⊢
        have HL0:=oh hl0
        clear hl0
        go_wp2_with fail
        have HW2:zF w (wr.alloc (.cells #[.int .u64 ((K:Nat):Int),.int .u64 1] 323)):=(M1.out.trans HM2.out).alloc _
        have PA:=zBL (HL.out _ HW2) _ (vL p 0) (HS2.out.ext ((zA.refl _ wr).alloc _)) (K) 1 (by decide) (by have:=HG.out;omega) (by rw[HL0.out];decide)
        rw[hstep.out,HL0.out] at PA
        refine PA.mono ?_
        rintro e w3 ⟨a3,c3,rfl,hO3,hm3⟩
        have HO3:=oh hO3
        have HM3:Hid (zF w1 w3):=oh ((HM2.out.alloc _).trans hm3)
        have HZ3:=oh HW2.size
        clear hO3 hm3 HW2 PA
        go_wp2_with fail
        go_roundg m
        case measure=>omega
        case rel=>exact⟨1,a3,c3,by have:=hm6.out;omega,by rw[hl1.out],by go_num,oh (by rw[hl1.out];exact HO3.out.sl (λ_=>rfl) (by rw[hl1.out];decide)),oh (λ_=>by rw[hl1.out];exact HO3.out.rebase HZ3.out),HM3⟩
      . have hl0:(vL p 1).length=1:=by simp[vL,zD]
        have hstep:Hid (vL p 1++yD 1 (0)=vL p 2):=oh (by  simp[vL])
        have hl1:Hid ((vL p 2).length=1+1):=oh (by simp[vL,zD])
        have ix:=Tryz.idx6_1
        rw[hl0] at HS2 ⊢
        have HL0:=oh hl0
        clear hl0
        go_wp2_with fail
        have HW2:zF w (wr.alloc (.cells #[.int .u64 ((0:Nat):Int),.int .u64 1] 323)):=(M1.out.trans HM2.out).alloc _
        have PA:=zBL (HL.out _ HW2) _ (vL p 1) (HS2.out.ext ((zA.refl _ wr).alloc _)) (0) 1 (by decide) (by have:=HG.out;omega) (by rw[HL0.out];decide)
        rw[hstep.out,HL0.out] at PA
        refine PA.mono ?_
        rintro e w3 ⟨a3,c3,rfl,hO3,hm3⟩
        have HO3:=oh hO3
        have HM3:Hid (zF w1 w3):=oh ((HM2.out.alloc _).trans hm3)
        have HZ3:=oh HW2.size
        clear hO3 hm3 HW2 PA
        go_wp2_with fail
        go_roundg m
        case measure=>omega
        case rel=>exact⟨2,a3,c3,by have:=hm6.out;omega,by rw[hl1.out],by go_num,oh (by rw[hl1.out];exact HO3.out.sl (λ_=>rfl) (by rw[hl1.out];decide)),oh (λ_=>by rw[hl1.out];exact HO3.out.rebase HZ3.out),HM3⟩
      . have hl0:(vL p 2).length=2:=by simp[vL,zD]
        have hstep:Hid (vL p 2++yD 2 (p.body.length)=vL p 3):=oh (by  simp[vL])
        have hl1:Hid ((vL p 3).length=2+2):=oh (by simp[vL,zD])
        have ix:=Tryz.idx6_2
        rw[hl0] at HS2 ⊢
        have HL0:=oh hl0
        clear hl0
        go_wp2_with fail
        have HW2:zF w (wr.alloc (.cells #[.int .u64 ((p.body.length:Nat):Int),.int .u64 2] 323)):=(M1.out.trans HM2.out).alloc _
        have PA:=zBL (HL.out _ HW2) _ (vL p 2) (HS2.out.ext ((zA.refl _ wr).alloc _)) (p.body.length) 2 (by decide) (by have:=HG.out;omega) (by rw[HL0.out];decide)
        rw[hstep.out,HL0.out] at PA
        refine PA.mono ?_
        rintro e w3 ⟨a3,c3,rfl,hO3,hm3⟩
        have HO3:=oh hO3
        have HM3:Hid (zF w1 w3):=oh ((HM2.out.alloc _).trans hm3)
        have HZ3:=oh HW2.size
        clear hO3 hm3 HW2 PA
        go_wp2_with fail
        go_roundg m
        case measure=>omega
        case rel=>exact⟨3,a3,c3,by have:=hm6.out;omega,by rw[hl1.out],by go_num,oh (by rw[hl1.out];exact HO3.out.sl (λ_=>rfl) (by rw[hl1.out];decide)),oh (λ_=>by rw[hl1.out];exact HO3.out.rebase HZ3.out),HM3⟩
      . have hl0:(vL p 3).length=4:=by simp[vL,zD]
        have hstep:Hid (vL p 3++yD 4 (I)=vL p 4):=oh (by have:=H2.out;simp[vL,this])
        have hl1:Hid ((vL p 4).length=4+4):=oh (by simp[vL,zD])
        have ix:=Tryz.idx6_3
        rw[hl0] at HS2 ⊢
        have HL0:=oh hl0
        clear hl0
        go_wp2_with fail
        have HW2:zF w (wr.alloc (.cells #[.int .u64 ((I:Nat):Int),.int .u64 4] 323)):=(M1.out.trans HM2.out).alloc _
        have PA:=zBL (HL.out _ HW2) _ (vL p 3) (HS2.out.ext ((zA.refl _ wr).alloc _)) (I) 4 (by decide) (by have:=HG.out;omega) (by rw[HL0.out];decide)
        rw[hstep.out,HL0.out] at PA
        refine PA.mono ?_
        rintro e w3 ⟨a3,c3,rfl,hO3,hm3⟩
        have HO3:=oh hO3
        have HM3:Hid (zF w1 w3):=oh ((HM2.out.alloc _).trans hm3)
        have HZ3:=oh HW2.size
        clear hO3 hm3 HW2 PA
        go_wp2_with fail
        go_roundg m
        case measure=>omega
        case rel=>exact⟨4,a3,c3,by have:=hm6.out;omega,by rw[hl1.out],by go_num,oh (by rw[hl1.out];exact HO3.out.sl (λ_=>rfl) (by rw[hl1.out];decide)),oh (λ_=>by rw[hl1.out];exact HO3.out.rebase HZ3.out),HM3⟩
      . have hl0:(vL p 4).length=8:=by simp[vL,zD]
        have hstep:Hid (vL p 4++yD 8 (p.gen)=vL p 5):=oh (by  simp[vL])
        have hl1:Hid ((vL p 5).length=8+8):=oh (by simp[vL,zD])
        have ix:=Tryz.idx6_4
        rw[hl0] at HS2 ⊢
        have HL0:=oh hl0
        clear hl0
        go_wp2_with fail
        have HW2:zF w (wr.alloc (.cells #[.int .u64 ((p.gen:Nat):Int),.int .u64 8] 323)):=(M1.out.trans HM2.out).alloc _
        have PA:=zBL (HL.out _ HW2) _ (vL p 4) (HS2.out.ext ((zA.refl _ wr).alloc _)) (p.gen) 8 (by decide) (by have:=HG.out;omega) (by rw[HL0.out];decide)
        rw[hstep.out,HL0.out] at PA
        refine PA.mono ?_
        rintro e w3 ⟨a3,c3,rfl,hO3,hm3⟩
        have HO3:=oh hO3
        have HM3:Hid (zF w1 w3):=oh ((HM2.out.alloc _).trans hm3)
        have HZ3:=oh HW2.size
        clear hO3 hm3 HW2 PA
        go_wp2_with fail
        go_roundg m
        case measure=>omega
        case rel=>exact⟨5,a3,c3,by have:=hm6.out;omega,by rw[hl1.out],by go_num,oh (by rw[hl1.out];exact HO3.out.sl (λ_=>rfl) (by rw[hl1.out];decide)),oh (λ_=>by rw[hl1.out];exact HO3.out.rebase HZ3.out),HM3⟩
      . have hl0:(vL p 5).length=16:=by simp[vL,zD]
        have hstep:Hid (vL p 5++yD 4 (0)=vL p 6):=oh (by  simp[vL])
        have hl1:Hid ((vL p 6).length=16+4):=oh (by simp[vL,zD])
        have ix:=Tryz.idx6_5
        rw[hl0] at HS2 ⊢
        have HL0:=oh hl0
        clear hl0
        go_wp2_with fail
        have HW2:zF w (wr.alloc (.cells #[.int .u64 ((0:Nat):Int),.int .u64 4] 323)):=(M1.out.trans HM2.out).alloc _
        have PA:=zBL (HL.out _ HW2) _ (vL p 5) (HS2.out.ext ((zA.refl _ wr).alloc _)) (0) 4 (by decide) (by have:=HG.out;omega) (by rw[HL0.out];decide)
        rw[hstep.out,HL0.out] at PA
        refine PA.mono ?_
        rintro e w3 ⟨a3,c3,rfl,hO3,hm3⟩
        have HO3:=oh hO3
        have HM3:Hid (zF w1 w3):=oh ((HM2.out.alloc _).trans hm3)
        have HZ3:=oh HW2.size
        clear hO3 hm3 HW2 PA
        go_wp2_with fail
        go_roundg m
        case measure=>omega
        case rel=>exact⟨6,a3,c3,by have:=hm6.out;omega,by rw[hl1.out],by go_num,oh (by rw[hl1.out];exact HO3.out.sl (λ_=>rfl) (by rw[hl1.out];decide)),oh (λ_=>by rw[hl1.out];exact HO3.out.rebase HZ3.out),HM3⟩
    . obtain rfl:k=6:=by omega
      have hl0:(vL p 6).length=20:=by simp[vL,zD]
      have HO:=oh (HO2.out (by decide))
      have q3:=Q3.out _ HM2.out
      have M2:=oh (M1.out.trans HM2.out)
      have zz:=M2.out.size
      rw[hl0] at HO ⊢
      have HL0:=oh hl0
      clear hl0
      clear hk hlt
      go_wp2_with (first
        | (at_builtin; refine zCG Tryz.elB jE rfl (.tmp 55) (.tmp 57) rfl w.heap.size _ _ (vL p 6) p.body rfl rfl HO.out (HB.out _ M2.out) (by have := HL0.out; omega) zz (HF.out.mods M2.out) ?_
           rw [HL0.out]; intro a3 c3 w3 hO3 hm3
           have HO3 := oh hO3
           have HM3 : Hid (zF w w3) := oh (zA.past M2.out hm3)
           have HL3 : Hid ((vL p 6 ++ p.body).length = 20 + p.body.length) := oh (by rw [List.length_append, HL0.out])
           clear hO3 hm3)
        | (at_builtin; refine zIc Tryz.elB jE (0 : UInt8) rfl rfl .i64 Tryz.underlying3 rfl (.tmp 59) (.tmp 64) rfl w.heap.size _ _ _ (size - 4 - (20 + p.body.length)) _ (vL p 6 ++ p.body) rfl rfl HL3.out.symm (by omega) (by omega) HO3.out (by omega) HM3.out.size (HF.out.mods HM3.out) ?_
           intro a4 c4 w4 hO4 hm4
           have hl4 : 20 + p.body.length + (size - 4 - (20 + p.body.length)) = size - 4 := by omega
           rw [hl4] at hO4 ⊢
           rw [<- HR.out] at hO4
           have HO4 := oh hO4
           have HM4 : Hid (zF w w4) := oh (zA.past HM3.out hm4)
           have HS4 := oh (hO4.sl (fun _ => rfl) (by rw [HRL.out]; omega))
           clear hO4 hm4 hl4))
      go_wp2_with fail
      refine (zQg _ (zCm p size) _ HS4.out).mono ?_
      have hcr:=zIu (zCm p size)
      obtain⟨cs,hcs⟩:∃cs,cs=zBQ (zCm p size):=⟨_,rfl⟩
      rw[<- hcs] at hcr HS ⊢
      clear hcs
      rintro e w5 ⟨rfl,rfl⟩
      go_wp2_with fail
      have PA:=zBL (HL.out _ HM4.out) _ (zCm p size) HS4.out cs 4 (by decide) (by omega) (by rw[HRL.out];omega)
      rw[HRL.out,<- HS.out,show size-4+4=size by omega] at PA
      refine PA.mono ?_
      rintro e w6 ⟨a6,c6,rfl,hO6,hm6⟩
      have HO6:=oh (hO6.rebase HM4.out.size)
      have HM6:Hid (zF w w6):=oh (HM4.out.trans hm6)
      clear hO6 hm6 PA
      go_wp2_with fail
      refine (wrap_nil _ _).mono ?_
      rintro e w7 ⟨rfl,rfl⟩
      go_wp2_with fail
      go_ret2
      exact⟨a6,c6,rfl,HO6.out,HM6.out⟩
theorem Sl.sub{α:Type}{F:Nat->Prop}{w:World}{sz:Nat}{enc:α->List Value}{b off n c:Nat}{l:List α}(h:Sl F w sz enc (.slice (some ⟨b,off,none⟩) n c) l)(i j:Nat)(hij:i<=j)(hj:j<=n) :
  Sl F w sz enc (.slice (some ⟨b,off+i * sz,none⟩) (j-i) (c-i)) ((l.drop i).take (j-i)):=by
 obtain⟨a,cap,he,h1,h2,h3,h4⟩:=h;simp only[Value.slice.injEq] at he;obtain⟨rfl,rfl,rfl⟩:=he;have hlen:((l.drop i).take (j-i)).length=j-i:=by simp[List.length_take,List.length_drop];omega
 refine⟨some ⟨b,off+i * sz,none⟩,c-i,by rw[hlen],by rw[hlen];omega,by omega,by rw[hlen];omega,?_⟩;rcases h4 with h4|⟨b',off',hbo,hb,hF,hc⟩
 .left;simp[h4]
 .simp only[Option.some.injEq,Addr.mk.injEq,and_true] at hbo;obtain⟨rfl,rfl⟩:=hbo;refine .inr ⟨b,off+i * sz,rfl,hb,hF,λk x hk q u hu=>?_⟩;have hk1:k<j-i:=by
   have:=(List.getElem?_eq_some_iff.1 hk).1;rwa [hlen] at this
  rw[List.getElem?_take_of_lt hk1,List.getElem?_drop] at hk;have:=hc (i+k) x hk q u hu;rw[<- this];congr 2
  rw[Nat.add_mul];omega
theorem zDs(l:List UInt8)(i W:Nat)(h:i+W<=l.length):vI l (i:Int) W=(qG l i W,none):=by
 unfold vI qG;rw[if_neg (by omega),if_neg (by omega),Int.toNat_natCast]
theorem Tryz.pageSize:(Tryz.prog.info? 192).map (·.size)=some 4:=by kernel_rfl
theorem zDt{F:Nat->Prop}{ad:Nat->Addr}{w:World}(hL:yG F ad w)(bv:Value)(l:List UInt8)(hb:Sl F w 1 zZ bv l)(i W n:Nat)(hw:W=1\/W=2\/W=4\/W=8)(hT:vI l (i:Int) W=(n,none)) :
  Calls Tryz.prog 247 #[bv,.int .i64 (i:Int),.int .i64 (W:Int)] w λe w'=>e=.returned (.tuple #[.int .u64 (n:Int),.nilIface])/\zF w w':=by
 refine (zFb hL bv l hb i W hw).mono ?_;rintro e w' ⟨ev,rfl,hE,hm⟩;rw[hT] at hE;cases hE
 exact⟨by rw[hT],hm⟩
theorem zPV{F:Nat->Prop}{ad:Nat->Addr}{w:World}(hL:yG F ad w)(bv:Value)(l:List UInt8)(hb:Sl F w 1 zZ bv l)(h1:256<=l.length)(h2:l.length<=1024) :
  Calls Tryz.prog 283 #[bv] w λe w'=>∃pv,e=.returned (qA (zA2 l) pv)/\Sl F w' 1 zZ pv (zA2 l).body/\zF w w':=by
 have HB:Hid (∀w',zF w w'->Sl F w' 1 zZ bv l):=oh (λw' m=>hb.ext m);have HL:Hid (∀w',zF w w'->yG F ad w'):=oh (λw' m=>hL.mods m.ext);have HF:Hid (Bd F w):=oh (λk hk=>hL.lt k hk);have T0:=oh (zDs l 0 1 (by omega));have T2:=oh (zDs l 2 2 (by omega));have T4:=oh (zDs l 4 4 (by omega));have T8:=oh (zDs l 8 8 (by omega));have L0:=zC2 l 0 1;have L2:=zC2 l 2 2;have L4:=zC2 l 4 4;have L8:=zC2 l 8 8;obtain⟨n0,hn0⟩:∃n,n=qG l 0 1:=⟨_,rfl⟩;obtain⟨n2,hn2⟩:∃n,n=qG l 2 2:=⟨_,rfl⟩;obtain⟨n4,hn4⟩:∃n,n=qG l 4 4:=⟨_,rfl⟩;obtain⟨n8,hn8⟩:∃n,n=qG l 8 8:=⟨_,rfl⟩;have HP:Hid (zA2 l=⟨(n0:Nat),(n4:Nat),n8,if n2<=l.length-24 then (l.drop 20).take n2 else []⟩):=oh (by rw[hn0,hn2,hn4,hn8];rfl);rw[<- hn0] at T0 L0;rw[<- hn2] at T2 L2;rw[<- hn4] at T4 L4;rw[<- hn8] at T8 L8;replace L0:n0<256:=L0
 replace L2:n2<65536:=L2
 replace L4:n4<4294967296:=L4
 replace L8:n8<18446744073709551616:=L8
 clear hn0 hn2 hn4 hn8;obtain⟨a,cap,rfl,i1,i2,i3,i4⟩:=hb;unfold maxLen at i2;have hne:l≠[]:=by intro h;rw[h] at h1;simp at h1
 obtain⟨b,off,rfl,hbl,hF,_⟩:∃b off,a=some ⟨b,off,none⟩/\b<w.heap.size/\¬ F b/\True:=by
  rcases i4 with h|⟨b,off,h,hh,hF,_⟩
  .exact absurd h hne
  .exact⟨b,off,h,hh,hF,trivial⟩
 clear i4 hne hL
 go_enter Tryz.func283, Tryz.ntmps283
 go_wp2_with fail;have m0:zF w (w.alloc (.cells #[.int .i64 0,.int .i64 0,.int .u64 0,.slice none 0 0] 192)):=(zA.refl _ w).alloc _;have RB:Hid (∀w',zF (w.alloc (.cells #[.int .i64 0,.int .i64 0,.int .u64 0,.slice none 0 0] 192)) w'->zH w' w.heap.size #[.int .i64 0,.int .i64 0,.int .u64 0,.slice none 0 0] 192):=oh (λw' m=>(zH.new w _ _).ext m);refine (zDt (HL.out _ m0) _ l (HB.out _ m0) 0 1 n0 (by decide) T0.out).mono ?_;rintro e w1 ⟨rfl,hm⟩;have M1:=oh (m0.trans hm);have M5:=oh hm;clear m0 hm;go_wp2_with fail;refine (zDt (HL.out _ M1.out) _ l (HB.out _ M1.out) 2 2 n2 (by decide) T2.out).mono ?_;rintro e w2 ⟨rfl,hm⟩;have M2:=oh (M1.out.trans hm);have M5:=oh (M5.out.trans hm);clear hm;go_wp2_with fail;refine (zDt (HL.out _ M2.out) _ l (HB.out _ M2.out) 4 4 n4 (by decide) T4.out).mono ?_;rintro e w3 ⟨rfl,hm⟩;have M3:=oh (M2.out.trans hm);have M5:=oh (M5.out.trans hm);clear hm;go_wp2_with fail;refine (zDt (HL.out _ M3.out) _ l (HB.out _ M3.out) 8 8 n8 (by decide) T8.out).mono ?_;rintro e w4 ⟨rfl,hm⟩;have M4:=oh (M3.out.trans hm);have M5:=oh (M5.out.trans hm);clear hm;have hz4:w.heap.size<w4.heap.size:=Nat.lt_of_lt_of_le (by simp) M5.out.size;have rb:=RB.out w4 M5.out;have r0:=rb.cell (o:=0) rfl;have r1:=rb.cell (o:=1) rfl;have r2:=rb.cell (o:=2) rfl;have r3:=rb.cell (o:=3) rfl;have rf:=rb.frozen;clear rb;by_cases hc:n2+24<=l.length
 .have HP2:Hid (zA2 l=⟨(n0:Nat),(n4:Nat),n8,(l.drop 20).take n2⟩):=oh (by rw[HP.out,if_pos (by omega)]);go_wp2_with fail;have HB4:=(HB.out _ (M4.out.alloc (.cells #[.int .i64 n0,.int .i64 n4,.int .u64 n8,.slice none 0 0] 192))).sub 20 (20+n2) (by omega) (by omega);simp only[Nat.mul_one,Nat.add_sub_cancel_left] at HB4;have PA:=zNy (HF.out.mods (M4.out.alloc (.cells #[.int .i64 n0,.int .i64 n4,.int .u64 n8,.slice none 0 0] 192))) _ _ HB4;refine PA.mono ?_;rintro e w5 ⟨a5,c5,rfl,hO5,hm5⟩;have hlen:((l.drop 20).take n2).length=n2:=by simp[List.length_take,List.length_drop];omega
  rw[hlen] at hO5 ⊢;have mG:=zA.set4 ((zA.refl (λk=>k=w4.heap.size\/k=w.heap.size) w5).setCell (p:=⟨w4.heap.size,3,none⟩) (.inr (.inl rfl)) (.slice a5 n2 c5)) (R:=w.heap.size) (.inr (.inr rfl)) (.int .i64 n0) (.int .i64 n4) (.int .u64 n8) (.slice a5 n2 c5);have hS5:=(hO5.mods mG (λg hg h=>by have h9:=(hO5.lt g hg).1;simp at h9;omega)).sl (λ_=>rfl) (by rw[hlen];omega);have M6:=oh ((M4.out.alloc (.cells #[.int .i64 n0,.int .i64 n4,.int .u64 n8,.slice none 0 0] 192)).trans hm5);have hR5:=(RB.out w4 M5.out).alloc (.cells #[.int .i64 n0,.int .i64 n4,.int .u64 n8,.slice none 0 0] 192) |>.ext hm5
  have hP5:=(zH.new w4 #[.int .i64 n0,.int .i64 n4,.int .u64 n8,.slice none 0 0] 192).ext hm5;have s0:=hR5.cell (o:=0) rfl;have s1:=hR5.cell (o:=1) rfl;have s2:=hR5.cell (o:=2) rfl;have s3:=hR5.cell (o:=3) rfl;have sf:=hR5.frozen;have t0:=hP5.cell (o:=0) rfl;have t1:=hP5.cell (o:=1) rfl;have t2:=hP5.cell (o:=2) rfl;have t3:=hP5.cell (o:=3) rfl;have tf:=hP5.frozen;have hne:w4.heap.size≠w.heap.size:=by omega
  have hne2:w.heap.size≠w4.heap.size:=by omega
  have hb5:=zH.set4 (hR5.set_other (p:=⟨w4.heap.size,3,none⟩) hne2 (.slice a5 n2 c5)) (.int .i64 n0) (.int .i64 n4) (.int .u64 n8) (.slice a5 n2 c5);have hm6:=zA.set4 (M6.out.setCell (p:=⟨w4.heap.size,3,none⟩) (.inl (by show w.heap.size<=w4.heap.size;omega)) (.slice a5 n2 c5)) (.inl (Nat.le_refl w.heap.size)) (.int .i64 n0) (.int .i64 n4) (.int .u64 n8) (.slice a5 n2 c5);have HB5:=oh hb5;have HM6:=oh hm6;have HS5:=oh hS5;clear hb5 hm6 hS5 hO5 mG hR5 hP5 hm5 r0 r1 r2 r3 rf HB4 PA hlen;go_wp2_with fail;refine bodyPost_ret (results_cell_row rfl _ _ w.heap.size 192 #[.int .i64 n0,.int .i64 n4,.int .u64 n8,.slice a5 n2 c5] (0,0) _ rfl HB5.out Tryz.underlying192 rfl Tryz.pageSize) rfl ?_;exact⟨.slice a5 n2 c5,by rw[HP2.out];rfl,by rw[HP2.out];exact HS5.out,HM6.out⟩
 .have HP2:Hid (zA2 l=⟨(n0:Nat),(n4:Nat),n8,[]⟩):=oh (by rw[HP.out,if_neg (by omega)]);have hc2:l.length<n2+24:=by omega
  clear hc;go_wp2_with fail;have hb5:=(zH.set4 (RB.out w4 M5.out) (.int .i64 n0) (.int .i64 n4) (.int .u64 n8) (.slice none 0 0)).alloc (.cells #[.int .i64 n0,.int .i64 n4,.int .u64 n8,.slice none 0 0] 192);have hm5:=(zA.set4 M4.out (.inl (Nat.le_refl w.heap.size)) (.int .i64 n0) (.int .i64 n4) (.int .u64 n8) (.slice none 0 0)).alloc (.cells #[.int .i64 n0,.int .i64 n4,.int .u64 n8,.slice none 0 0] 192);refine bodyPost_ret (results_cell_row rfl _ _ w.heap.size 192 #[.int .i64 n0,.int .i64 n4,.int .u64 n8,.slice none 0 0] (0,0) _ rfl hb5 Tryz.underlying192 rfl Tryz.pageSize) rfl ?_;exact⟨.slice none 0 0,by rw[HP2.out];rfl,by rw[HP2.out];exact Sl.nil _ _ _ _,hm5⟩
theorem zPW{F:Nat->Prop}{ad:Nat->Addr}{w:World}(hL:yG F ad w)(p:zX)(bv:Value)(hb:Sl F w 1 zZ bv p.body)(size:Nat)(er:List Int × Nat)(hc:yY p size=some er) :
  Calls Tryz.prog 136 #[qA p bv,.int .i64 (size:Int)] w λe w'=>∃ev,e=.returned (.tuple #[.slice none 0 0,ev])/\zBw F ad w' ev (some (-1 :: er.1,er.2))/\zF w w':=by
 have HB:Hid (∀w',zF w w'->Sl F w' 1 zZ bv p.body):=oh (λw' m=>hb.ext m);have HL:Hid (∀w',zF w w'->yG F ad w'):=oh (λw' m=>hL.mods m.ext);have HC:=oh hc;clear hb hL hc;have HP:Hid (∀bv,qA p bv=.agg #[.int .i64 p.kind,.int .i64 p.id,.int .u64 (p.gen:Int),bv]):=oh (λ_=>rfl);rw[HP.out]
 go_enter Tryz.func136, Tryz.ntmps136
 go_wp2_with fail;rw[<- HP.out];have m0:zF w (w.alloc (.cells #[.int .i64 p.kind,.int .i64 p.id,.int .u64 (p.gen:Int),bv] 192)):=(zA.refl _ w).alloc _;refine (zGA (HL.out _ m0) p _ (HB.out _ m0) size).mono ?_;rintro e w1 ⟨ev,rfl,hE,hm⟩;rw[HC.out] at hE;obtain⟨f,rfl,hE⟩:=hE;have HE:=oh hE;have M1:=oh (m0.trans hm);clear hE hm m0;go_wp2_with fail;refine (wrap_any (HL.out _ M1.out) _ _ _ _ HE.out).mono ?_;rintro e w2 ⟨f2,rfl,hE2,hm⟩;have HE2:=oh hE2;clear hE2;go_wp2_with fail;go_ret2
 exact⟨_,rfl,⟨f2,rfl,HE2.out⟩,M1.out.trans hm⟩
theorem zPX{F:Nat->Prop}{ad:Nat->Addr}{w:World}(hL:yG F ad w)(bv:Value)(l:List UInt8)(hb:Sl F w 1 zZ bv l)(h1:256<=l.length)(h2:l.length<=1024) :
    Calls Tryz.prog 254 #[bv] w λe w'=>zF w w' /\
      ((zBO l = true /\ ∃ pv, e = .returned (.tuple #[qA (zA2 l) pv, .nilIface]) /\ Sl F w' 1 zZ pv (zA2 l).body) \/
       (zBO l=false/\∃f,e=.returned (.tuple #[qA ⟨0,0,0,[]⟩ (.slice none 0 0),zL f])/\vB F ad w' (zL f) [zFB l] 5)):=by
  have HB:Hid (∀w',zF (w.alloc (.cells #[.int .i64 0,.int .i64 0,.int .u64 0,.slice none 0 0] 192)) w'->Sl (qE F w.heap.size) w' 1 zZ bv l):=oh (λw' m=>hb.withR (((zA.refl _ w).alloc _).trans m))
  have HL:Hid (∀w',zF (w.alloc (.cells #[.int .i64 0,.int .i64 0,.int .u64 0,.slice none 0 0] 192)) w'->yG (qE F w.heap.size) ad w'):=oh (λw' m=>hL.withR (((zA.refl _ w).alloc _).trans m) (Nat.lt_of_lt_of_le (by simp) m.size))
  obtain⟨a,cap,rfl,i1,i2,i3,i4⟩:=hb
  unfold maxLen at i2
  clear i4
  have hz:zAX (l.length:Int)=true:=by simp[zAX];omega
  have z5 : 5 < w.heap.size:=Nat.lt_of_lt_of_le (by decide) hL.size
  have G5:Hid (∀w',zF w w'->w'.cell? ⟨5,0,none⟩=some (.iface 403 (.pointer (some (ad 5))))):=oh (λw' m=>(hL.mods m.ext).c5)
  clear hL
  go_enter Tryz.func254, Tryz.ntmps254
  go_wp2_with fail
  refine (zB4 _ _).mono ?_
  rintro e w1 ⟨rfl,rfl⟩
  go_wp2_with fail
  have m0:zF w (w.alloc (.cells #[.int .i64 0,.int .i64 0,.int .u64 0,.slice none 0 0] 192)):=(zA.refl _ w).alloc _
  have RB:Hid (∀w',zF (w.alloc (.cells #[.int .i64 0,.int .i64 0,.int .u64 0,.slice none 0 0] 192)) w'->zH w' w.heap.size #[.int .i64 0,.int .i64 0,.int .u64 0,.slice none 0 0] 192):=oh (λw' m=>(zH.new w _ _).ext m)
  have M0:Hid (zF w (w.alloc (.cells #[.int .i64 0,.int .i64 0,.int .u64 0,.slice none 0 0] 192))):=oh m0
  refine (zPV (HL.out _ (zA.refl _ _)) _ l (HB.out _ (zA.refl _ _)) h1 h2).mono ?_
  rintro e w1 ⟨pv,rfl,hS,hm⟩
  obtain⟨p,hp⟩:∃p,p=zA2 l:=⟨_,rfl⟩
  have HPE:=oh hp
  rw[<- hp] at hS ⊢
  obtain⟨K,hK⟩:∃n,n=p.kind:=⟨_,rfl⟩
  obtain⟨I,hI⟩:∃n,n=p.id:=⟨_,rfl⟩
  obtain⟨G,hG⟩:∃n,n=p.gen:=⟨_,rfl⟩
  have HP:Hid (∀bv,qA p bv=.agg #[.int .i64 K,.int .i64 I,.int .u64 (G:Int),bv]):=oh (λ_=>by rw[hK,hI,hG];rfl)
  have HI:=oh hI
  have HG:=oh (show p.gen<18446744073709551616 by rw[hp];exact zEk l)
  clear hK hI hG hp
  have M1:=oh hm
  have HS:Hid (∀w',zF w1 w'->Sl (qE F w.heap.size) w' 1 zZ pv p.body):=oh (λw' m=>hS.ext m)
  obtain⟨a2,cc2,rfl,_⟩:=hS
  clear m0 hm
  rw[HP.out]
  go_wp2_with fail
  rw[<- HP.out]
  have M2:=oh (M1.out.alloc (.cells #[.int .i64 K,.int .i64 I,.int .u64 (G:Int),.slice a2 p.body.length cc2] 192))
  have PB:Hid (∀w',zF (w1.alloc (.cells #[.int .i64 K,.int .i64 I,.int .u64 (G:Int),.slice a2 p.body.length cc2] 192)) w'->zH w' w1.heap.size #[.int .i64 K,.int .i64 I,.int .u64 (G:Int),.slice a2 p.body.length cc2] 192):=oh (λw' m=>(zH.new w1 _ _).ext m)
  have hlt1:w.heap.size<w1.heap.size:=Nat.lt_of_lt_of_le (by simp) M1.out.size
  rcases hc:yY p (l.length:Int) with _|er
  focus
    have HG2:=HG.out
    refine (zHB (HL.out _ M2.out) p _ (HS.out _ ((zA.refl _ w1).alloc _)) l.length HG2 hc).mono ?_
    rintro e w2 ⟨a3,c3,rfl,hO3,hm⟩
    have hlen:=jW p l.length (by have:=(yZ hc).2.2.2.2.2;omega)
    have HS3:=oh (hO3.sl (λ_=>rfl) (by rw[hlen];omega))
    have M3:=oh (M2.out.trans hm)
    have pb:=PB.out w2 hm
    have p0:=pb.cell (o:=0) rfl
    have p1:=pb.cell (o:=1) rfl
    have p2:=pb.cell (o:=2) rfl
    have p3:=pb.cell (o:=3) rfl
    have g5:=G5.out w2 (M0.out.trans M3.out)
    have PBE:Hid (∀w',zF w2 w'->zF (w1.alloc (.cells #[.int .i64 K,.int .i64 I,.int .u64 (G:Int),.slice a2 p.body.length cc2] 192)) w'):=oh (λw' m=>hm.trans m)
    clear hO3 hm pb HG2
    by_cases heq:vH p l.length=l
    . have HO:Hid (zBO l=true):=oh (by unfold zBO;rw[<- HPE.out,hc];simp[heq])
      have HQ:Hid (decide (vH p l.length=l)=true):=oh (by simp[heq])
      clear hc heq hlen
      go_wp2_with fail
      refine (zC5 _ _ (vH p l.length) l HS3.out (HB.out _ M3.out)).mono ?_
      rintro e w4 ⟨rfl,hm4⟩
      rw[HQ.out]
      have M4:=oh (M3.out.trans hm4)
      have pb:=PB.out w4 (PBE.out _ hm4)
      have q0:=pb.cell (o:=0) rfl
      have q1:=pb.cell (o:=1) rfl
      have q2:=pb.cell (o:=2) rfl
      have q3:=pb.cell (o:=3) rfl
      have rb:=RB.out w4 M4.out
      have r0:=rb.cell (o:=0) rfl
      have r1:=rb.cell (o:=1) rfl
      have r2:=rb.cell (o:=2) rfl
      have r3:=rb.cell (o:=3) rfl
      have rf:=rb.frozen
      have HB5:=oh (zH.set4 rb (.int .i64 K) (.int .i64 I) (.int .u64 (G:Int)) (.slice a2 p.body.length cc2))
      have HM5:=oh (zA.set4 (M0.out.trans M4.out) (.inl (Nat.le_refl w.heap.size)) (.int .i64 K) (.int .i64 I) (.int .u64 (G:Int)) (.slice a2 p.body.length cc2))
      have HS5:=oh ((HS.out w4 (by have:=PBE.out _ hm4;exact ((zA.refl _ w1).alloc _).trans this)).unR (zA.set4 (zA.refl _ w4) (R:=w.heap.size) (.inr (.inr rfl)) (.int .i64 K) (.int .i64 I) (.int .u64 (G:Int)) (.slice a2 p.body.length cc2)))
      clear rb pb hm4 p0 p1 p2 p3
      go_wp2_with fail
      refine bodyPost_ret (zC rfl _ _ w.heap.size 192 #[.int .i64 K,.int .i64 I,.int .u64 (G:Int),.slice a2 p.body.length cc2] _ rfl HB5.out Tryz.underlying192 rfl Tryz.pageSize) rfl ?_
      exact⟨HM5.out,.inl ⟨HO.out,.slice a2 p.body.length cc2,by rw[<- HPE.out,HP.out];rfl,by rw[<- HPE.out];exact HS5.out⟩⟩
    have HO:Hid (zBO l=false):=oh (by unfold zBO;rw[<- HPE.out,hc];simp[heq])
    have HQ:Hid (decide (vH p l.length=l)=false):=oh (by simp[heq])
    clear hc heq hlen
    go_wp2_with fail
    refine (zC5 _ _ (vH p l.length) l HS3.out (HB.out _ M3.out)).mono ?_
    rintro e w4 ⟨rfl,hm4⟩
    rw[HQ.out]
    have M3:=oh (M3.out.trans hm4)
    have pb:=PB.out w4 (PBE.out _ hm4)
    have q1:=pb.cell (o:=1) rfl
    have g5:=G5.out w4 (M0.out.trans M3.out)
    clear pb hm4 p0 p1 p2 p3
  rotate_left
  focus
    have HO:Hid (zBO l=false):=oh (by unfold zBO;rw[<- HPE.out,hc];simp)
    refine (zPW (HL.out _ M2.out) p _ (HS.out _ ((zA.refl _ w1).alloc _)) l.length er hc).mono ?_
    rintro e w2 ⟨ev,rfl,⟨f,rfl,hE⟩,hm⟩
    have M3:=oh (M2.out.trans hm)
    have pb:=PB.out w2 hm
    have p1:=pb.cell (o:=1) rfl
    have g5:=G5.out w2 (M0.out.trans M3.out)
    clear hE hm hc pb
  all_goals
    by_cases hI:256<=I
    focus
      have HID:Hid (zFB l = -1):=oh (by unfold zFB;rw[<- HPE.out,<- HI.out,if_pos hI])
    rotate_left
    focus
      have hI2:I<256:=by omega
      have HID:Hid (zFB l=I):=oh (by unfold zFB;rw[<- HPE.out,<- HI.out,if_neg hI])
      have HI0:Hid (zB2 I=I):=oh (by have:=(zPB l).1;rw[<- HPE.out,<- HI.out] at this;unfold zB2;rw[if_neg (by omega)])
      clear hI
    all_goals
      go_wp2_with fail
      refine (zAG (HL.out _ M3.out) _ _ _ _ 5 (.sent 5 (by decide) (by decide))).mono ?_
      rintro e w3 ⟨f3,rfl,hE3,hm3⟩
      have rb:=RB.out w3 (M3.out.trans hm3)
      have r0:=rb.cell (o:=0) rfl
      have r1:=rb.cell (o:=1) rfl
      have r2:=rb.cell (o:=2) rfl
      have r3:=rb.cell (o:=3) rfl
      have rf:=rb.frozen
      have HB5:=oh (zH.set4 rb (.int .i64 0) (.int .i64 0) (.int .u64 0) (.slice none 0 0))
      have HM5:=oh (zA.set4 ((M0.out.trans M3.out).trans hm3) (.inl (Nat.le_refl w.heap.size)) (.int .i64 0) (.int .i64 0) (.int .u64 0) (.slice none 0 0))
      have HE5:=oh (hE3.unR (zA.set4 (zA.refl _ w3) (R:=w.heap.size) (.inr (.inr rfl)) (.int .i64 0) (.int .i64 0) (.int .u64 0) (.slice none 0 0)))
      clear rb hE3 hm3
      go_wp2_with fail
      refine bodyPost_ret (zC rfl _ _ w.heap.size 192 #[.int .i64 0,.int .i64 0,.int .u64 0,.slice none 0 0] _ rfl HB5.out Tryz.underlying192 rfl Tryz.pageSize) rfl ?_
      exact⟨HM5.out,.inr ⟨HO.out,f3,rfl,by rw[HID.out];first|exact HE5.out|exact (by have:=HE5.out;rw[HI0.out] at this;exact this)⟩⟩
theorem zC6{F:Nat->Prop}{ad:Nat->Addr}{w:World}(hL:yG F ad w)(bv:Value)(l:List UInt8)(hb:Sl F w 1 zZ bv l)(h1:256<=l.length)(h2:l.length<=1024)(id:Int) :
    Calls Tryz.prog 191 #[bv,.int .i64 id] w λe w'=>zF w w' /\
      ((∃ p pv, zQ l id = .inl p /\ e = .returned (.tuple #[qA p pv, .nilIface]) /\ Sl F w' 1 zZ pv p.body) \/
       (∃pg k f,zQ l id=.inr (pg,k)/\e=.returned (.tuple #[qA ⟨0,0,0,[]⟩ (.slice none 0 0),zL f])/\vB F ad w' (zL f) pg k)):=by
  have HB:Hid (∀w',zF (w.alloc (.cells #[.int .i64 0,.int .i64 0,.int .u64 0,.slice none 0 0] 192)) w'->Sl (qE F w.heap.size) w' 1 zZ bv l):=oh (λw' m=>hb.withR (((zA.refl _ w).alloc _).trans m))
  have HL:Hid (∀w',zF (w.alloc (.cells #[.int .i64 0,.int .i64 0,.int .u64 0,.slice none 0 0] 192)) w'->yG (qE F w.heap.size) ad w'):=oh (λw' m=>hL.withR (((zA.refl _ w).alloc _).trans m) (Nat.lt_of_lt_of_le (by simp) m.size))
  obtain⟨a,cap,rfl,i1,i2,i3,i4⟩:=hb
  unfold maxLen at i2
  clear i4
  have z5 : 5 < w.heap.size:=Nat.lt_of_lt_of_le (by decide) hL.size
  have G5:Hid (∀w',zF w w'->w'.cell? ⟨5,0,none⟩=some (.iface 403 (.pointer (some (ad 5))))):=oh (λw' m=>(hL.mods m.ext).c5)
  clear hL
  have m0:zF w (w.alloc (.cells #[.int .i64 0,.int .i64 0,.int .u64 0,.slice none 0 0] 192)):=(zA.refl _ w).alloc _
  have RB:Hid (∀w',zF (w.alloc (.cells #[.int .i64 0,.int .i64 0,.int .u64 0,.slice none 0 0] 192)) w'->zH w' w.heap.size #[.int .i64 0,.int .i64 0,.int .u64 0,.slice none 0 0] 192):=oh (λw' m=>(zH.new w _ _).ext m)
  have M0:Hid (zF w (w.alloc (.cells #[.int .i64 0,.int .i64 0,.int .u64 0,.slice none 0 0] 192))):=oh m0
  clear m0
  go_enter Tryz.func191, Tryz.ntmps191
  go_wp2_with fail
  refine (zPX (HL.out _ (zA.refl _ _)) _ l (HB.out _ (zA.refl _ _)) h1 h2).mono ?_
  rintro e w1 ⟨hm,hres⟩
  have hlt1:w.heap.size<w1.heap.size:=Nat.lt_of_lt_of_le (by simp) hm.size
  have z6 : 5 < w1.heap.size:=Nat.lt_trans z5 hlt1
  rcases hres with ⟨ho,pv,rfl,hS⟩|⟨ho,f,rfl,hE⟩
  focus
    obtain⟨p,hp⟩:∃p,p=zA2 l:=⟨_,rfl⟩
    have HPE:=oh hp
    rw[<- hp] at hS ⊢
    obtain⟨K,hK⟩:∃n,n=p.kind:=⟨_,rfl⟩
    obtain⟨I,hI⟩:∃n,n=p.id:=⟨_,rfl⟩
    obtain⟨G,hG⟩:∃n,n=p.gen:=⟨_,rfl⟩
    have HP:Hid (∀bv,qA p bv=.agg #[.int .i64 K,.int .i64 I,.int .u64 (G:Int),bv]):=oh (λ_=>by rw[hK,hI,hG];rfl)
    have HI:=oh hI
    have HOP:=oh ho
    clear hK hI hG hp ho
    have M1:=oh hm
    have HS:Hid (∀w',zF w1 w'->Sl (qE F w.heap.size) w' 1 zZ pv p.body):=oh (λw' m=>hS.ext m)
    obtain⟨a2,cc2,rfl,_⟩:=hS
    clear hm
    rw[HP.out]
    have rb:=RB.out w1 M1.out
    have r0:=rb.cell (o:=0) rfl
    have r1:=rb.cell (o:=1) rfl
    have r2:=rb.cell (o:=2) rfl
    have r3:=rb.cell (o:=3) rfl
    have rf:=rb.frozen
    have g5:=G5.out w1 (M0.out.trans M1.out)
    by_cases hid:I=id
    . have HA:Hid (zQ l id=.inl p):=oh (by unfold zQ;rw[if_neg (by rw[HOP.out];decide),<- HPE.out,if_neg (by rw[<- HI.out];simpa using hid)])
      subst hid
      have HB5:=oh ((zH.set4 rb (.int .i64 K) (.int .i64 I) (.int .u64 (G:Int)) (.slice a2 p.body.length cc2)).alloc (.cells #[.int .i64 K,.int .i64 I,.int .u64 (G:Int),.slice a2 p.body.length cc2] 192))
      have HM5:=oh ((zA.set4 (M0.out.trans M1.out) (.inl (Nat.le_refl w.heap.size)) (.int .i64 K) (.int .i64 I) (.int .u64 (G:Int)) (.slice a2 p.body.length cc2)).alloc (.cells #[.int .i64 K,.int .i64 I,.int .u64 (G:Int),.slice a2 p.body.length cc2] 192))
      have HS5:=oh ((HS.out w1 (zA.refl _ w1)).unR ((zA.set4 (zA.refl _ w1) (R:=w.heap.size) (.inr (.inr rfl)) (.int .i64 K) (.int .i64 I) (.int .u64 (G:Int)) (.slice a2 p.body.length cc2)).alloc (.cells #[.int .i64 K,.int .i64 I,.int .u64 (G:Int),.slice a2 p.body.length cc2] 192)))
      clear rb
      go_wp2_with fail
      refine bodyPost_ret (zC rfl _ _ w.heap.size 192 #[.int .i64 K,.int .i64 I,.int .u64 (G:Int),.slice a2 p.body.length cc2] _ rfl HB5.out Tryz.underlying192 rfl Tryz.pageSize) rfl ?_
      exact⟨HM5.out,.inl ⟨p,.slice a2 p.body.length cc2,HA.out,by rw[HP.out];rfl,HS5.out⟩⟩
    have HA:Hid (zQ l id=.inr ([zB2 id],5)):=oh (by unfold zQ;rw[if_neg (by rw[HOP.out];decide),<- HPE.out,if_pos (by rw[<- HI.out];exact hid)];rfl)
    clear rb r0 r1 r2 r3 rf
    go_wp2_with fail
    have M2:=oh (M1.out.alloc (.cells #[.int .i64 K,.int .i64 I,.int .u64 (G:Int),.slice a2 p.body.length cc2] 192))
    refine (zAG (HL.out _ M2.out) _ _ _ _ 5 (.sent 5 (by decide) (by decide))).mono ?_
    rintro e w3 ⟨f3,rfl,hE3,hm3⟩
  rotate_left
  focus
    have HA:Hid (zQ l id=.inr ([-1,zFB l],5)):=oh (by unfold zQ;rw[if_pos ho])
    have HE:=oh hE
    have M1:=oh hm
    clear ho hE hm
    rw[show qA ⟨0,0,0,[]⟩ (.slice none 0 0)=.agg #[.int .i64 0,.int .i64 0,.int .u64 0,.slice none 0 0] from rfl]
    go_wp2_with fail
    have M2:=oh (M1.out.alloc (.cells #[.int .i64 0,.int .i64 0,.int .u64 0,.slice none 0 0] 192))
    refine (wrap_any (HL.out _ M2.out) _ _ _ _ (HE.out.mods ((zA.refl _ w1).alloc _))).mono ?_
    rintro e w3 ⟨f3,rfl,hE3,hm3⟩
  all_goals
    have M3:=oh (M2.out.trans hm3)
    clear hm3
    have rb:=RB.out w3 M3.out
    have r0:=rb.cell (o:=0) rfl
    have r1:=rb.cell (o:=1) rfl
    have r2:=rb.cell (o:=2) rfl
    have r3:=rb.cell (o:=3) rfl
    have rf:=rb.frozen
    have HB5:=oh (zH.set4 rb (.int .i64 0) (.int .i64 0) (.int .u64 0) (.slice none 0 0))
    have HM5:=oh (zA.set4 (M0.out.trans M3.out) (.inl (Nat.le_refl w.heap.size)) (.int .i64 0) (.int .i64 0) (.int .u64 0) (.slice none 0 0))
    have HE5:=oh (hE3.unR (zA.set4 (zA.refl _ w3) (R:=w.heap.size) (.inr (.inr rfl)) (.int .i64 0) (.int .i64 0) (.int .u64 0) (.slice none 0 0)))
    clear rb
    go_wp2_with fail
    refine bodyPost_ret (zC rfl _ _ w.heap.size 192 #[.int .i64 0,.int .i64 0,.int .u64 0,.slice none 0 0] _ rfl HB5.out Tryz.underlying192 rfl Tryz.pageSize) rfl ?_
    exact⟨HM5.out,.inr ⟨_,_,f3,HA.out,rfl,HE5.out⟩⟩
def zDV(blocks size:Int):Bool:=decide (8<=blocks) && decide (blocks<=256) && decide (256<=size) && decide (size<=1024)
theorem zHV(b s:Int)(w:World) : Calls Tryz.prog 42 #[.agg #[.int .i64 b,.int .i64 s]] w λe w'=>e=.returned (.bool (zDV b s))/\zF w w':=by
 by_cases h1:8<=b
 .by_cases h2:b<=256
  .by_cases h3:256<=s
   .have HR:Hid (zDV b s=(decide (8<=b) && decide (b<=256) && decide (256<=s) && decide (s<=1024))):=oh rfl
    go_enter Tryz.func42, Tryz.ntmps42
    go_wp2
    go_ret;exact⟨yB (by rw[HR.out];simp;try omega),(zA.refl _ w).alloc _⟩
   .have HR:Hid (zDV b s=(decide (8<=b) && decide (b<=256) && decide (256<=s) && decide (s<=1024))):=oh rfl
    go_enter Tryz.func42, Tryz.ntmps42
    go_wp2
    go_ret;exact⟨yB (by rw[HR.out];simp;try omega),(zA.refl _ w).alloc _⟩
  .have HR:Hid (zDV b s=(decide (8<=b) && decide (b<=256) && decide (256<=s) && decide (s<=1024))):=oh rfl
   go_enter Tryz.func42, Tryz.ntmps42
   go_wp2
   go_ret;exact⟨yB (by rw[HR.out];simp;try omega),(zA.refl _ w).alloc _⟩
 .have HR:Hid (zDV b s=(decide (8<=b) && decide (b<=256) && decide (256<=s) && decide (s<=1024))):=oh rfl
  go_enter Tryz.func42, Tryz.ntmps42
  go_wp2
  go_ret;exact⟨yB (by rw[HR.out];simp;try omega),(zA.refl _ w).alloc _⟩
def qF(s:yM):Value:=.agg #[.int .u64 (s.gen:Int),.int .i64 (s.blocks:Int),.int .i64 (s.size:Int),.int .i64 (s.root:Int),.int .i64 (s.keys:Int)]
def zBC(s:yM):Option Err:=if zBP s=true then none else some ([-1],1)
theorem zJs{g b z r k:Nat}(h:zDV b z=false\/2147483647<k\/r=1\/2<=r/\b<=r\/r=0/\k≠0):zBC ⟨g,b,z,r,k⟩=some ([-1],1):=by
 unfold zBC;rw[if_neg];rw[zAZ];simp only;rintro⟨a1,a2,a3,a4,a5,a6,a7⟩;rcases h with h|h|h|h|h
 .unfold zDV at h;simp at h;omega
 all_goals omega
theorem zId{g b z r k:Nat}(h0:zDV b z=true)(hk:k<=2147483647)(h:r=0/\k=0\/2<=r/\r<b):zBC ⟨g,b,z,r,k⟩=none:=by
 unfold zBC;rw[if_pos];rw[zAZ];simp only;unfold zDV at h0;simp at h0;omega
theorem zFd{F:Nat->Prop}{ad:Nat->Addr}{w:World}(hL:yG F ad w)(s:yM) :
  Calls Tryz.prog 138 #[qF s] w λe w'=>∃ev,e=.returned ev/\zBw F ad w' ev (zBC s)/\zF w w':=by
 have HL:Hid (∀w',zF w w'->yG F ad w'):=oh (λw' m=>hL.mods m.ext);have z1 : 2 < w.heap.size:=Nat.lt_of_lt_of_le (by decide) hL.size;have H1:Hid (∀w',zF w w'->w'.cell? ⟨2,0,none⟩=some (.iface 403 (.pointer (some (ad 1))))):=oh (λw' m=>(hL.mods m.ext).c1);clear hL;obtain⟨g,b,z,r,k⟩:=s;unfold qF;obtain⟨ro,hro⟩:∃ro,zDV (b:Int) (z:Int)=ro:=⟨_,rfl⟩;have HRO:=oh hro;have M0:Hid (zF w (w.alloc (.cells #[.int .u64 (g:Int),.int .i64 (b:Int),.int .i64 (z:Int),.int .i64 (r:Int),.int .i64 (k:Int)] 57))):=oh ((zA.refl _ w).alloc _);have HB:Hid (∀W,zF (w.alloc (.cells #[.int .u64 (g:Int),.int .i64 (b:Int),.int .i64 (z:Int),.int .i64 (r:Int),.int .i64 (k:Int)] 57)) W->zH W w.heap.size #[.int .u64 (g:Int),.int .i64 (b:Int),.int .i64 (z:Int),.int .i64 (r:Int),.int .i64 (k:Int)] 57):=oh (λW m=>(zH.new w _ _).ext m);by_cases hbad:ro=false\/ro=true/\2147483647<k\/ro=true/\k<=2147483647/\r=1\/ro=true/\k<=2147483647/\2<=r/\b<=r\/ro=true/\k<=2147483647/\r=0/\k≠0
 .have HC:Hid (zBC ⟨g,b,z,r,k⟩=some ([-1],1)):=oh (zJs (by
   rw[hro];rcases hbad with h|h|h|h|h
   .exact .inl h
   .exact .inr (.inl h.2)
   .exact .inr (.inr (.inl h.2.2))
   .exact .inr (.inr (.inr (.inl h.2.2)))
   .exact .inr (.inr (.inr (.inr h.2.2)))))
  clear hro;rcases hbad with rfl|⟨rfl,h1⟩|⟨rfl,h1,rfl⟩|⟨rfl,h1,h2,h3⟩|⟨rfl,h1,rfl,h2⟩
  all_goals
   go_enter Tryz.func138, Tryz.ntmps138
   go_wp2_with fail;refine (zHV _ _ _).mono ?_;rintro e w1 ⟨rfl,m1⟩;rw[HRO.out];have M1:=oh (M0.out.trans m1);have hB:=HB.out _ m1;have c1:=hB.cell (o:=1) rfl;have c2:=hB.cell (o:=2) rfl;have c3:=hB.cell (o:=3) rfl;have c4:=hB.cell (o:=4) rfl;have g1:=H1.out _ M1.out;clear hB m1;go_wp2_with fail;refine (qN (HL.out _ M1.out) _ _ _ 1 (.sent 1 (by decide) (by decide))).mono ?_;rintro e w2 ⟨f,rfl,hE,hm⟩;have HE:=oh hE;clear hE;go_wp2
   go_ret;exact⟨_,rfl,by rw[HC.out];exact⟨f,rfl,HE.out⟩,M1.out.trans hm⟩
 .have hgood:ro=true/\k<=2147483647/\(r=0/\k=0\/2<=r/\r<b):=by
   cases ro
   .exact absurd (.inl rfl) hbad
   .refine⟨rfl,?_⟩;simp only[true_and] at hbad;simp at hbad;omega
  obtain⟨rfl,hk,hg⟩:=hgood;have HC:Hid (zBC ⟨g,b,z,r,k⟩=none):=oh (zId hro hk hg);clear hro hbad;rcases hg with ⟨rfl,rfl⟩|⟨h2,h3⟩
  all_goals
   go_enter Tryz.func138, Tryz.ntmps138
   go_wp2_with fail;refine (zHV _ _ _).mono ?_;rintro e w1 ⟨rfl,m1⟩;rw[HRO.out];have M1:=oh (M0.out.trans m1);have hB:=HB.out _ m1;have c1:=hB.cell (o:=1) rfl;have c2:=hB.cell (o:=2) rfl;have c3:=hB.cell (o:=3) rfl;have c4:=hB.cell (o:=4) rfl;clear hB m1;go_wp2_with fail;go_ret;exact⟨_,rfl,by rw[HC.out];rfl,M1.out⟩
end Go.Proofs.YteabpacpngaoaaaGreatDoor
