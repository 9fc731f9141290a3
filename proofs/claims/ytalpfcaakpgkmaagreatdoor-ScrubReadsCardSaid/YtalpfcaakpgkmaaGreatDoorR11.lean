import Derived.Test.YtalpfcaakpgkmaaGreatDoorR08
import Derived.Test.YtalpfcaakpgkmaaGreatDoorR10
namespace Go.Proofs.YtalpfcaakpgkmaaGreatDoor
open Lib renaming hid->oh
set_option maxHeartbeats 1600000
set_option maxRecDepth 100000
open Go.RowKit
def qC(p:zY)(bv:Value):Value:=.agg #[.int .i64 p.kind,.int .i64 p.id,.int .u64 (p.gen:Int),bv]
theorem zCG(s:Int)(w:World) : Calls Tryz.prog 303 #[.int .i64 s] w λe w'=>e=.returned (.bool (zAn s))/\w=w':=by
 by_cases h1:256<=s
 .by_cases h2:s<=1024
  .have H:Hid (zAn s=true):=oh (by simp[zAn,h1,h2])
   go_enter Tryz.func303, Tryz.ntmps303
   go_wp2
   go_ret;exact⟨yB (by first|(rw[H.out];done)|(rw[H.out];simp;try omega)),rfl⟩
  .have H:Hid (zAn s=false):=oh (by simp[zAn,h2]);have h3:1024<s:=by omega
   clear h2
   go_enter Tryz.func303, Tryz.ntmps303
   go_wp2
   go_ret;exact⟨yB (by first|(rw[H.out];done)|(rw[H.out];simp;try omega)),rfl⟩
 .have H:Hid (zAn s=false):=oh (by simp[zAn,h1]);have h3:s<256:=by omega
  clear h1
  go_enter Tryz.func303, Tryz.ntmps303
  go_wp2
  go_ret;exact⟨yB (by first|(rw[H.out];done)|(rw[H.out];simp;try omega)),rfl⟩
theorem zEm(k:Int)(w:World) : Calls Tryz.prog 312 #[.int .i64 k] w λe w'=>e=.returned (.bool (zDD k))/\w=w':=by
 by_cases h1:k=1
 .subst h1;go_enter Tryz.func312, Tryz.ntmps312;go_wp2;go_ret;exact⟨rfl,rfl⟩
 by_cases h2:k=2
 .subst h2;go_enter Tryz.func312, Tryz.ntmps312;go_wp2;go_ret;exact⟨rfl,rfl⟩
 by_cases h3:k=3
 .subst h3;go_enter Tryz.func312, Tryz.ntmps312;go_wp2;go_ret;exact⟨rfl,rfl⟩
 by_cases h4:k=4
 .subst h4;go_enter Tryz.func312, Tryz.ntmps312;go_wp2;go_ret;exact⟨rfl,rfl⟩
 by_cases h5:k=5
 .subst h5;go_enter Tryz.func312, Tryz.ntmps312;go_wp2;go_ret;exact⟨rfl,rfl⟩
 have H:Hid (zDD k=false):=oh (by simp[zDD,h1,h2,h3,h4,h5])
 go_enter Tryz.func312, Tryz.ntmps312
 go_wp2
 go_ret;exact⟨yB H.out.symm,rfl⟩
theorem zGa{F:NP}{ad:Nat->Addr}{w:World}(hL:yH F ad w)(p:zY)(bv:Value)(hb:Sl F w 1 zZ bv p.body)(size:Int) :
    Calls Tryz.prog 272 #[qC p bv,.int .i64 size] w λe w'=>∃ev,e=.returned ev/\zAb F ad w' ev (qE p size)/\zF w w':=by
  obtain⟨a,cap,rfl,h1,h2,h3,h4⟩:=hb
  unfold maxLen at h2
  have g1:=hL.c1
  have g2:=hL.c2
  have z1 : 0 < w.heap.size:=uF (by decide) hL.size
  have z2 : 3 < w.heap.size:=uF (by decide) hL.size
  have An:Hid (∀o,yH F ad (w.alloc o)):=oh (λo=>hL.mods ((zA.refl F w).alloc o))
  clear h4 hL
  unfold qC
  cases hs:zAn size with
  | false =>
    have HC:Hid (qE p size=some ([-1],2)):=oh (by unfold qE;rw[if_pos hs])
    go_enter Tryz.func272, Tryz.ntmps272
    go_wp2_with fail
    refine (zCG _ _).mono ?_
    rintro e w1 ⟨rfl,rfl⟩
    go_wp2_with fail
    refine (vI (An.out _) _ _ _ 2 (.sent 2 (by decide) (by decide))).mono ?_
    rintro e w1 ⟨f,rfl,hE,hm⟩
    have HE:=oh hE
    clear hE
    go_wp2
    go_ret
    exact⟨_,rfl,by rw[HC.out];exact⟨f,rfl,HE.out⟩,((zss w).alloc _).trans hm⟩
  | true =>
    have Bs:256<=size:=by simp only[zAn,uI,uO] at hs;exact hs.1
    have Bt:size<=1024:=by simp only[zAn,uI,uO] at hs;exact hs.2
    by_cases hc:zDD p.kind=false\/p.id<0\/256<=p.id\/size-24<(p.body.length:Int)
    . have HC:Hid (qE p size=some ([-1],1)):=oh (by unfold qE;rw[if_neg (by simp[hs]),if_pos hc])
      cases hk:zDD p.kind with
      | false =>
        clear hc
        go_enter Tryz.func272, Tryz.ntmps272
        go_wp2_with fail
        refine (zCG _ _).mono ?_
        rintro e w1 ⟨rfl,rfl⟩
        go_wp2_with fail
        refine (zEm _ _).mono ?_
        rintro e w1 ⟨rfl,rfl⟩
        go_wp2_with fail
        refine (vI (An.out _) _ _ _ 1 (.sent 1 (by decide) (by decide))).mono ?_
        rintro e w1 ⟨f,rfl,hE,hm⟩
        have HE:=oh hE
        clear hE
        go_wp2
        go_ret
        exact⟨_,rfl,by rw[HC.out];exact⟨f,rfl,HE.out⟩,((zss w).alloc _).trans hm⟩
      | true =>
        by_cases k2:p.id<0
        . clear hc
          go_enter Tryz.func272, Tryz.ntmps272
          go_wp2_with fail
          refine (zCG _ _).mono ?_
          rintro e w1 ⟨rfl,rfl⟩
          go_wp2_with fail
          refine (zEm _ _).mono ?_
          rintro e w1 ⟨rfl,rfl⟩
          go_wp2_with fail
          refine (vI (An.out _) _ _ _ 1 (.sent 1 (by decide) (by decide))).mono ?_
          rintro e w1 ⟨f,rfl,hE,hm⟩
          have HE:=oh hE
          clear hE
          go_wp2
          go_ret
          exact⟨_,rfl,by rw[HC.out];exact⟨f,rfl,HE.out⟩,((zss w).alloc _).trans hm⟩
        . by_cases k3:256<=p.id
          . clear hc k2
            have k2:0<=p.id:=by omega
            go_enter Tryz.func272, Tryz.ntmps272
            go_wp2_with fail
            refine (zCG _ _).mono ?_
            rintro e w1 ⟨rfl,rfl⟩
            go_wp2_with fail
            refine (zEm _ _).mono ?_
            rintro e w1 ⟨rfl,rfl⟩
            go_wp2_with fail
            refine (vI (An.out _) _ _ _ 1 (.sent 1 (by decide) (by decide))).mono ?_
            rintro e w1 ⟨f,rfl,hE,hm⟩
            have HE:=oh hE
            clear hE
            go_wp2
            go_ret
            exact⟨_,rfl,by rw[HC.out];exact⟨f,rfl,HE.out⟩,((zss w).alloc _).trans hm⟩
          . have k4 : size - 24 < (p.body.length : Int) := by rcases hc with h | h | h | h
                                                              . rw[hk] at h;cases h
                                                              . omega
                                                              . omega
                                                              . exact h
            have k5:0<=p.id:=by omega
            have k6:p.id<256:=by omega
            clear hc k2 k3
            go_enter Tryz.func272, Tryz.ntmps272
            go_wp2_with fail
            refine (zCG _ _).mono ?_
            rintro e w1 ⟨rfl,rfl⟩
            go_wp2_with fail
            refine (zEm _ _).mono ?_
            rintro e w1 ⟨rfl,rfl⟩
            go_wp2_with fail
            refine (vI (An.out _) _ _ _ 1 (.sent 1 (by decide) (by decide))).mono ?_
            rintro e w1 ⟨f,rfl,hE,hm⟩
            have HE:=oh hE
            clear hE
            go_wp2
            go_ret
            exact⟨_,rfl,by rw[HC.out];exact⟨f,rfl,HE.out⟩,((zss w).alloc _).trans hm⟩
    . have HC:Hid (qE p size=none):=oh (by unfold qE;rw[if_neg (by simp[hs]),if_neg hc])
      simp only[not_or,pR,Int.not_lt,Int.not_le] at hc
      obtain⟨k1,k2,k3,k4⟩:=hc
      go_enter Tryz.func272, Tryz.ntmps272
      go_wp2_with fail
      refine (zCG _ _).mono ?_
      rintro e w1 ⟨rfl,rfl⟩
      go_wp2_with fail
      refine (zEm _ _).mono ?_
      rintro e w1 ⟨rfl,rfl⟩
      go_wp2_with fail
      go_ret
      exact⟨_,rfl,by rw[HC.out];rfl,((zss w).alloc _)⟩
def vR(p:zY):Nat->List UInt8
 | 0=>[]
 | 1=>yD 1 p.kind.toNat
 | 2=>yD 1 p.kind.toNat++yD 1 0
 | 3=>yD 1 p.kind.toNat++yD 1 0++yD 2 p.body.length
 | 4=>yD 1 p.kind.toNat++yD 1 0++yD 2 p.body.length++yD 4 p.id.toNat
 | 5=>yD 1 p.kind.toNat++yD 1 0++yD 2 p.body.length++yD 4 p.id.toNat++yD 8 p.gen
 | _=>yD 1 p.kind.toNat++yD 1 0++yD 2 p.body.length++yD 4 p.id.toNat++yD 8 p.gen++yD 4 0
theorem Tryz.idx6_0(a0 a1 a2 a3 a4 a5 a6 a7 a8 a9 a10 a11:Value)(w:World):(Instr.index 400 (.agg #[a0,a1,a2,a3,a4,a5,a6,a7,a8,a9,a10,a11]) (.int .i64 0)).run Tryz.prog w=.ok (.agg #[a0,a1]) w:=by kernel_rfl
theorem Tryz.idx6_1(a0 a1 a2 a3 a4 a5 a6 a7 a8 a9 a10 a11:Value)(w:World):(Instr.index 400 (.agg #[a0,a1,a2,a3,a4,a5,a6,a7,a8,a9,a10,a11]) (.int .i64 1)).run Tryz.prog w=.ok (.agg #[a2,a3]) w:=by kernel_rfl
theorem Tryz.idx6_2(a0 a1 a2 a3 a4 a5 a6 a7 a8 a9 a10 a11:Value)(w:World):(Instr.index 400 (.agg #[a0,a1,a2,a3,a4,a5,a6,a7,a8,a9,a10,a11]) (.int .i64 2)).run Tryz.prog w=.ok (.agg #[a4,a5]) w:=by kernel_rfl
theorem Tryz.idx6_3(a0 a1 a2 a3 a4 a5 a6 a7 a8 a9 a10 a11:Value)(w:World):(Instr.index 400 (.agg #[a0,a1,a2,a3,a4,a5,a6,a7,a8,a9,a10,a11]) (.int .i64 3)).run Tryz.prog w=.ok (.agg #[a6,a7]) w:=by kernel_rfl
theorem Tryz.idx6_4(a0 a1 a2 a3 a4 a5 a6 a7 a8 a9 a10 a11:Value)(w:World):(Instr.index 400 (.agg #[a0,a1,a2,a3,a4,a5,a6,a7,a8,a9,a10,a11]) (.int .i64 4)).run Tryz.prog w=.ok (.agg #[a8,a9]) w:=by kernel_rfl
theorem Tryz.idx6_5(a0 a1 a2 a3 a4 a5 a6 a7 a8 a9 a10 a11:Value)(w:World):(Instr.index 400 (.agg #[a0,a1,a2,a3,a4,a5,a6,a7,a8,a9,a10,a11]) (.int .i64 5)).run Tryz.prog w=.ok (.agg #[a10,a11]) w:=by kernel_rfl
theorem zHe{F:NP}{ad:Nat->Addr}{w:World}(hL:yH F ad w)(p:zY)(bv:Value)(hb:Sl F w 1 zZ bv p.body)(size:Nat)(hg:p.gen<18446744073709551616)(hc:qE p size=none) :
    Calls Tryz.prog 199 #[qC p bv,.int .i64 (size:Int)] w λe w'=>∃a c,e=.returned (.tuple #[.slice a size c,.nilIface])/\yC F w' w.heap.size 5 1 zZ (.slice a size c) (jX p size)/\zF w w':=by
  have HB:Hid (∀w',zF w w'->Sl F w' 1 zZ bv p.body):=oh (λw' m=>hb.ext m)
  have HL:Hid (∀w',zF w w'->yH F ad w'):=oh (λw' m=>hL.mods m.ext)
  have HF:Hid (Bd F w):=oh (λk hk=>hL.lt k hk)
  obtain⟨a,cap,rfl,h1,h2,h3,h4⟩:=hb
  unfold maxLen at h2
  clear h4 hL
  have HC:=oh hc
  obtain⟨c1,c2,c3,c4,c5,c6⟩:=qO hc
  obtain⟨k1,k2⟩:=zGs c3
  clear hc c3
  have HR:Hid (zFb p size=vR p 6++p.body++List.replicate (size-4-(20+p.body.length)) 0):=oh rfl
  have HS:Hid (jX p size=zFb p size++yD 4 (zDB (zFb p size))):=oh rfl
  have Aw:Hid ((zFb p size).length=size-4):=oh (zGr p size (by omega))
  obtain⟨K,hK⟩:∃n:Nat,p.kind=n:=⟨p.kind.toNat,by omega⟩
  obtain⟨I,hI⟩:∃n:Nat,p.id=n:=⟨p.id.toNat,by omega⟩
  have H1:Hid (p.kind.toNat=K):=oh (by omega)
  have H2:Hid (p.id.toNat=I):=oh (by omega)
  rw[hK] at k1 k2
  rw[hI] at c4 c5
  replace c1:256<=size:=by omega
  replace c2:size<=1024:=by omega
  replace c5:I<256:=by omega
  replace c6:p.body.length+24<=size:=by omega
  replace k2:K<6:=by omega
  have HG:=oh hg
  clear k1 c4 hg
  have HP:Hid (∀bv,qC p bv=.agg #[.int .i64 K,.int .i64 I,.int .u64 (p.gen:Int),bv]):=oh (λ_=>by rw[qC,hK,hI])
  clear hK hI
  rw[HP.out]
  go_enter Tryz.func199, Tryz.ntmps199
  go_wp2_with fail
  rw[<- HP.out]
  have m0:zF w (w.alloc (.cells #[.int .i64 K,.int .i64 I,.int .u64 (p.gen:Int),.slice a p.body.length cap] 221)):=(zss w).alloc _
  refine (zGa (HL.out _ m0) p _ (HB.out _ m0) size).mono ?_
  rintro e w1 ⟨ev,rfl,hE,hm⟩
  rw[HC.out] at hE
  cases hE
  have M1:Hid (zF w w1):=oh (m0.trans hm)
  have A9:∀o:Nat,w1.cell? ⟨w.heap.size,o,none⟩=(w.alloc (.cells #[.int .i64 K,.int .i64 I,.int .u64 (p.gen:Int),.slice a p.body.length cap] 221)).cell? ⟨w.heap.size,o,none⟩:=λo=>hm.cell (by simp) (λf=>f)
  have q0:w1.cell? ⟨w.heap.size,0,none⟩=some (.int .i64 K):=by rw[A9,qS (zS rfl)];rfl
  have q1:w1.cell? ⟨w.heap.size,1,none⟩=some (.int .i64 I):=by rw[A9,qS (zS rfl)];rfl
  have q2:w1.cell? ⟨w.heap.size,2,none⟩=some (.int .u64 p.gen):=by rw[A9,qS (zS rfl)];rfl
  have q3:w1.cell? ⟨w.heap.size,3,none⟩=some (.slice a p.body.length cap):=by rw[A9,qS (zS rfl)];rfl
  have Q3:Hid (∀w',zF w1 w'->w'.cell? ⟨w.heap.size,3,none⟩=some (.slice a p.body.length cap)):=oh (λw' m=>(m.cell (uF (by simp) hm.size) (λf=>f)).trans q3)
  clear A9 hm m0
  go_wp2_with fail
  go_loopg [7,37] 6 (λm v7 v37 wr=>∃(k:Nat) (a:Option Addr) (c:Nat),k+m=6/\v7=.slice a (vR p k).length c/\v37=.int .i64 k/\Hid (Sl F wr 1 zZ (.slice a (vR p k).length c) (vR p k)) /\
    Hid (0<k->yC F wr w.heap.size 5 1 zZ (.slice a (vR p k).length c) (vR p k))/\Hid (zF w1 wr))
  case atStart=>exact⟨0,none,0,rfl,rfl,rfl,oh (Sl.nil _ _ _ _),oh (by omega),oh zr⟩
  case round =>
    clear q0 q1 q2 q3
    obtain⟨k,a2,cc2,hk,rfl,rfl,Ac,Bk,Ab⟩:=hrel
    by_cases B7:k<6
    . have Bl:k=0\/k=1\/k=2\/k=3\/k=4\/k=5:=by omega
      obtain⟨m,rfl⟩:∃m,gk=m+1:=⟨gk-1,by omega⟩
      have Ad:Hid (k+(m+1)=6):=oh hk
      clear hk B7
      rcases Bl with rfl|rfl|rfl|rfl|rfl|rfl
      . have A3:(vR p 0).length=0:=by simp[vR]
        have A0:Hid (vR p 0++yD 1 (K)=vR p 1):=oh (by have:=H1.out;simp[vR,this])
        have A1:Hid ((vR p 1).length=0+1):=oh (by simp[vR,zD])
        have ix:=Tryz.idx6_0
        rw[A3] at Ac ⊢
        have A7:=oh A3
        clear A3
        go_wp2_with fail
        have A5:zF w (wr.alloc (.cells #[.int .u64 ((K:Nat):Int),.int .u64 1] 399)):=(M1.out.trans Ab.out).alloc _
        have PA:=zBc (HL.out _ A5) _ (vR p 0) (Ac.out.ext ((zss wr).alloc _)) (K) 1 (by decide) (by have:=HG.out;omega) (by rw[A7.out];decide)
        rw[A0.out,A7.out] at PA
        refine PA.mono ?_
        rintro e w3 ⟨a3,c3,rfl,A6,A2⟩
        have A8:=oh A6
        have Aa:Hid (zF w1 w3):=oh ((Ab.out.alloc _).trans A2)
        have Ae:=oh A5.size
        clear A6 A2 A5 PA
        go_wp2_with fail
        go_roundg m
        case measure=>omega
        case rel=>exact⟨1,a3,c3,by have:=Ad.out;omega,by rw[A1.out],by go_num,oh (by rw[A1.out];exact A8.out.sl (λ_=>rfl) (by rw[A1.out];decide)),oh (λ_=>by rw[A1.out];exact A8.out.rebase Ae.out),Aa⟩
      . have A3:(vR p 1).length=1:=by simp[vR,zD]
        have A0:Hid (vR p 1++yD 1 (0)=vR p 2):=oh (by  simp[vR])
        have A1:Hid ((vR p 2).length=1+1):=oh (by simp[vR,zD])
        have ix:=Tryz.idx6_1
        rw[A3] at Ac ⊢
        have A7:=oh A3
        clear A3
        go_wp2_with fail
        have A5:zF w (wr.alloc (.cells #[.int .u64 ((0:Nat):Int),.int .u64 1] 399)):=(M1.out.trans Ab.out).alloc _
        have PA:=zBc (HL.out _ A5) _ (vR p 1) (Ac.out.ext ((zss wr).alloc _)) (0) 1 (by decide) (by have:=HG.out;omega) (by rw[A7.out];decide)
        rw[A0.out,A7.out] at PA
        refine PA.mono ?_
        rintro e w3 ⟨a3,c3,rfl,A6,A2⟩
        have A8:=oh A6
        have Aa:Hid (zF w1 w3):=oh ((Ab.out.alloc _).trans A2)
        have Ae:=oh A5.size
        clear A6 A2 A5 PA
        go_wp2_with fail
        go_roundg m
        case measure=>omega
        case rel=>exact⟨2,a3,c3,by have:=Ad.out;omega,by rw[A1.out],by go_num,oh (by rw[A1.out];exact A8.out.sl (λ_=>rfl) (by rw[A1.out];decide)),oh (λ_=>by rw[A1.out];exact A8.out.rebase Ae.out),Aa⟩
      . have A3:(vR p 2).length=2:=by simp[vR,zD]
        have A0:Hid (vR p 2++yD 2 (p.body.length)=vR p 3):=oh (by  simp[vR])
        have A1:Hid ((vR p 3).length=2+2):=oh (by simp[vR,zD])
        have ix:=Tryz.idx6_2
        rw[A3] at Ac ⊢
        have A7:=oh A3
        clear A3
        go_wp2_with fail
        have A5:zF w (wr.alloc (.cells #[.int .u64 ((p.body.length:Nat):Int),.int .u64 2] 399)):=(M1.out.trans Ab.out).alloc _
        have PA:=zBc (HL.out _ A5) _ (vR p 2) (Ac.out.ext ((zss wr).alloc _)) (p.body.length) 2 (by decide) (by have:=HG.out;omega) (by rw[A7.out];decide)
        rw[A0.out,A7.out] at PA
        refine PA.mono ?_
        rintro e w3 ⟨a3,c3,rfl,A6,A2⟩
        have A8:=oh A6
        have Aa:Hid (zF w1 w3):=oh ((Ab.out.alloc _).trans A2)
        have Ae:=oh A5.size
        clear A6 A2 A5 PA
        go_wp2_with fail
        go_roundg m
        case measure=>omega
        case rel=>exact⟨3,a3,c3,by have:=Ad.out;omega,by rw[A1.out],by go_num,oh (by rw[A1.out];exact A8.out.sl (λ_=>rfl) (by rw[A1.out];decide)),oh (λ_=>by rw[A1.out];exact A8.out.rebase Ae.out),Aa⟩
      . have A3:(vR p 3).length=4:=by simp[vR,zD]
        have A0:Hid (vR p 3++yD 4 (I)=vR p 4):=oh (by have:=H2.out;simp[vR,this])
        have A1:Hid ((vR p 4).length=4+4):=oh (by simp[vR,zD])
        have ix:=Tryz.idx6_3
        rw[A3] at Ac ⊢
        have A7:=oh A3
        clear A3
        go_wp2_with fail
        have A5:zF w (wr.alloc (.cells #[.int .u64 ((I:Nat):Int),.int .u64 4] 399)):=(M1.out.trans Ab.out).alloc _
        have PA:=zBc (HL.out _ A5) _ (vR p 3) (Ac.out.ext ((zss wr).alloc _)) (I) 4 (by decide) (by have:=HG.out;omega) (by rw[A7.out];decide)
        rw[A0.out,A7.out] at PA
        refine PA.mono ?_
        rintro e w3 ⟨a3,c3,rfl,A6,A2⟩
        have A8:=oh A6
        have Aa:Hid (zF w1 w3):=oh ((Ab.out.alloc _).trans A2)
        have Ae:=oh A5.size
        clear A6 A2 A5 PA
        go_wp2_with fail
        go_roundg m
        case measure=>omega
        case rel=>exact⟨4,a3,c3,by have:=Ad.out;omega,by rw[A1.out],by go_num,oh (by rw[A1.out];exact A8.out.sl (λ_=>rfl) (by rw[A1.out];decide)),oh (λ_=>by rw[A1.out];exact A8.out.rebase Ae.out),Aa⟩
      . have A3:(vR p 4).length=8:=by simp[vR,zD]
        have A0:Hid (vR p 4++yD 8 (p.gen)=vR p 5):=oh (by  simp[vR])
        have A1:Hid ((vR p 5).length=8+8):=oh (by simp[vR,zD])
        have ix:=Tryz.idx6_4
        rw[A3] at Ac ⊢
        have A7:=oh A3
        clear A3
        go_wp2_with fail
        have A5:zF w (wr.alloc (.cells #[.int .u64 ((p.gen:Nat):Int),.int .u64 8] 399)):=(M1.out.trans Ab.out).alloc _
        have PA:=zBc (HL.out _ A5) _ (vR p 4) (Ac.out.ext ((zss wr).alloc _)) (p.gen) 8 (by decide) (by have:=HG.out;omega) (by rw[A7.out];decide)
        rw[A0.out,A7.out] at PA
        refine PA.mono ?_
        rintro e w3 ⟨a3,c3,rfl,A6,A2⟩
        have A8:=oh A6
        have Aa:Hid (zF w1 w3):=oh ((Ab.out.alloc _).trans A2)
        have Ae:=oh A5.size
        clear A6 A2 A5 PA
        go_wp2_with fail
        go_roundg m
        case measure=>omega
        case rel=>exact⟨5,a3,c3,by have:=Ad.out;omega,by rw[A1.out],by go_num,oh (by rw[A1.out];exact A8.out.sl (λ_=>rfl) (by rw[A1.out];decide)),oh (λ_=>by rw[A1.out];exact A8.out.rebase Ae.out),Aa⟩
      . have A3:(vR p 5).length=16:=by simp[vR,zD]
        have A0:Hid (vR p 5++yD 4 (0)=vR p 6):=oh (by  simp[vR])
        have A1:Hid ((vR p 6).length=16+4):=oh (by simp[vR,zD])
        have ix:=Tryz.idx6_5
        rw[A3] at Ac ⊢
        have A7:=oh A3
        clear A3
        go_wp2_with fail
        have A5:zF w (wr.alloc (.cells #[.int .u64 ((0:Nat):Int),.int .u64 4] 399)):=(M1.out.trans Ab.out).alloc _
        have PA:=zBc (HL.out _ A5) _ (vR p 5) (Ac.out.ext ((zss wr).alloc _)) (0) 4 (by decide) (by have:=HG.out;omega) (by rw[A7.out];decide)
        rw[A0.out,A7.out] at PA
        refine PA.mono ?_
        rintro e w3 ⟨a3,c3,rfl,A6,A2⟩
        have A8:=oh A6
        have Aa:Hid (zF w1 w3):=oh ((Ab.out.alloc _).trans A2)
        have Ae:=oh A5.size
        clear A6 A2 A5 PA
        go_wp2_with fail
        go_roundg m
        case measure=>omega
        case rel=>exact⟨6,a3,c3,by have:=Ad.out;omega,by rw[A1.out],by go_num,oh (by rw[A1.out];exact A8.out.sl (λ_=>rfl) (by rw[A1.out];decide)),oh (λ_=>by rw[A1.out];exact A8.out.rebase Ae.out),Aa⟩
    . obtain rfl:k=6:=by omega
      have A3:(vR p 6).length=20:=by simp[vR,zD]
      have HO:=oh (Bk.out (by decide))
      have q3:=Q3.out _ Ab.out
      have M2:=oh (M1.out.trans Ab.out)
      have zz:=M2.out.size
      rw[A3] at HO ⊢
      have A7:=oh A3
      clear A3
      clear hk B7
      go_wp2_with (first
        | (at_builtin; refine zCS Tryz.elB jN rfl (.tmp 55) (.tmp 57) rfl w.heap.size _ _ (vR p 6) p.body rfl rfl HO.out (HB.out _ M2.out) (by have := A7.out; omega) zz (HF.out.mods M2.out) ?_
           rw [A7.out]; intro a3 c3 w3 A6 A2
           have A8 := oh A6
           have Aa : Hid (zF w w3) := oh (zA.past M2.out A2)
           have Bm : Hid ((vR p 6 ++ p.body).length = 20 + p.body.length) := oh (by rw [uC, A7.out])
           clear A6 A2)
        | (at_builtin; refine zI8 Tryz.elB jN (0 : UInt8) rfl rfl .i64 Tryz.underlying3 rfl (.tmp 59) (.tmp 64) rfl w.heap.size _ _ _ (size - 4 - (20 + p.body.length)) _ (vR p 6 ++ p.body) rfl rfl Bm.out.symm (by omega) (by omega) A8.out (by omega) Aa.out.size (HF.out.mods Aa.out) ?_
           intro a4 c4 w4 Ao Af
           have B8 : 20 + p.body.length + (size - 4 - (20 + p.body.length)) = size - 4 := by omega
           rw [B8] at Ao ⊢
           rw [<- HR.out] at Ao
           have Bu := oh Ao
           have Ax : Hid (zF w w4) := oh (zA.past Aa.out Af)
           have B9 := oh (Ao.sl (fun _ => rfl) (by rw [Aw.out]; omega))
           clear Ao Af B8))
      go_wp2_with fail
      refine (zRV _ (zFb p size) _ B9.out).mono ?_
      have Bn:=zOV (zFb p size)
      obtain⟨cs,Ba⟩:∃cs,cs=zDB (zFb p size):=⟨_,rfl⟩
      rw[<- Ba] at Bn HS ⊢
      clear Ba
      rintro e w5 ⟨rfl,rfl⟩
      go_wp2_with fail
      have PA:=zBc (HL.out _ Ax.out) _ (zFb p size) B9.out cs 4 (by decide) (by omega) (by rw[Aw.out];omega)
      rw[Aw.out,<- HS.out,show size-4+4=size by omega] at PA
      refine PA.mono ?_
      rintro e w6 ⟨a6,c6,rfl,Bb,Ad⟩
      have Bo:=oh (Bb.rebase Ax.out.size)
      have Ay:Hid (zF w w6):=oh (Ax.out.trans Ad)
      clear Bb Ad PA
      go_wp2_with fail
      refine (wrap_nil _ _).mono ?_
      rintro e w7 ⟨rfl,rfl⟩
      go_wp2_with fail
      go_ret2
      exact⟨a6,c6,rfl,Bo.out,Ay.out⟩
theorem Sl.sub{α:Type}{F:NP}{w:World}{sz:Nat}{enc:α->List Value}{b off n c:Nat}{l:List α}(h:Sl F w sz enc (.slice (some ⟨b,off,none⟩) n c) l)(i j:Nat)(Bv:i<=j)(hj:j<=n) :
  Sl F w sz enc (.slice (some ⟨b,off+i * sz,none⟩) (j-i) (c-i)) ((l.drop i).take (j-i)):=by
 obtain⟨a,cap,he,h1,h2,h3,h4⟩:=h;simp only[Value.slice.injEq] at he;obtain⟨rfl,rfl,rfl⟩:=he;have A4:((l.drop i).take (j-i)).length=j-i:=by simp;omega
 refine⟨some ⟨b,off+i * sz,none⟩,c-i,by rw[A4],by rw[A4];omega,by omega,by rw[A4];omega,?_⟩;rcases h4 with h4|⟨b',off',Bc,hb,hF,hc⟩
 .left;simp[h4]
 .simp only[Option.some.injEq,Addr.mk.injEq,and_true] at Bc;obtain⟨rfl,rfl⟩:=Bc;refine .inr ⟨b,off+i * sz,rfl,hb,hF,λk x hk q u hu=>?_⟩;have Bp:k<j-i:=by
   have:=(uA.1 hk).1;rwa [A4] at this
  rw[List.getElem?_take_of_lt Bp,rD] at hk;have:=hc (i+k) x hk q u hu;rw[<- this];congr 2
  rw[pF];omega
theorem zD5(l:List UInt8)(i W:Nat)(h:i+W<=l.length):vC l (i:Int) W=(qK l i W,none):=by
 unfold vC qK;rw[if_neg (by omega),if_neg (by omega),uH]
theorem Tryz.pageSize:(Tryz.prog.info? 221).map (·.size)=some 4:=by kernel_rfl
theorem zD6{F:NP}{ad:Nat->Addr}{w:World}(hL:yH F ad w)(bv:Value)(l:List UInt8)(hb:Sl F w 1 zZ bv l)(i W n:Nat)(hw:W=1\/W=2\/W=4\/W=8)(hT:vC l (i:Int) W=(n,none)) :
  Calls Tryz.prog 222 #[bv,.int .i64 (i:Int),.int .i64 (W:Int)] w λe w'=>e=.returned (.tuple #[.int .u64 (n:Int),.nilIface])/\zF w w':=by
 refine (zF4 hL bv l hb i W hw).mono ?_;rintro e w' ⟨ev,rfl,hE,hm⟩;rw[hT] at hE;cases hE
 exact⟨by rw[hT],hm⟩
theorem zQE{F:NP}{ad:Nat->Addr}{w:World}(hL:yH F ad w)(bv:Value)(l:List UInt8)(hb:Sl F w 1 zZ bv l)(h1:256<=l.length)(h2:l.length<=1024) :
  Calls Tryz.prog 304 #[bv] w λe w'=>∃pv,e=.returned (qC (zBg l) pv)/\Sl F w' 1 zZ pv (zBg l).body/\zF w w':=by
 have HB:Hid (∀w',zF w w'->Sl F w' 1 zZ bv l):=oh (λw' m=>hb.ext m);have HL:Hid (∀w',zF w w'->yH F ad w'):=oh (λw' m=>hL.mods m.ext);have HF:Hid (Bd F w):=oh (λk hk=>hL.lt k hk);have T0:=oh (zD5 l 0 1 (by omega));have T2:=oh (zD5 l 2 2 (by omega));have T4:=oh (zD5 l 4 4 (by omega));have T8:=oh (zD5 l 8 8 (by omega));have L0:=zDE l 0 1;have L2:=zDE l 2 2;have L4:=zDE l 4 4;have L8:=zDE l 8 8;obtain⟨n0,Az⟩:∃n,n=qK l 0 1:=⟨_,rfl⟩;obtain⟨n2,B0⟩:∃n,n=qK l 2 2:=⟨_,rfl⟩;obtain⟨n4,B1⟩:∃n,n=qK l 4 4:=⟨_,rfl⟩;obtain⟨n8,B2⟩:∃n,n=qK l 8 8:=⟨_,rfl⟩;have HP:Hid (zBg l=⟨(n0:Nat),(n4:Nat),n8,if n2<=l.length-24 then (l.drop 20).take n2 else []⟩):=oh (by rw[Az,B0,B1,B2];rfl);rw[<- Az] at T0 L0;rw[<- B0] at T2 L2;rw[<- B1] at T4 L4;rw[<- B2] at T8 L8;replace L0:n0<256:=L0
 replace L2:n2<65536:=L2
 replace L4:n4<4294967296:=L4
 replace L8:n8<18446744073709551616:=L8
 clear Az B0 B1 B2;obtain⟨a,cap,rfl,i1,i2,i3,i4⟩:=hb;unfold maxLen at i2;have B3:l≠[]:=by intro h;rw[h] at h1;simp at h1
 obtain⟨b,off,rfl,Bw,hF,_⟩:∃b off,a=some ⟨b,off,none⟩/\b<w.heap.size/\¬ F b/\True:=by
  rcases i4 with h|⟨b,off,h,hh,hF,_⟩
  .exact absurd h B3
  .exact⟨b,off,h,hh,hF,trivial⟩
 clear i4 B3 hL
 go_enter Tryz.func304, Tryz.ntmps304
 go_wp2_with fail;have m0:zF w (w.alloc gE):=(zss w).alloc _;have RB:Hid (∀w',zF (w.alloc gE) w'->zG w' w.heap.size gE 221):=oh (λw' m=>(zG.new w _ _).ext m);refine (zD6 (HL.out _ m0) _ l (HB.out _ m0) 0 1 n0 (by decide) T0.out).mono ?_;rintro e w1 ⟨rfl,hm⟩;have M1:=oh (m0.trans hm);have M5:=oh hm;clear m0 hm;go_wp2_with fail;refine (zD6 (HL.out _ M1.out) _ l (HB.out _ M1.out) 2 2 n2 (by decide) T2.out).mono ?_;rintro e w2 ⟨rfl,hm⟩;have M2:=oh (M1.out.trans hm);have M5:=oh (M5.out.trans hm);clear hm;go_wp2_with fail;refine (zD6 (HL.out _ M2.out) _ l (HB.out _ M2.out) 4 4 n4 (by decide) T4.out).mono ?_;rintro e w3 ⟨rfl,hm⟩;have M3:=oh (M2.out.trans hm);have M5:=oh (M5.out.trans hm);clear hm;go_wp2_with fail;refine (zD6 (HL.out _ M3.out) _ l (HB.out _ M3.out) 8 8 n8 (by decide) T8.out).mono ?_;rintro e w4 ⟨rfl,hm⟩;have M4:=oh (M3.out.trans hm);have M5:=oh (M5.out.trans hm);clear hm;have Bx:w.heap.size<w4.heap.size:=uF (by simp) M5.out.size;have rb:=RB.out w4 M5.out;have r0:=rb.k 0 rfl;have r1:=rb.k 1 rfl;have r2:=rb.k 2 rfl;have r3:=rb.k 3 rfl;have rf:=rb.frozen;clear rb;by_cases hc:n2+24<=l.length
 .have Ap:Hid (zBg l=⟨(n0:Nat),(n4:Nat),n8,(l.drop 20).take n2⟩):=oh (by rw[HP.out,if_pos (by omega)]);go_wp2_with fail;have B4:=(HB.out _ (M4.out.alloc (.cells #[.int .i64 n0,.int .i64 n4,.int .u64 n8,.slice none 0 0] 221))).sub 20 (20+n2) (by omega) (by omega);simp only[wC,Nat.add_sub_cancel_left] at B4;have PA:=zOh (HF.out.mods (M4.out.alloc (.cells #[.int .i64 n0,.int .i64 n4,.int .u64 n8,.slice none 0 0] 221))) _ _ B4;refine PA.mono ?_;rintro e w5 ⟨a5,c5,rfl,At,Ak⟩;have A4:((l.drop 20).take n2).length=n2:=by simp;omega
  rw[A4] at At ⊢;have mG:=zA.set4 ((zA.refl (λk=>k=w4.heap.size\/k=w.heap.size) w5).setCell (p:=⟨w4.heap.size,3,none⟩) (.inr (.inl rfl)) (.slice a5 n2 c5)) (R:=w.heap.size) (.inr (.inr rfl)) (.int .i64 n0) (.int .i64 n4) (.int .u64 n8) (.slice a5 n2 c5);have Be:=(At.mods mG (λg hg h=>by have h9:=(At.lt g hg).1;simp at h9;omega)).sl (λ_=>rfl) (by rw[A4];omega);have M6:=oh ((M4.out.alloc (.cells #[.int .i64 n0,.int .i64 n4,.int .u64 n8,.slice none 0 0] 221)).trans Ak);have Ai:=(RB.out w4 M5.out).alloc (.cells #[.int .i64 n0,.int .i64 n4,.int .u64 n8,.slice none 0 0] 221) |>.ext Ak
  have Al:=(zG.new w4 #[.int .i64 n0,.int .i64 n4,.int .u64 n8,.slice none 0 0] 221).ext Ak;have s0:=Ai.k 0 rfl;have s1:=Ai.k 1 rfl;have s2:=Ai.k 2 rfl;have s3:=Ai.k 3 rfl;have sf:=Ai.frozen;have t0:=Al.k 0 rfl;have t1:=Al.k 1 rfl;have t2:=Al.k 2 rfl;have t3:=Al.k 3 rfl;have tf:=Al.frozen;have B3:w4.heap.size≠w.heap.size:=by omega
  have B5:w.heap.size≠w4.heap.size:=by omega
  have Au:=zG.set4 (Ai.set_other (p:=⟨w4.heap.size,3,none⟩) B5 (.slice a5 n2 c5)) (.int .i64 n0) (.int .i64 n4) (.int .u64 n8) (.slice a5 n2 c5);have Ad:=zA.set4 (M6.out.setCell (p:=⟨w4.heap.size,3,none⟩) (.inl (by show w.heap.size<=w4.heap.size;omega)) (.slice a5 n2 c5)) (.inl (uD w.heap.size)) (.int .i64 n0) (.int .i64 n4) (.int .u64 n8) (.slice a5 n2 c5);have Ah:=oh Au;have Ay:=oh Ad;have Aq:=oh Be;clear Au Ad Be At mG Ai Al Ak r0 r1 r2 r3 rf B4 PA A4;go_wp2_with fail;refine bodyPost_ret (results_cell_row rfl _ _ w.heap.size 221 #[.int .i64 n0,.int .i64 n4,.int .u64 n8,.slice a5 n2 c5] (0,0) _ rfl Ah.out Tryz.underlying221 rfl Tryz.pageSize) rfl ?_;exact⟨.slice a5 n2 c5,by rw[Ap.out];rfl,by rw[Ap.out];exact Aq.out,Ay.out⟩
 .have Ap:Hid (zBg l=⟨(n0:Nat),(n4:Nat),n8,[]⟩):=oh (by rw[HP.out,if_neg (by omega)]);have By:l.length<n2+24:=by omega
  clear hc;go_wp2_with fail;have Au:=(zG.set4 (RB.out w4 M5.out) (.int .i64 n0) (.int .i64 n4) (.int .u64 n8) (.slice none 0 0)).alloc (.cells #[.int .i64 n0,.int .i64 n4,.int .u64 n8,.slice none 0 0] 221);have Ak:=(zA.set4 M4.out (.inl (uD w.heap.size)) (.int .i64 n0) (.int .i64 n4) (.int .u64 n8) (.slice none 0 0)).alloc (.cells #[.int .i64 n0,.int .i64 n4,.int .u64 n8,.slice none 0 0] 221);refine bodyPost_ret (results_cell_row rfl _ _ w.heap.size 221 #[.int .i64 n0,.int .i64 n4,.int .u64 n8,.slice none 0 0] (0,0) _ rfl Au Tryz.underlying221 rfl Tryz.pageSize) rfl ?_;exact⟨.slice none 0 0,by rw[Ap.out];rfl,by rw[Ap.out];exact Sl.nil _ _ _ _,Ak⟩
theorem zQF{F:NP}{ad:Nat->Addr}{w:World}(hL:yH F ad w)(p:zY)(bv:Value)(hb:Sl F w 1 zZ bv p.body)(size:Nat)(er:List Int × Nat)(hc:qE p size=some er) :
  Calls Tryz.prog 199 #[qC p bv,.int .i64 (size:Int)] w λe w'=>∃ev,e=.returned (.tuple #[.slice none 0 0,ev])/\zAb F ad w' ev (some (-1 :: er.1,er.2))/\zF w w':=by
 have HB:Hid (∀w',zF w w'->Sl F w' 1 zZ bv p.body):=oh (λw' m=>hb.ext m);have HL:Hid (∀w',zF w w'->yH F ad w'):=oh (λw' m=>hL.mods m.ext);have HC:=oh hc;clear hb hL hc;have HP:Hid (∀bv,qC p bv=.agg #[.int .i64 p.kind,.int .i64 p.id,.int .u64 (p.gen:Int),bv]):=oh (λ_=>rfl);rw[HP.out]
 go_enter Tryz.func199, Tryz.ntmps199
 go_wp2_with fail;rw[<- HP.out];have m0:zF w (w.alloc (.cells #[.int .i64 p.kind,.int .i64 p.id,.int .u64 (p.gen:Int),bv] 221)):=(zss w).alloc _;refine (zGa (HL.out _ m0) p _ (HB.out _ m0) size).mono ?_;rintro e w1 ⟨ev,rfl,hE,hm⟩;rw[HC.out] at hE;obtain⟨f,rfl,hE⟩:=hE;have HE:=oh hE;have M1:=oh (m0.trans hm);clear hE hm m0;go_wp2_with fail;refine (wrap_any (HL.out _ M1.out) _ _ _ _ HE.out).mono ?_;rintro e w2 ⟨f2,rfl,Bf,hm⟩;have Bq:=oh Bf;clear Bf;go_wp2_with fail;go_ret2
 exact⟨_,rfl,⟨f2,rfl,Bq.out⟩,M1.out.trans hm⟩
theorem zQG{F:NP}{ad:Nat->Addr}{w:World}(hL:yH F ad w)(bv:Value)(l:List UInt8)(hb:Sl F w 1 zZ bv l)(h1:256<=l.length)(h2:l.length<=1024) :
    Calls Tryz.prog 243 #[bv] w λe w'=>zF w w' /\
      ((zBq l = true /\ ∃ pv, e = .returned (.tuple #[qC (zBg l) pv, .nilIface]) /\ Sl F w' 1 zZ pv (zBg l).body) \/
       (zBq l=false/\∃f,e=.returned (.tuple #[qC ⟨0,0,0,[]⟩ (.slice none 0 0),zP f])/\vN F ad w' (zP f) [zFc l] 5)):=by
  have HB:Hid (∀w',zF (w.alloc gE) w'->Sl (qB F w.heap.size) w' 1 zZ bv l):=oh (λw' m=>hb.withR (((zss w).alloc _).trans m))
  have HL:Hid (∀w',zF (w.alloc gE) w'->yH (qB F w.heap.size) ad w'):=oh (λw' m=>hL.withR (((zss w).alloc _).trans m) (uF (by simp) m.size))
  obtain⟨a,cap,rfl,i1,i2,i3,i4⟩:=hb
  unfold maxLen at i2
  clear i4
  have hz:zAn (l.length:Int)=true:=by simp[zAn];omega
  have z5 : 2 < w.heap.size:=uF (by decide) hL.size
  have G5:Hid (∀w',zF w w'->w'.cell? ⟨2,0,none⟩=some (.iface 448 (.pointer (some (ad 5))))):=oh (λw' m=>(hL.mods m.ext).c5)
  clear hL
  go_enter Tryz.func243, Tryz.ntmps243
  go_wp2_with fail
  refine (zCG _ _).mono ?_
  rintro e w1 ⟨rfl,rfl⟩
  go_wp2_with fail
  have m0:zF w (w.alloc gE):=(zss w).alloc _
  have RB:Hid (∀w',zF (w.alloc gE) w'->zG w' w.heap.size gE 221):=oh (λw' m=>(zG.new w _ _).ext m)
  have M0:Hid (zF w (w.alloc gE)):=oh m0
  refine (zQE (HL.out _ zr) _ l (HB.out _ zr) h1 h2).mono ?_
  rintro e w1 ⟨pv,rfl,hS,hm⟩
  obtain⟨p,hp⟩:∃p,p=zBg l:=⟨_,rfl⟩
  have Ag:=oh hp
  rw[<- hp] at hS ⊢
  obtain⟨K,hK⟩:∃n,n=p.kind:=⟨_,rfl⟩
  obtain⟨I,hI⟩:∃n,n=p.id:=⟨_,rfl⟩
  obtain⟨G,hG⟩:∃n,n=p.gen:=⟨_,rfl⟩
  have HP:Hid (∀bv,qC p bv=.agg #[.int .i64 K,.int .i64 I,.int .u64 (G:Int),bv]):=oh (λ_=>by rw[hK,hI,hG];rfl)
  have HI:=oh hI
  have HG:=oh (show p.gen<18446744073709551616 by rw[hp];exact zE6 l)
  clear hK hI hG hp
  have M1:=oh hm
  have HS:Hid (∀w',zF w1 w'->Sl (qB F w.heap.size) w' 1 zZ pv p.body):=oh (λw' m=>hS.ext m)
  obtain⟨a2,cc2,rfl,_⟩:=hS
  clear m0 hm
  rw[HP.out]
  go_wp2_with fail
  rw[<- HP.out]
  have M2:=oh (M1.out.alloc (.cells #[.int .i64 K,.int .i64 I,.int .u64 (G:Int),.slice a2 p.body.length cc2] 221))
  have PB:Hid (∀w',zF (w1.alloc (.cells #[.int .i64 K,.int .i64 I,.int .u64 (G:Int),.slice a2 p.body.length cc2] 221)) w'->zG w' w1.heap.size #[.int .i64 K,.int .i64 I,.int .u64 (G:Int),.slice a2 p.body.length cc2] 221):=oh (λw' m=>(zG.new w1 _ _).ext m)
  have Ar:w.heap.size<w1.heap.size:=uF (by simp) M1.out.size
  rcases hc:qE p (l.length:Int) with _|er
  focus
    have Bg:=HG.out
    refine (zHe (HL.out _ M2.out) p _ (HS.out _ ((zss w1).alloc _)) l.length Bg hc).mono ?_
    rintro e w2 ⟨a3,c3,rfl,A6,hm⟩
    have A4:=zAE p l.length (by have:=(qO hc).2.2.2.2.2;omega)
    have Bh:=oh (A6.sl (λ_=>rfl) (by rw[A4];omega))
    have M3:=oh (M2.out.trans hm)
    have pb:=PB.out w2 hm
    have p0:=pb.k 0 rfl
    have p1:=pb.k 1 rfl
    have p2:=pb.k 2 rfl
    have p3:=pb.k 3 rfl
    have g5:=G5.out w2 (M0.out.trans M3.out)
    have PBE:Hid (∀w',zF w2 w'->zF (w1.alloc (.cells #[.int .i64 K,.int .i64 I,.int .u64 (G:Int),.slice a2 p.body.length cc2] 221)) w'):=oh (λw' m=>hm.trans m)
    clear A6 hm pb Bg
    by_cases Am:jX p l.length=l
    . have HO:Hid (zBq l=true):=oh (by unfold zBq;rw[<- Ag.out,hc];simp[Am])
      have HQ:Hid (decide (jX p l.length=l)=true):=oh (by simp[Am])
      clear hc Am A4
      go_wp2_with fail
      refine (zDJ _ _ (jX p l.length) l Bh.out (HB.out _ M3.out)).mono ?_
      rintro e w4 ⟨rfl,Af⟩
      rw[HQ.out]
      have M4:=oh (M3.out.trans Af)
      have pb:=PB.out w4 (PBE.out _ Af)
      have q0:=pb.k 0 rfl
      have q1:=pb.k 1 rfl
      have q2:=pb.k 2 rfl
      have q3:=pb.k 3 rfl
      have rb:=RB.out w4 M4.out
      have r0:=rb.k 0 rfl
      have r1:=rb.k 1 rfl
      have r2:=rb.k 2 rfl
      have r3:=rb.k 3 rfl
      have rf:=rb.frozen
      have Ah:=oh (zG.set4 rb (.int .i64 K) (.int .i64 I) (.int .u64 (G:Int)) (.slice a2 p.body.length cc2))
      have Aj:=oh (zA.set4 (M0.out.trans M4.out) (.inl (uD w.heap.size)) (.int .i64 K) (.int .i64 I) (.int .u64 (G:Int)) (.slice a2 p.body.length cc2))
      have Aq:=oh ((HS.out w4 (by have:=PBE.out _ Af;exact ((zss w1).alloc _).trans this)).unR (zA.set4 (zss w4) (R:=w.heap.size) (.inr (.inr rfl)) (.int .i64 K) (.int .i64 I) (.int .u64 (G:Int)) (.slice a2 p.body.length cc2)))
      clear rb pb Af p0 p1 p2 p3
      go_wp2_with fail
      refine bodyPost_ret (zC rfl _ _ w.heap.size 221 #[.int .i64 K,.int .i64 I,.int .u64 (G:Int),.slice a2 p.body.length cc2] _ rfl Ah.out Tryz.underlying221 rfl Tryz.pageSize) rfl ?_
      exact⟨Aj.out,.inl ⟨HO.out,.slice a2 p.body.length cc2,by rw[<- Ag.out,HP.out];rfl,by rw[<- Ag.out];exact Aq.out⟩⟩
    have HO:Hid (zBq l=false):=oh (by unfold zBq;rw[<- Ag.out,hc];simp[Am])
    have HQ:Hid (decide (jX p l.length=l)=false):=oh (by simp[Am])
    clear hc Am A4
    go_wp2_with fail
    refine (zDJ _ _ (jX p l.length) l Bh.out (HB.out _ M3.out)).mono ?_
    rintro e w4 ⟨rfl,Af⟩
    rw[HQ.out]
    have M3:=oh (M3.out.trans Af)
    have pb:=PB.out w4 (PBE.out _ Af)
    have q1:=pb.k 1 rfl
    have g5:=G5.out w4 (M0.out.trans M3.out)
    clear pb Af p0 p1 p2 p3
  rotate_left
  focus
    have HO:Hid (zBq l=false):=oh (by unfold zBq;rw[<- Ag.out,hc];simp)
    refine (zQF (HL.out _ M2.out) p _ (HS.out _ ((zss w1).alloc _)) l.length er hc).mono ?_
    rintro e w2 ⟨ev,rfl,⟨f,rfl,hE⟩,hm⟩
    have M3:=oh (M2.out.trans hm)
    have pb:=PB.out w2 hm
    have p1:=pb.k 1 rfl
    have g5:=G5.out w2 (M0.out.trans M3.out)
    clear hE hm hc pb
  all_goals
    by_cases hI:256<=I
    focus
      have Bi:Hid (zFc l = -1):=oh (by unfold zFc;rw[<- Ag.out,<- HI.out,if_pos hI])
    rotate_left
    focus
      have Bz:I<256:=by omega
      have Bi:Hid (zFc l=I):=oh (by unfold zFc;rw[<- Ag.out,<- HI.out,if_neg hI])
      have Br:Hid (zBz I=I):=oh (by have:=(zPr l).1;rw[<- Ag.out,<- HI.out] at this;unfold zBz;rw[if_neg (by omega)])
      clear hI
    all_goals
      go_wp2_with fail
      refine (zAF (HL.out _ M3.out) _ _ _ _ 5 (.sent 5 (by decide) (by decide))).mono ?_
      rintro e w3 ⟨f3,rfl,As,A2⟩
      have rb:=RB.out w3 (M3.out.trans A2)
      have r0:=rb.k 0 rfl
      have r1:=rb.k 1 rfl
      have r2:=rb.k 2 rfl
      have r3:=rb.k 3 rfl
      have rf:=rb.frozen
      have Ah:=oh (zG.set4 rb (.int .i64 0) (.int .i64 0) (.int .u64 0) (.slice none 0 0))
      have Aj:=oh (zA.set4 ((M0.out.trans M3.out).trans A2) (.inl (uD w.heap.size)) (.int .i64 0) (.int .i64 0) (.int .u64 0) (.slice none 0 0))
      have Av:=oh (As.unR (zA.set4 (zss w3) (R:=w.heap.size) (.inr (.inr rfl)) (.int .i64 0) (.int .i64 0) (.int .u64 0) (.slice none 0 0)))
      clear rb As A2
      go_wp2_with fail
      refine bodyPost_ret (zC rfl _ _ w.heap.size 221 gE _ rfl Ah.out Tryz.underlying221 rfl Tryz.pageSize) rfl ?_
      exact⟨Aj.out,.inr ⟨HO.out,f3,rfl,by rw[Bi.out];first|exact Av.out|exact (by have:=Av.out;rw[Br.out] at this;exact this)⟩⟩
theorem zDL{F:NP}{ad:Nat->Addr}{w:World}(hL:yH F ad w)(bv:Value)(l:List UInt8)(hb:Sl F w 1 zZ bv l)(h1:256<=l.length)(h2:l.length<=1024)(id:Int) :
    Calls Tryz.prog 160 #[bv,.int .i64 id] w λe w'=>zF w w' /\
      ((∃ p pv, zV l id = .inl p /\ e = .returned (.tuple #[qC p pv, .nilIface]) /\ Sl F w' 1 zZ pv p.body) \/
       (∃pg k f,zV l id=.inr (pg,k)/\e=.returned (.tuple #[qC ⟨0,0,0,[]⟩ (.slice none 0 0),zP f])/\vN F ad w' (zP f) pg k)):=by
  have HB:Hid (∀w',zF (w.alloc gE) w'->Sl (qB F w.heap.size) w' 1 zZ bv l):=oh (λw' m=>hb.withR (((zss w).alloc _).trans m))
  have HL:Hid (∀w',zF (w.alloc gE) w'->yH (qB F w.heap.size) ad w'):=oh (λw' m=>hL.withR (((zss w).alloc _).trans m) (uF (by simp) m.size))
  obtain⟨a,cap,rfl,i1,i2,i3,i4⟩:=hb
  unfold maxLen at i2
  clear i4
  have z5 : 2 < w.heap.size:=uF (by decide) hL.size
  have G5:Hid (∀w',zF w w'->w'.cell? ⟨2,0,none⟩=some (.iface 448 (.pointer (some (ad 5))))):=oh (λw' m=>(hL.mods m.ext).c5)
  clear hL
  have m0:zF w (w.alloc gE):=(zss w).alloc _
  have RB:Hid (∀w',zF (w.alloc gE) w'->zG w' w.heap.size gE 221):=oh (λw' m=>(zG.new w _ _).ext m)
  have M0:Hid (zF w (w.alloc gE)):=oh m0
  clear m0
  go_enter Tryz.func160, Tryz.ntmps160
  go_wp2_with fail
  refine (zQG (HL.out _ zr) _ l (HB.out _ zr) h1 h2).mono ?_
  rintro e w1 ⟨hm,B6⟩
  have Ar:w.heap.size<w1.heap.size:=uF (by simp) hm.size
  have z6 : 2 < w1.heap.size:=Nat.lt_trans z5 Ar
  rcases B6 with ⟨ho,pv,rfl,hS⟩|⟨ho,f,rfl,hE⟩
  focus
    obtain⟨p,hp⟩:∃p,p=zBg l:=⟨_,rfl⟩
    have Ag:=oh hp
    rw[<- hp] at hS ⊢
    obtain⟨K,hK⟩:∃n,n=p.kind:=⟨_,rfl⟩
    obtain⟨I,hI⟩:∃n,n=p.id:=⟨_,rfl⟩
    obtain⟨G,hG⟩:∃n,n=p.gen:=⟨_,rfl⟩
    have HP:Hid (∀bv,qC p bv=.agg #[.int .i64 K,.int .i64 I,.int .u64 (G:Int),bv]):=oh (λ_=>by rw[hK,hI,hG];rfl)
    have HI:=oh hI
    have Bj:=oh ho
    clear hK hI hG hp ho
    have M1:=oh hm
    have HS:Hid (∀w',zF w1 w'->Sl (qB F w.heap.size) w' 1 zZ pv p.body):=oh (λw' m=>hS.ext m)
    obtain⟨a2,cc2,rfl,_⟩:=hS
    clear hm
    rw[HP.out]
    have rb:=RB.out w1 M1.out
    have r0:=rb.k 0 rfl
    have r1:=rb.k 1 rfl
    have r2:=rb.k 2 rfl
    have r3:=rb.k 3 rfl
    have rf:=rb.frozen
    have g5:=G5.out w1 (M0.out.trans M1.out)
    by_cases hid:I=id
    . have HA:Hid (zV l id=.inl p):=oh (by unfold zV;rw[if_neg (by rw[Bj.out];decide),<- Ag.out,if_neg (by rw[<- HI.out];simpa using hid)])
      subst hid
      have Ah:=oh ((zG.set4 rb (.int .i64 K) (.int .i64 I) (.int .u64 (G:Int)) (.slice a2 p.body.length cc2)).alloc (.cells #[.int .i64 K,.int .i64 I,.int .u64 (G:Int),.slice a2 p.body.length cc2] 221))
      have Aj:=oh ((zA.set4 (M0.out.trans M1.out) (.inl (uD w.heap.size)) (.int .i64 K) (.int .i64 I) (.int .u64 (G:Int)) (.slice a2 p.body.length cc2)).alloc (.cells #[.int .i64 K,.int .i64 I,.int .u64 (G:Int),.slice a2 p.body.length cc2] 221))
      have Aq:=oh ((HS.out w1 (zss w1)).unR ((zA.set4 (zss w1) (R:=w.heap.size) (.inr (.inr rfl)) (.int .i64 K) (.int .i64 I) (.int .u64 (G:Int)) (.slice a2 p.body.length cc2)).alloc (.cells #[.int .i64 K,.int .i64 I,.int .u64 (G:Int),.slice a2 p.body.length cc2] 221)))
      clear rb
      go_wp2_with fail
      refine bodyPost_ret (zC rfl _ _ w.heap.size 221 #[.int .i64 K,.int .i64 I,.int .u64 (G:Int),.slice a2 p.body.length cc2] _ rfl Ah.out Tryz.underlying221 rfl Tryz.pageSize) rfl ?_
      exact⟨Aj.out,.inl ⟨p,.slice a2 p.body.length cc2,HA.out,by rw[HP.out];rfl,Aq.out⟩⟩
    have HA:Hid (zV l id=.inr ([zBz id],5)):=oh (by unfold zV;rw[if_neg (by rw[Bj.out];decide),<- Ag.out,if_pos (by rw[<- HI.out];exact hid)];rfl)
    clear rb r0 r1 r2 r3 rf
    go_wp2_with fail
    have M2:=oh (M1.out.alloc (.cells #[.int .i64 K,.int .i64 I,.int .u64 (G:Int),.slice a2 p.body.length cc2] 221))
    refine (zAF (HL.out _ M2.out) _ _ _ _ 5 (.sent 5 (by decide) (by decide))).mono ?_
    rintro e w3 ⟨f3,rfl,As,A2⟩
  rotate_left
  focus
    have HA:Hid (zV l id=.inr ([-1,zFc l],5)):=oh (by unfold zV;rw[if_pos ho])
    have HE:=oh hE
    have M1:=oh hm
    clear ho hE hm
    rw[show qC ⟨0,0,0,[]⟩ (.slice none 0 0)=.agg gE from rfl]
    go_wp2_with fail
    have M2:=oh (M1.out.alloc gE)
    refine (wrap_any (HL.out _ M2.out) _ _ _ _ (HE.out.mods ((zss w1).alloc _))).mono ?_
    rintro e w3 ⟨f3,rfl,As,A2⟩
  all_goals
    have M3:=oh (M2.out.trans A2)
    clear A2
    have rb:=RB.out w3 M3.out
    have r0:=rb.k 0 rfl
    have r1:=rb.k 1 rfl
    have r2:=rb.k 2 rfl
    have r3:=rb.k 3 rfl
    have rf:=rb.frozen
    have Ah:=oh (zG.set4 rb (.int .i64 0) (.int .i64 0) (.int .u64 0) (.slice none 0 0))
    have Aj:=oh (zA.set4 (M0.out.trans M3.out) (.inl (uD w.heap.size)) (.int .i64 0) (.int .i64 0) (.int .u64 0) (.slice none 0 0))
    have Av:=oh (As.unR (zA.set4 (zss w3) (R:=w.heap.size) (.inr (.inr rfl)) (.int .i64 0) (.int .i64 0) (.int .u64 0) (.slice none 0 0)))
    clear rb
    go_wp2_with fail
    refine bodyPost_ret (zC rfl _ _ w.heap.size 221 gE _ rfl Ah.out Tryz.underlying221 rfl Tryz.pageSize) rfl ?_
    exact⟨Aj.out,.inr ⟨_,_,f3,HA.out,rfl,Av.out⟩⟩
end Go.Proofs.YtalpfcaakpgkmaaGreatDoor
