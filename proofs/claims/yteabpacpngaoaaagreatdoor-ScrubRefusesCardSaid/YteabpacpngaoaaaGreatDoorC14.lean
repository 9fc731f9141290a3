import Derived.Test.YteabpacpngaoaaaGreatDoorC13
namespace Go.Proofs.YteabpacpngaoaaaGreatDoor
open Lib renaming hid->oh
set_option maxHeartbeats 1600000
set_option maxRecDepth 100000
open Go.RowKit
theorem Tryz.idx4_0(a0 a1 a2 a3:Int)(w:World):(Instr.index 240 (.agg #[.int .i64 a0,.int .i64 a1,.int .i64 a2,.int .i64 a3]) (.int .i64 0)).run Tryz.prog w=.ok (.int .i64 a0) w:=by kernel_rfl
theorem Tryz.idx4_1(a0 a1 a2 a3:Int)(w:World):(Instr.index 240 (.agg #[.int .i64 a0,.int .i64 a1,.int .i64 a2,.int .i64 a3]) (.int .i64 1)).run Tryz.prog w=.ok (.int .i64 a1) w:=by kernel_rfl
theorem Tryz.idx4_2(a0 a1 a2 a3:Int)(w:World):(Instr.index 240 (.agg #[.int .i64 a0,.int .i64 a1,.int .i64 a2,.int .i64 a3]) (.int .i64 2)).run Tryz.prog w=.ok (.int .i64 a2) w:=by kernel_rfl
theorem Tryz.idx4_3(a0 a1 a2 a3:Int)(w:World):(Instr.index 240 (.agg #[.int .i64 a0,.int .i64 a1,.int .i64 a2,.int .i64 a3]) (.int .i64 3)).run Tryz.prog w=.ok (.int .i64 a3) w:=by kernel_rfl
def zFI(s:yM):Nat->List UInt8
 | 0=>[]
 | 1=>yD 4 s.blocks
 | 2=>yD 4 s.blocks++yD 4 s.size
 | 3=>yD 4 s.blocks++yD 4 s.size++yD 4 s.root
 | _=>yD 4 s.blocks++yD 4 s.size++yD 4 s.root++yD 4 s.keys
def zIe(s:yM):Nat->Nat
 | 0=>s.blocks
 | 1=>s.size
 | 2=>s.root
 | _=>s.keys
theorem zPY(s:yM):∀k,k<=4->(zFI s k).length=4 * k
 | 0,_=>rfl
 | 1,_=>by simp[zFI,zD]
 | 2,_=>by simp[zFI,zD]
 | 3,_=>by simp[zFI,zD]
 | 4,_=>by simp[zFI,zD]
 | k+5,h=>by omega
theorem zN1(s:yM):∀k,k<4->zFI s k++yD 4 (zIe s k)=zFI s (k+1)
 | 0,_=>by simp[zFI,zIe]
 | 1,_=>by simp[zFI,zIe]
 | 2,_=>by simp[zFI,zIe]
 | 3,_=>by simp[zFI,zIe]
 | k+4,h=>by omega
theorem zSI(s:yM)(k:Nat)(hk:k<4)(w:World):(Instr.index 240 (.agg #[.int .i64 (s.blocks:Int),.int .i64 (s.size:Int),.int .i64 (s.root:Int),.int .i64 (s.keys:Int)]) (.int .i64 (k:Int))).run Tryz.prog w=.ok (.int .i64 (zIe s k:Int)) w:=by
 match k,hk with
 | 0,_=>exact Tryz.idx4_0 _ _ _ _ w
 | 1,_=>exact Tryz.idx4_1 _ _ _ _ w
 | 2,_=>exact Tryz.idx4_2 _ _ _ _ w
 | 3,_=>exact Tryz.idx4_3 _ _ _ _ w
theorem zMB{F:Nat->Prop}{ad:Nat->Addr}{w:World}(hL:yG F ad w)(s:yM)(hs:zBP s=true)(hg:s.gen<18446744073709551616)(i:Nat)(hi:i<2) :
  Calls Tryz.prog 87 #[qF s,.int .i64 (i:Int)] w λe w'=>∃a c,e=.returned (.tuple #[.slice a s.size c,.nilIface])/\yC F w' w.heap.size 5 1 zZ (.slice a s.size c) (yJ s i)/\zF w w':=by
 have HL:Hid (∀w',zF w w'->yG F ad w'):=oh (λw' m=>hL.mods m.ext);have HF:Hid (Bd F w):=oh (λk hk=>hL.lt k hk);clear hL;have HC:Hid (zBC s=none):=oh (by unfold zBC;rw[if_pos hs]);have HR:=oh (zEP hs hi);obtain⟨o1,o2,o3,o4,o5,o6,o7⟩:=(zAZ s).1 hs;have HNB:Hid (∀k,k<4->zIe s k<256 ^ 4):=oh (λk hk=>by
  match k,hk with
  | 0,_=>show s.blocks<4294967296;omega
  | 1,_=>show s.size<4294967296;omega
  | 2,_=>show s.root<4294967296;omega
  | 3,_=>show s.keys<4294967296;omega)
 have HST:=oh (zN1 s);have HLN:=oh (zPY s);have HIX:=oh (zSI s);have HBY:Hid (zFI s 4++yD 8 s.gen=vV s):=oh rfl;have HBK:Hid (vH (zCO s i) s.size=yJ s i):=oh rfl;have HG:=oh hg;have HG2:Hid ((zCO s i).gen<18446744073709551616):=oh hg;obtain⟨I,hI⟩:∃I:Int,I=(i:Int):=⟨_,rfl⟩;have hI2:I=0\/I=1:=by omega
 have HPG:Hid (∀v,Value.agg #[.int .i64 1,.int .i64 I,.int .u64 (s.gen:Int),v]=qA (zCO s i) v):=oh (λ_=>by rw[hI];rfl);rw[<- hI];clear hI;have HSV:Hid (qF s=.agg #[.int .u64 (s.gen:Int),.int .i64 (s.blocks:Int),.int .i64 (s.size:Int),.int .i64 (s.root:Int),.int .i64 (s.keys:Int)]):=oh rfl;have HSN:Hid (∀k,zIe s k<18446744073709551616):=oh (λk=>by
  match k with
  | 0=>show s.blocks<_;omega
  | 1=>show s.size<_;omega
  | 2=>show s.root<_;omega
  | k+3=>show s.keys<_;omega)
 have hpb:Hid ((zCO s i).body=vV s):=oh rfl;rw[HSV.out];obtain⟨g,hgg⟩:∃g,g=s.gen:=⟨_,rfl⟩;obtain⟨z,hz⟩:∃z,z=s.size:=⟨_,rfl⟩;obtain⟨b,hb⟩:∃b,b=s.blocks:=⟨_,rfl⟩;obtain⟨r,hr⟩:∃r,r=s.root:=⟨_,rfl⟩;obtain⟨q,hq⟩:∃q,q=s.keys:=⟨_,rfl⟩;rw[<- hgg,<- hz,<- hb,<- hr,<- hq];rw[<- hgg,<- hz,<- hb,<- hr,<- hq] at HSV;rw[<- hgg] at HBY HG HPG;rw[<- hz] at HBK HR;have HIX2:Hid (∀k:Nat,k<4->∀w,(Instr.index 240 (.agg #[.int .i64 (b:Int),.int .i64 (z:Int),.int .i64 (r:Int),.int .i64 (q:Int)]) (.int .i64 (k:Int))).run Tryz.prog w=.ok (.int .i64 (zIe s k:Int)) w):=oh (by rw[hb,hz,hr,hq];exact HIX.out);have hgu:g<18446744073709551616:=HG.out;clear hgg hz hb hr hq hs hg o1 o2 o3 o4 o5 o6 o7 HIX;have M0:Hid (zF w (w.alloc (.cells #[.int .u64 (g:Int),.int .i64 (b:Int),.int .i64 (z:Int),.int .i64 (r:Int),.int .i64 (q:Int)] 57))):=oh ((zA.refl _ w).alloc _);have HB:Hid (∀W,zF (w.alloc (.cells #[.int .u64 (g:Int),.int .i64 (b:Int),.int .i64 (z:Int),.int .i64 (r:Int),.int .i64 (q:Int)] 57)) W->zH W w.heap.size #[.int .u64 (g:Int),.int .i64 (b:Int),.int .i64 (z:Int),.int .i64 (r:Int),.int .i64 (q:Int)] 57):=oh (λW m=>(zH.new w _ _).ext m);have HM0:Hid (∀W,zF (w.alloc (.cells #[.int .u64 (g:Int),.int .i64 (b:Int),.int .i64 (z:Int),.int .i64 (r:Int),.int .i64 (q:Int)] 57)) W->w.heap.size<W.heap.size):=oh (λW m=>Nat.lt_of_lt_of_le (by simp) m.size)
 go_enter Tryz.func87, Tryz.ntmps87
 go_wp2_with fail;rw[<- HSV.out];refine (zFd (HL.out _ M0.out) s).mono ?_;rintro e w1 ⟨ev,rfl,hE,m1⟩;rw[HC.out] at hE;cases hE
 have hB:=HB.out _ m1;have c1:=hB.cell (o:=1) rfl;have c2:=hB.cell (o:=2) rfl;have c3:=hB.cell (o:=3) rfl;have c4:=hB.cell (o:=4) rfl;have M1:=oh (M0.out.trans m1);have K1:=oh m1;clear hB m1;rcases hI2 with rfl|rfl
 all_goals
  go_wp2_with fail;go_loopg [7,37] 4 (λm v7 v37 wr=>∃(k:Nat) (a:Option Addr) (c:Nat),k+m=4/\v7=.slice a (4 * k) c/\v37=.int .i64 k/\Hid (Sl F wr 1 zZ (.slice a (4 * k) c) (zFI s k))/\Hid (zF w1 wr))
  case atStart=>exact⟨0,none,0,rfl,rfl,rfl,oh (Sl.nil _ _ _ _),oh (zA.refl _ _)⟩
  case round =>
   clear c1 c2 c3 c4;obtain⟨k,a2,cc2,hk,rfl,rfl,HS2,HM2⟩:=hrel;have HLK:=oh (HLN.out k (by omega));by_cases hlt:k<4
   .have ix:=HIX2.out k hlt;have hn64:=HSN.out k;obtain⟨n,hn⟩:∃n,n=zIe s k:=⟨_,rfl⟩;have HN:=oh hn;rw[<- hn] at ix hn64;clear hn;go_wp2_with fail;have PA:=zBL (HL.out _ (M1.out.trans HM2.out)) _ (zFI s k) HS2.out n 4 (by decide) (by rw[HN.out];exact HNB.out k hlt) (by rw[HLK.out];omega);rw[HN.out,HST.out k hlt,<- HN.out,HLK.out] at PA;refine PA.mono ?_;rintro e w3 ⟨a3,c3,rfl,hO3,hm3⟩;have e4:4 * k+4=4 * (k+1):=by omega
    rw[e4] at hO3 ⊢;have HO3:=oh (hO3.sl (λ_=>rfl) (by rw[HLN.out (k+1) (by omega)];omega));have HM3:=oh (HM2.out.trans hm3);clear hO3 hm3 PA ix hn64;go_wp2_with fail;go_roundg (gk-1)
    case measure=>omega
    case rel=>exact⟨k+1,a3,c3,by omega,rfl,by go_num,HO3,HM3⟩
   .obtain rfl:k=4:=by omega
    have hB:=HB.out _ (K1.out.trans HM2.out);have c0:=hB.cell (o:=0) rfl;have HWR:=oh (M1.out.trans HM2.out);clear hB;go_wp2_with fail;have PA:=zBL (HL.out _ HWR.out) _ (zFI s 4) HS2.out g 8 (by decide) (by exact HG.out) (by rw[HLK.out];decide);rw[HBY.out,HLK.out] at PA;refine PA.mono ?_;rintro e w3 ⟨a3,c3,rfl,hO3,hm3⟩;have hB:=HB.out _ ((K1.out.trans HM2.out).trans hm3);have c0:=hB.cell (o:=0) rfl;have c2:=hB.cell (o:=2) rfl;have HW3:=oh (HWR.out.trans hm3);have hlen:(vV s).length=4 * 4+8:=zBe s;have HS3:=oh (hO3.sl (λ_=>rfl) (by rw[hlen];decide));clear hO3 hm3 PA hlen hB;go_wp2_with fail;rw[HPG.out];refine (zHB (HL.out _ HW3.out) (zCO s i) _ (by rw[hpb.out];exact HS3.out) z HG2.out HR.out).mono ?_;rintro e w4 ⟨a4,c4,rfl,hO4,hm4⟩;rw[HBK.out] at hO4;have HO4:=oh (hO4.rebase HW3.out.size);have HW4:=oh (HW3.out.trans hm4);clear hO4 hm4;go_wp2_with fail;refine (wrap_nil _ _).mono ?_;rintro e w5 ⟨rfl,rfl⟩;go_wp2_with fail;go_ret2
    exact⟨a4,c4,rfl,HO4.out,HW4.out⟩
def yA(m:vF):List Int:=m.used.map (λ(i:Nat)=>(i:Int))
def zB5(m:vF)(uv:Value):Value:=.agg #[.int .u64 (m.gen:Int),.int .i64 (m.blocks:Int),uv]
theorem zDd:∀(l:List Nat) (k b:Nat),l.Pairwise (· < ·)->(∀n∈l,k<=n/\n<b)->k<=b->l.length<=b-k
 | [],_,_,_,_,_=>by simp
 | x :: l,k,b,hp,hb,hk=>by
  rw[List.pairwise_cons] at hp;have hx:=hb x List.mem_cons_self;have:=zDd l (x+1) b hp.2 (λn hn=>⟨hp.1 n hn,(hb n (List.mem_cons_of_mem _ hn)).2⟩) (by omega);rw[List.length_cons];omega
theorem zRw{l:List Nat}(h:l.take 6=[0,1,2,3,4,5]){k:Nat}(hk:k<6):l[k]? = some k:=by
 have h2:(l.take 6)[k]? = l[k]?:=by rw[List.getElem?_take];rw[if_pos hk]
 rw[<- h2,h];match k,hk with
 | 0,_=>rfl
 | 1,_=>rfl
 | 2,_=>rfl
 | 3,_=>rfl
 | 4,_=>rfl
 | 5,_=>rfl
theorem zQh{l:List Nat}(h:l.Pairwise (· < ·)){k:Nat}{x y:Nat}(hx:l[k]? = some x)(hy:l[k+1]? = some y):x<y:=by
 obtain⟨h1,rfl⟩:=List.getElem?_eq_some_iff.1 hx;obtain⟨h2,rfl⟩:=List.getElem?_eq_some_iff.1 hy;exact (List.pairwise_iff_getElem.1 h) k (k+1) h1 h2 (by omega)
theorem zKh{F:Nat->Prop}{w:World}(m:vF)(hm:zAa m=true)(uv:Value)(hu:Sl F w 1 yK uv (yA m)) :
  Calls Tryz.prog 133 #[zB5 m uv] w λe w'=>e=.returned .nilIface/\zF w w':=by
 obtain⟨o1,o2,o3,o4,o5,o6⟩:=(jC m).1 hm;have hlen:m.used.length<=m.blocks:=zDd m.used 0 m.blocks o5 (λn hn=>⟨Nat.zero_le _,o6 n hn⟩) (Nat.zero_le _);have HU:=oh hu;have hul:(yA m).length=m.used.length:=by unfold yA;rw[List.length_map]
 have HUG:Hid (∀(k x:Nat),m.used[k]? = some x->(yA m)[k]? = some (x:Int)):=oh (λk x h=>by unfold yA;rw[List.getElem?_map,h];rfl);have HT6:=oh (λk hk=>zRw o4 (k:=k) hk);have HRI:=oh (λ(k x y:Nat) (hx:m.used[k]? = some x) (hy:m.used[k+1]? = some y)=>zQh o5 hx hy);have HLT:Hid (∀(k x:Nat),m.used[k]? = some x->x<m.blocks):=oh (λk x h=>o6 x (List.mem_of_getElem? h));have HGE:Hid (∀k:Nat,k<m.used.length->∃x,m.used[k]? = some x):=oh (λk h=>⟨_,List.getElem?_eq_getElem h⟩);obtain⟨ua,uc,rfl,i1,i2,i3, -⟩:=hu;unfold maxLen at i2;have HUL:=oh hul;rw[hul] at HU i1 i3 ⊢;obtain⟨g,b,u⟩:=m;simp only at *;unfold zB5;simp only;obtain⟨n,hn⟩:∃n,n=u.length:=⟨_,rfl⟩;rw[<- hn] at hlen o3 i1 i3 HGE HUL HU ⊢;clear o4 o5 o6 hm hul hn;have M0:Hid (zF w (w.alloc (.cells #[.int .u64 (g:Int),.int .i64 (b:Int),.slice ua n uc] 106))):=oh ((zA.refl _ w).alloc _);have e1:decide ((b:Int)<8)=false:=by simp;omega
 have e2:decide (256<(b:Int))=false:=by simp;omega
 have e3:decide ((n:Int)<6)=false:=by simp;omega
 have e4:decide (b<n)=false:=by simp;omega
 go_enter Tryz.func133, Tryz.ntmps133
 go_wp2_with fail;go_loopg [3,33] n (λr v3 v33 wr=>∃k:Nat,k+r=n/\v3=.bool false/\v33=.int .i64 k/\wr=w.alloc (.cells #[.int .u64 (g:Int),.int .i64 (b:Int),.slice ua n uc] 106))
 case atStart=>exact⟨0,by omega,rfl,rfl,rfl⟩
 case round =>
  obtain⟨k,hk,rfl,rfl,rfl⟩:=hrel;by_cases hlt:k<n
  .obtain⟨x,hx⟩:=HGE.out k hlt;have hxb:=HLT.out k x hx;obtain⟨qb,qoff,hqa,hc⟩:=HU.out.elem (by rw[HUL.out];exact hlt) M0.out;have d0:=hc 0 (.int .i64 x) (by
    have:=HUG.out k x hx;obtain⟨h1,h2⟩:=List.getElem?_eq_some_iff.1 this;rw[h2];rfl)
   simp only[Nat.add_zero,Nat.mul_one] at d0;subst hqa;have i1:(0:Int)<=(k:Int):=by omega
   have i2:(k:Int)<(n:Int):=by omega
   by_cases h6:k<6
   .have hx6:=HT6.out k h6;rw[hx] at hx6;cases hx6
    cases k with
    | zero =>
     clear hc hx;simp only[Nat.add_zero] at d0;go_wp2_with fail;go_roundg (gk-1)
     case measure=>omega
     case rel=>exact⟨1,by omega,rfl,by go_num,rfl⟩
    | succ j =>
     obtain⟨y,hy⟩:=HGE.out j (by omega);have hxy:=HRI.out j y _ hy hx;obtain⟨qb2,qoff2,hqa2,hc2⟩:=HU.out.elem (k:=j) (by rw[HUL.out];omega) M0.out;injection hqa2 with hqa2;injection hqa2 with hqa2 hqo2;subst hqa2;subst hqo2;have d1:=hc2 0 (.int .i64 y) (by
      have:=HUG.out j y hy;obtain⟨h1,h2⟩:=List.getElem?_eq_some_iff.1 this;rw[h2];rfl)
     simp only[Nat.add_zero,Nat.mul_one] at d1;clear hc hc2 hx hy;go_wp2_with fail;go_roundg (gk-1)
     case measure=>omega
     case rel=>exact⟨j+1+1,by omega,rfl,by go_num,rfl⟩
   .obtain⟨j,rfl⟩:∃j,k=j+1:=⟨k-1,by omega⟩;obtain⟨y,hy⟩:=HGE.out j (by omega);have hxy:=HRI.out j y _ hy hx;obtain⟨qb2,qoff2,hqa2,hc2⟩:=HU.out.elem (k:=j) (by rw[HUL.out];omega) M0.out;injection hqa2 with hqa2;injection hqa2 with hqa2 hqo2;subst hqa2;subst hqo2;have d1:=hc2 0 (.int .i64 y) (by
     have:=HUG.out j y hy;obtain⟨h1,h2⟩:=List.getElem?_eq_some_iff.1 this;rw[h2];rfl)
    simp only[Nat.add_zero,Nat.mul_one] at d1;clear hc hc2 hx hy;go_wp2_with fail;go_roundg (gk-1)
    case measure=>omega
    case rel=>exact⟨j+1+1,by omega,rfl,by go_num,rfl⟩
  .obtain rfl:k=n:=by omega
   go_wp2_with fail;go_ret;exact⟨rfl,M0.out⟩
def zBh(gen:Nat):Value:=.agg #[.int .i64 (place gen 0:Int),.int .i64 (place gen 1:Int)]
theorem Tryz.twoSize:(Tryz.prog.info? 161).map (·.size)=some 2:=by kernel_rfl
theorem zBX(gen:Nat)(hg:gen<18446744073709551616)(w:World) :
  Calls Tryz.prog 85 #[.int .u64 (gen:Int)] w λe w'=>e=.returned (zBh gen)/\zF w w':=by
 have hm:gen % 2=0\/gen % 2=1:=by omega
 have hand:bits .and .u64 (gen:Int) 1=((gen % 2:Nat):Int):=by
  have:=u64_and_nat gen 1 hg (by decide);rw[nat_mask1] at this;exact this
 have h0:(place gen 0:Int)=2+2 * ((gen % 2:Nat):Int):=by unfold place;omega
 have h1:(place gen 1:Int)=3+2 * ((gen % 2:Nat):Int):=by unfold place;omega
 have HP:Hid (zBh gen=.agg #[.int .i64 (2+2 * ((gen % 2:Nat):Int)),.int .i64 (3+2 * ((gen % 2:Nat):Int))]):=oh (by rw[zBh,h0,h1]);obtain⟨q,hq⟩:∃q,q=gen % 2:=⟨_,rfl⟩;rw[<- hq] at hand hm HP;clear h0 h1 hq
 go_enter Tryz.func85, Tryz.ntmps85
 go_wp2_with fail;refine bodyPost_ret (results_cell_row rfl _ _ w.heap.size 161 #[.int .i64 (2+2 * (q:Int)),.int .i64 (3+2 * (q:Int))] (0,0) _ rfl (zH.new w _ _) Tryz.underlying161 rfl Tryz.twoSize) rfl ?_;exact⟨by rw[HP.out],(zA.refl _ w).alloc _⟩
theorem Tryz.eqTwo(a b c d:Int)(w:World):(Op.equalIn 10000 161 (.agg #[.int .i64 a,.int .i64 b]) (.agg #[.int .i64 c,.int .i64 d])).run Tryz.prog w=.ok (decide (a=c) && decide (b=d)) w:=by
 have u3:=Tryz.underlying3;have a3:=Tryz.isAgg3;have z3:=Tryz.sizeOf3;rw[show (10000:Nat)=9999+1 from rfl,Op.equalIn];simp only[Sem.run_bind,run_underlying Tryz.underlying161,Result.andThen_ok];simp only[Std.Legacy.Range.forIn_eq_forIn_range',Std.Legacy.Range.size,Nat.sub_zero,Nat.add_sub_cancel,Nat.div_one,List.range'_succ,List.range'_zero,List.forIn_cons,List.forIn_nil];go_simp;by_cases h1:a=c <;> by_cases h2:b=d <;> simp[h1,h2]
theorem zNL(gen:Nat)(hg:gen<18446744073709551616)(i:Nat)(hi:i<1000)(w:World) :
  Calls Tryz.prog 134 #[.int .u64 (gen:Int),.int .i64 (i:Int)] w λe w'=>e=.returned (.bool (jX gen i))/\zF w w':=by
 have HPL:=oh (zBX gen hg w);obtain⟨q,hq⟩:∃q,q=place gen 0:=⟨_,rfl⟩;have hq1:place gen 1=q+1:=by rw[hq];unfold place;omega
 have hq5:q<6:=by rw[hq];unfold place;omega
 have HP:Hid (zBh gen=.agg #[.int .i64 (q:Int),.int .i64 ((q:Int)+1)]):=oh (by rw[zBh,hq1,<- hq];rfl);have HI:Hid (jX gen i=(decide (i=q) || decide (i=q+1))):=oh (by rw[jX,hq1,<- hq]);clear hq hq1 hg
 go_enter Tryz.func134, Tryz.ntmps134
 go_wp2_with fail;refine HPL.out.mono ?_;rintro e w1 ⟨rfl,m1⟩;rw[HP.out];have HM1:=oh (m1.alloc (.cells #[.int .i64 (q:Int),.int .i64 ((q:Int)+1)] 161));clear m1;have eq2:=Tryz.eqTwo;have e1:decide ((q:Int)+1=(q:Int))=false:=by simp;omega
 have e2:decide ((q:Int)=(q:Int)+1)=false:=by simp;omega
 by_cases h0:i=q
 .subst h0;go_wp2_with fail;go_ret;exact⟨yB (by rw[HI.out];simp),HM1.out⟩
 .have e3:decide ((i:Int)=(q:Int))=false:=by simp;omega
  by_cases h1:i=q+1
  .subst h1;go_wp2_with fail;go_ret;exact⟨yB (by rw[HI.out];simp),HM1.out⟩
  .have e4:decide ((i:Int)=(q:Int)+1)=false:=by simp;omega
   go_wp2_with fail;go_ret;exact⟨yB (by rw[HI.out];simp[h0,h1]),HM1.out⟩
end Go.Proofs.YteabpacpngaoaaaGreatDoor
