import Derived.Test.YtgphfebjjedeaaaGreatDoorV20
import Derived.OwnWalk
import Derived.Lib.ConvBytes
import Derived.Laws.AppendOwn
namespace Go.Proofs.YtgphfebjjedeaaaGreatDoor
open Lib renaming hid->oh
set_option maxHeartbeats 2000000
set_option maxRecDepth 100000
section
open Go.RowKit
def zFZ(n k:Nat)(l:List zE):List zE:=zFY n (l.take k)++l.drop k
theorem zPB(n:Nat)(l:List zE):zFZ n 0 l=l:=by simp[zFZ,zFY]
theorem zQi(n:Nat)(l:List zE):zFZ n l.length l=zFY n l:=by simp[zFZ]
theorem zLY(n k:Nat)(l:List zE):(zFZ n k l).length=l.length:=by
 unfold zFZ zFY;rw[uC,wP,uQ,wM];omega
theorem zOC{n k:Nat}{l:List zE}{x:zE}(hx:l[k]? = some x):(zFZ n k l)[k]? = some x:=by
 have hk:=(uB.1 hx).1;unfold zFZ zFY;rw[wS (by rw[wP,uQ];omega),wP,uQ,tV];rw[show k+(k-min k l.length)=k by omega];exact hx
theorem zQj{n k:Nat}{l:List zE}{x:zE}(hx:l[k]? = some x):(zFZ n k l).set k (x.1,zPA n x.2)=zFZ n (k+1) l:=by
 have hk:=(uB.1 hx).1;unfold zFZ;have hl:(zFY n (l.take k)).length=k:=by unfold zFY;rw[wP,uQ];omega
 rw[List.set_append_right _ _ (by rw[hl];exact uJ _),hl,Nat.sub_self,zDl hx,pT,qD l k x hx];unfold zFY;rw[pS];simp
def zAl(s:ByteArray):List UInt8:=zV 2 s.size++s.data.toList
structure zBV where
 kind:Nat
 gen:Nat
 base:Nat
 records:Nat
 deriving DecidableEq
def jB:List UInt8:=[83,67,82,49]
def jP(h:zBV):List UInt8:=jB++zV 1 h.kind++zV 8 h.gen++zV 8 h.base++zV 4 h.records
def zEG(b:List UInt8):List UInt8:=b++zV 4 (qR b)
def zAB(x:zE):List UInt8:=zAl x.1++zAl x.2
def zBh(gen:Nat)(l:List zE):List UInt8:=zEG (jP ⟨1,gen,0,l.length⟩ ++ l.flatMap zAB)
def qB(l:List UInt8)(p:Nat):Option (ByteArray × Nat) :=
 if p+2<=l.length/\p+2+zZ l p 2<=l.length then some (⟨((l.drop (p+2)).take (zZ l p 2)).toArray⟩,p+2+zZ l p 2) else none
def qG(l:List UInt8):Nat->Nat->List zE->Option (List zE × Nat)
 | 0,p,acc=>some (acc,p)
 | n+1,p,acc=>match qB l p with
  | none=>none
  | some (k,p1)=>match qB l p1 with
   | none=>none
   | some (v,p2)=>qG l n p2 (acc++[(k,v)])
def zCC(b:List UInt8):zBV:=⟨zZ b 4 1,zZ b 5 8,zZ b 13 8,zZ b 21 4⟩
def qY(b:List UInt8):zBV ⊕ Nat :=
 if b.length<29\/b.take 4≠jB then .inr 1
 else if ¬ ((zCC b).kind=1/\(zCC b).base=0\/(zCC b).kind=2) then .inr 1
 else if zZ b (b.length-4) 4≠qR (b.take (b.length-4)) then .inr 5 else .inl (zCC b)
def vZ:ByteArray->List zE->Bool
 | _,[]=>true
 | last,x :: l=>qP x.1 && qH last x.1 && decide (x.2.size<=4096) && vZ x.1 l
def jV(b:List UInt8):(zBV × List zE) ⊕ Nat:=match qY b with
 | .inr c=>.inr c
 | .inl h=>if h.kind≠1 then .inr 1 else match qG (b.take (b.length-4)) h.records 25 [] with
  | none=>.inr 1
  | some (l,p)=>if p=b.length-4/\vZ ⟨#[]⟩ l=true then .inl (h,l) else .inr 1
theorem zAR(h:zBV):(jP h).length=25:=by simp[jP,jB,zC]
theorem zAr(s:ByteArray):(zAl s).length=2+s.size:=by simp[zAl,zC]
theorem zJU{A B:List UInt8}{s:ByteArray}(hs:s.size<65536):qB (A++(zAl s++B)) A.length=some (s,A.length+2+s.size):=by
 have hn:zZ (A++(zAl s++B)) A.length 2=s.size:=by
  have e:A++(zAl s++B)=A++(zV 2 s.size++(s.data.toList++B)):=by simp only[zAl,uM]
  rw[e];exact vC A _ 2 s.size A.length rfl hs
 have hl:(A++(zAl s++B)).length=A.length+(2+s.size+B.length):=by rw[uC,uC,zAr]
 unfold qB;rw[hn,if_pos ⟨by omega,by omega⟩];have hd:((A++(zAl s++B)).drop (A.length+2)).take s.size=s.data.toList:=by
  have e:A++(zAl s++B)=(A++zV 2 s.size)++(s.data.toList++B):=by simp only[zAl,uM]
  rw[e,List.drop_left' (by rw[uC,zC])];exact rO (by rw[tP];rfl)
 rw[hd]
theorem zEb:∀(l:List zE) (A B:List UInt8) (acc:List zE),(∀x∈l,x.1.size<65536/\x.2.size<65536)->qG (A++(l.flatMap zAB++B)) l.length A.length acc=some (acc++l,A.length+(l.flatMap zAB).length)
 | [],A,B,acc,_=>by simp[qG]
 | x :: l,A,B,acc,h=>by
  obtain⟨h1,h2⟩:=h x uH;have e1:A++((x :: l).flatMap zAB++B)=A++(zAl x.1++(zAl x.2++(l.flatMap zAB++B))):=by simp only[uZ,zAB,uM]
  have e2:A++(zAl x.1++(zAl x.2++(l.flatMap zAB++B)))=(A++zAl x.1)++(zAl x.2++(l.flatMap zAB++B)):=by simp only[uM]
  have e3:(A++zAl x.1)++(zAl x.2++(l.flatMap zAB++B))=(A++zAl x.1++zAl x.2)++(l.flatMap zAB++B):=by simp only[uM]
  have l1:A.length+2+x.1.size=(A++zAl x.1).length:=by rw[uC,zAr];omega
  have l2:(A++zAl x.1).length+2+x.2.size=(A++zAl x.1++zAl x.2).length:=by rw[uC (bs:=zAl x.2),zAr];omega
  rw[e1,uD,qG,zJU h1];simp only;rw[l1,e2,zJU h2];simp only;rw[l2,e3,zEb l _ B _ (λy hy=>h y (uI _ hy))];simp only[uZ,zAB,uC,uM,List.singleton_append];rw[rE A.length,rE (zAl x.1).length]
theorem zQk(h:zBV)(R:List UInt8)(h1:h.kind<256)(h2:h.gen<18446744073709551616)(h3:h.base<18446744073709551616)(h4:h.records<4294967296):zCC (jP h++R)=h:=by
 have n0:zZ (jP h++R) 4 1=h.kind:=by
  have e:jP h++R=jB++(zV 1 h.kind++(zV 8 h.gen++zV 8 h.base++zV 4 h.records++R)):=by simp only[jP,uM]
  rw[e];exact vC _ _ 1 h.kind 4 rfl h1
 have n1:zZ (jP h++R) 5 8=h.gen:=by
  have e:jP h++R=(jB++zV 1 h.kind)++(zV 8 h.gen++(zV 8 h.base++zV 4 h.records++R)):=by simp only[jP,uM]
  rw[e];exact vC _ _ 8 h.gen 5 (by rw[uC,zC];rfl) h2
 have n2:zZ (jP h++R) 13 8=h.base:=by
  have e:jP h++R=(jB++zV 1 h.kind++zV 8 h.gen)++(zV 8 h.base++(zV 4 h.records++R)):=by simp only[jP,uM]
  rw[e];exact vC _ _ 8 h.base 13 (by rw[uC,uC,zC,zC];rfl) h3
 have n3:zZ (jP h++R) 21 4=h.records:=by
  have e:jP h++R=(jB++zV 1 h.kind++zV 8 h.gen++zV 8 h.base)++(zV 4 h.records++R):=by simp only[jP,uM]
  rw[e];exact vC _ _ 4 h.records 21 (by rw[uC,uC,uC,zC,zC,zC];rfl) h4
 unfold zCC;rw[n0,n1,n2,n3]
theorem zBm(b:List UInt8):(zEG b).length=b.length+4:=by simp[zEG,zC]
theorem zJV(b:List UInt8):(zEG b).take ((zEG b).length-4)=b:=by
 rw[zBm,tN];exact rO rfl
theorem zQl(b:List UInt8):zZ (zEG b) ((zEG b).length-4) 4=qR b:=by
 rw[zBm,tN];have e:zEG b=b++(zV 4 (qR b)++[]):=by rw[wJ];rfl
 rw[e];exact vC b [] 4 (qR b) b.length rfl (zBi b)
theorem zQm(h:zBV)(R:List UInt8)(h1:h.kind=1/\h.base=0\/h.kind=2)(h2:h.gen<18446744073709551616)(h3:h.base<18446744073709551616)(h4:h.records<4294967296):qY (zEG (jP h++R))=.inl h:=by
 have hk:h.kind<256:=by rcases h1 with h|h <;> omega
 have hp:zCC (zEG (jP h++R))=h:=by
  unfold zEG;rw[uM];exact zQk h _ hk h2 h3 h4
 have hl:=zAR h;have ht:(zEG (jP h++R)).take 4=jB:=by
  have e:zEG (jP h++R)=jB++(zV 1 h.kind++zV 8 h.gen++zV 8 h.base++zV 4 h.records++R++zV 4 (qR (jP h++R))):=by simp only[zEG,jP,uM]
  rw[e];exact rO rfl
 unfold qY;rw[if_neg (by rw[zBm,uC,ht];intro hc;rcases hc with hc|hc;omega;exact hc rfl),hp,if_neg (λhc=>hc h1),if_neg (by rw[zQl,zJV];exact λhc=>hc rfl)]
theorem zH4{gen:Nat}{l:List zE}(hg:gen<18446744073709551616)(hl:l.length<4294967296)(hr:vZ ⟨#[]⟩ l=true)(hk:∀x∈l,x.1.size<65536/\x.2.size<65536):jV (zBh gen l)=.inl (⟨1,gen,0,l.length⟩,l):=by
 unfold jV zBh;rw[zQm _ _ (.inl ⟨rfl,rfl⟩) hg (by show 0<18446744073709551616;omega) hl];simp only;rw[if_neg (λh=>h rfl),zJV];have hrd:=zEb l (jP ⟨1,gen,0,l.length⟩) [] [] hk;rw[wJ,zAR,wN] at hrd;rw[hrd];simp only;rw[if_pos ⟨by rw[zBm,uC,zAR];omega,hr⟩]
end
section
open Go.RowKit
attribute [local go_sem ↓] Go.wp_at_zero Go.wp_at_succ
section
variable {F:NP}{ad:Nat->Addr}{w w':World}{B:Nat}{l:List UInt8}
theorem zNH(hL:yE F ad w)(bv:Value)(l:List UInt8)(hb:Sl F w 1 zO bv l)(s:ByteArray)(hs:s.size<=65535)(hlen:l.length<=900000000) :
  Calls Tryz.prog 123 #[bv,.string s] w λe w'=>∃a c,e=.returned (.tuple #[.slice a (l.length+2+s.size) c,.nilIface])/\Sl F w' 1 zO (.slice a (l.length+2+s.size) c) (l++zAl s)/\zG w w':=by
 have HPU:=oh (zAt hL bv l hb s.size 2 (by decide) (by show s.size<65536;omega) (by omega));have HLF:=oh (λk (h:F k)=>hL.lt k h);obtain⟨a,c,rfl, -⟩:=hb;obtain⟨n,hn⟩:∃n,n=s.size:=⟨_,rfl⟩;have HN:=oh hn;obtain⟨L,hl⟩:∃n,n=l.length:=⟨_,rfl⟩;have HLN:=oh hl;have e1:¬ (65535:Int)<(s.size:Int):=by omega
 clear hL hn hl
 go_enter Tryz.func123, Tryz.ntmps123
 go_wp2_with fail;refine HPU.out.mono ?_;rintro e w1 ⟨a1,c1,rfl,hO1,m1⟩;have HO1:=oh (hO1.blocks (G:=λ_=>False) (λ_ _ f=>f));have HM1:=oh m1;have HZ1:=oh m1.size;have hql:(l++zV 2 s.size).length=l.length+2:=by rw[uC,zC]
 have HQL:=oh hql;clear hO1 m1 hql;go_wp2_with (at_builtin;refine zG4 Tryz.elB Tryz.underlying9 rfl _ _ rfl w.heap.size (.slice a1 (l.length+2) c1) (l++zV 2 s.size) s rfl rfl HO1.out (by rw[HQL.out];omega) HZ1.out ?_;intro a2 c2 w2 hO2 hg2;rw[HQL.out] at hO2 ⊢;have HO2:=oh hO2;have HM2:Hid (zG w w2):=oh (zA.grown HM1.out hg2 (λk hk=>.inl (HO1.out.lt k hk).1));clear hO2 hg2);go_ret2
 refine⟨a2,c2,rfl,?_,HM2.out⟩;have e:l++zAl s=l++zV 2 s.size++s.data.toList:=by unfold zAl;rw[uM]
 rw[e];exact (HO2.out.blocks (G:=F) (λg hg f=>by have:=(HO2.out.lt g hg).1;have:=HLF.out g f;omega)).sl (λ_=>rfl) (by rw[uC,HQL.out,yY];omega)
def BwR(F:NP)(w:World)(B:Nat)(l:List UInt8):Prop:=∃v,zK w B #[v,.nilIface] 208 /\ Sl F w 1 zO v l
theorem BwR.ext(h:BwR F w B l)(m:zG w w'):BwR F w' B l:=by
 obtain⟨v,h1,h2⟩:=h;exact⟨v,h1.ext m,h2.ext m⟩
theorem zQn{v v':Value}(hF:F B)(h1:zK w B #[v,.nilIface] 208)(h2:Sl F w 1 zO v' l):BwR F ((w.setCell ⟨B,0,none⟩ v').setCell ⟨B,1,none⟩ .nilIface) B l/\zA (λj=>j=B) w ((w.setCell ⟨B,0,none⟩ v').setCell ⟨B,1,none⟩ .nilIface):=by
 have m:zA (λj=>j=B) w ((w.setCell ⟨B,0,none⟩ v').setCell ⟨B,1,none⟩ .nilIface):=zA.setCell (F:=λj=>j=B) (zA.setCell (F:=λj=>j=B) (zss w) (p:=⟨B,0,none⟩) (.inr rfl) _) (p:=⟨B,1,none⟩) (.inr rfl) _;exact⟨⟨v',by simpa using (h1.set 0 v').set 1 .nilIface,h2.mods (m.mono (λj h=>by have h':j=B:=h;rw[h'];exact hF))⟩,m⟩
theorem zLZ(hL:yE F ad w)(hF:F B)(h:BwR F w B l)(n W:Nat)(hW:W=1\/W=2\/W=4\/W=8)(hn:n<256 ^ W)(hlen:l.length<=900000000) :
  Calls Tryz.prog 122 #[.pointer (some ⟨B,0,none⟩),.int .u64 (n:Int),.int .i64 (W:Int)] w λe w'=>e=.returned (.tuple #[])/\BwR F w' B (l++zV W n)/\zA (λj=>j=B) w w':=by
 obtain⟨v,hB,hS⟩:=h;have HPU:=oh (zAt hL v l hS n W hW hn (by omega));have b0:=hB.d 0 v rfl;have b1:=hB.d 1 .nilIface rfl;have HB:=oh hB;have HF:=oh hF;have hbl:=hB.lt;have HLW:=oh (show l.length+W<=140737488355328 by rcases hW with rfl|rfl|rfl|rfl <;> omega);clear hL hF hB hn hW;obtain⟨a,c,rfl, -⟩:=hS
 go_enter Tryz.func122, Tryz.ntmps122
 go_wp2_with fail;refine HPU.out.mono ?_;rintro e w1 ⟨a1,c1,rfl,hO1,m1⟩;have hB1:=HB.out.ext m1;have b0:=hB1.d 0 (.slice a l.length c) rfl;have b1:=hB1.d 1 .nilIface rfl;have bf:=hB1.frozen;have HS1:=oh (hO1.sl (λ_=>rfl) (by rw[uC,zC];exact HLW.out));have HB1:=oh hB1;have HM1:=oh m1;clear hO1 m1 hB1;go_wp2_with fail;go_end0
 obtain⟨r1,r2⟩:=zQn HF.out HB1.out HS1.out;exact⟨rfl,r1,HM1.out.ext.trans r2⟩
theorem zQo(hL:yE F ad w)(hF:F B)(h:BwR F w B l)(s:ByteArray)(hs:s.size<=65535)(hlen:l.length<=900000000) :
  Calls Tryz.prog 66 #[.pointer (some ⟨B,0,none⟩),.string s] w λe w'=>e=.returned (.tuple #[])/\BwR F w' B (l++zAl s)/\zA (λj=>j=B) w w':=by
 obtain⟨v,hB,hS⟩:=h;have HPU:=oh (zNH hL v l hS s hs hlen);have b0:=hB.d 0 v rfl;have b1:=hB.d 1 .nilIface rfl;have HB:=oh hB;have HF:=oh hF;have hbl:=hB.lt;clear hL hF hB hs;obtain⟨a,c,rfl, -⟩:=hS
 go_enter Tryz.func66, Tryz.ntmps66
 go_wp2_with fail;refine HPU.out.mono ?_;rintro e w1 ⟨a1,c1,rfl,hS1,m1⟩;have hB1:=HB.out.ext m1;have b0:=hB1.d 0 (.slice a l.length c) rfl;have b1:=hB1.d 1 .nilIface rfl;have bf:=hB1.frozen;have HS1:=oh hS1;have HB1:=oh hB1;have HM1:=oh m1;clear hS1 m1 hB1;go_wp2_with fail;go_end0
 obtain⟨r1,r2⟩:=zQn HF.out HB1.out HS1.out;exact⟨rfl,r1,HM1.out.ext.trans r2⟩
end
section
variable {F:NP}{ad:Nat->Addr}{w w':World}
def TkT(l:List UInt8)(p:Nat)(e:Ending):Prop:=match qB l p with
 | some (s,q)=>e=.returned (.tuple #[.string s,.int .i64 (q:Int),.nilIface])
 | none=>∃f,e=.returned (.tuple #[.string e0,.int .i64 0,zI f])
theorem zKS(hL:yE F ad w)(bv:Value)(l:List UInt8)(hb:Sl F w 1 zO bv l)(p:Nat)(hp:p<=2000000000)(hlen:l.length<=2000000000) :
  Calls Tryz.prog 211 #[bv,.int .i64 (p:Int)] w λe w'=>TkT l p e/\zG w w':=by
 have HT:=oh (zDX hL bv l hb (p:Int) 2 (by decide));have HL:=oh hL;have HB:=oh hb;have g1:=hL.c1;obtain⟨a,cap,rfl,hz1,hz2,hz3,hz4⟩:=id hb;unfold maxLen at hz2;clear hL hb;by_cases h1:p+2<=l.length
 .have htk:yO l (p:Int) 2=(zZ l p 2,none):=by
   unfold yO;rw[if_neg (by omega),if_neg (by omega)];rfl
  rw[htk] at HT;have hlt:=vB l p 2;obtain⟨n,hn⟩:∃n,n=zZ l p 2:=⟨_,rfl⟩;rw[<- hn] at HT hlt;have hn2:n<65536:=hlt;have hq:IntKind.i64.wrap (n:Int)=(n:Int):=IntWalk.i64_in _ (by omega);by_cases h2:p+2+n<=l.length
  .have HW:Hid (qB l p=some (⟨((l.drop (p+2)).take n).toArray⟩,p+2+n)):=oh (by unfold qB;rw[<- hn,if_pos ⟨h1,h2⟩]);obtain⟨bb,off,rfl⟩:∃bb off,a=some ⟨bb,off,none⟩:=by
    rcases hz4 with h|⟨bb,off,h,_⟩
    .rw[h] at h1;simp at h1
    .exact⟨bb,off,h⟩
   have hcv:∀W,zG w W->(convert 27 9 (.slice (if cap=p+2 then some ⟨bb,off,none⟩ else some ⟨bb,off+(p+2),none⟩) n (cap-(p+2)))).run Tryz.prog W=.ok (.string ⟨((l.drop (p+2)).take n).toArray⟩) W:=λW m=>by
    have hsl:Sl F W 1 zO (.slice (if cap=p+2 then some ⟨bb,off,none⟩ else some ⟨bb,off+(p+2),none⟩) n (cap-(p+2))) ((l.drop (p+2)).take n):=by
     have hln:((l.drop (p+2)).take n).length=n:=by simp;omega
     split
     .have hn0:n=0:=by omega
      subst hn0;exact⟨some ⟨bb,off,none⟩,cap-(p+2),by simp,by simp,by unfold maxLen;omega,by simp,.inl (by simp)⟩
     .have:=Sl.sub (HB.out.ext m) (p+2) (p+2+n) (by omega) h2;rw[uY,show p+2+n-(p+2)=n by omega] at this;exact this
    exact zBl (P:=Tryz.prog) Tryz.underlying27 Tryz.underlying5 Tryz.underlying9 hsl
   have HCV:=oh hcv;clear hn hlt hcv hz4
   go_enter Tryz.func211, Tryz.ntmps211
   go_wp2_with fail;refine HT.out.mono ?_;rintro e w1 ⟨ev,rfl,hE,hm⟩;have hev:ev=.nilIface:=hE;subst hev;have hcv:=HCV.out w1 hm;have HM:=oh hm;clear hE hm;go_wp2_with fail;all_goals
    go_ret3
    refine⟨?_,HM.out⟩;unfold TkT;rw[HW.out];rfl
  .have HW:Hid (qB l p=none):=oh (by unfold qB;rw[<- hn,if_neg (λh=>h2 h.2)]);have h3:(l.length:Int)-(p:Int)-2<(n:Int):=by omega
   clear hn hlt hz4 hq
   go_enter Tryz.func211, Tryz.ntmps211
   go_wp2_with fail;refine HT.out.mono ?_;rintro e w1 ⟨ev,rfl,hE,hm⟩;have hev:ev=.nilIface:=hE;subst hev;have hL1:=HL.out.mods hm.ext;have g1:=hL1.c1;have HL1:=oh hL1;have HM:=oh hm;clear hE hm hL1;go_wp2_with fail;refine (yR HL1.out _ _ [] 1 (.sent 1 (by decide) (by decide))).mono ?_;rintro e w2 ⟨f,rfl, -,hm2⟩;have HM2:=oh (HM.out.trans hm2);clear hm2;go_wp2_with fail;go_ret3
   refine⟨?_,HM2.out⟩;unfold TkT;rw[HW.out];exact⟨f,rfl⟩
 .have HW:Hid (qB l p=none):=oh (by unfold qB;rw[if_neg (λh=>h1 h.1)]);obtain⟨el,ek,htk⟩:∃el ek,yO l (p:Int) 2=(0,some (el,ek)):=by
   unfold yO;by_cases h3:(p:Int)<0\/(l.length:Int)<(p:Int)
   .rw[if_pos h3];exact⟨_,_,rfl⟩
   .rw[if_neg h3,if_pos (by omega)];exact⟨_,_,rfl⟩
  rw[htk] at HT;clear htk h1 hz4
  go_enter Tryz.func211, Tryz.ntmps211
  go_wp2_with fail;refine HT.out.mono ?_;rintro e w1 ⟨ev,rfl,⟨f,rfl,hE⟩,hm⟩;have HL1:=oh (HL.out.mods hm.ext);have HE:=oh hE;have HM:=oh hm;clear hE hm;unfold zI;go_wp2_with fail;refine (wrap_any HL1.out _ _ _ _ HE.out).mono ?_;rintro e w2 ⟨f2,rfl, -,hm2⟩;have HM2:=oh (HM.out.trans hm2);clear hm2;go_wp2_with fail;go_ret3
  refine⟨?_,HM2.out⟩;unfold TkT;rw[HW.out];exact⟨f2,rfl⟩
end
section
variable {F:NP}{ad:Nat->Addr}{w w':World}{B:Nat}{v:Value}{l:List UInt8}{p:Nat}{ok:Bool}
def okV(ok:Bool)(v:Value):Prop:=if ok=true then v=.nilIface else ∃f,v=zI f
def BrR(F:NP)(w:World)(B:Nat)(v:Value)(l:List UInt8)(p:Nat)(ok:Bool):Prop:=∃ev,zK w B #[v,.int .i64 (p:Int),ev] 229 /\ Sl F w 1 zO v l/\okV ok ev
theorem BrR.ext(h:BrR F w B v l p ok)(m:zG w w'):BrR F w' B v l p ok:=by
 obtain⟨ev,h1,h2,h3⟩:=h;exact⟨ev,h1.ext m,h2.ext m,h3⟩
theorem zFa{v' ev':Value}{q:Nat}{c:Bool}(hF:F B)(hs:Sl F w 1 zO v l)(h1:zK w' B #[v',.int .i64 (q:Int),ev'] 229)(m:zA (λj=>j=B) w w')(hv:v'=v)(hc:okV c ev'):BrR F w' B v l q c:=by
 subst hv;exact⟨ev',h1,hs.mods (m.mono (λj (h:j=B)=>by rw[h];exact hF)),hc⟩
theorem zTC(hL:yE F ad w)(hF:F B)(h:BrR F w B v l p ok)(W:Nat)(hW:W=1\/W=2\/W=4\/W=8)(hp:p<=2000000000) :
  Calls Tryz.prog 208 #[.pointer (some ⟨B,0,none⟩),.int .i64 (W:Int)] w λe w'=>e=.returned (.int .u64 ((if p+W<=l.length then zZ l p W else 0:Nat):Int))/\BrR F w' B v l (p+W) (ok && decide (p+W<=l.length))/\zA (λj=>j=B) w w':=by
 obtain⟨ev0,hB,hS,hO⟩:=h;have HT:=oh (λW' (m:zG w W')=>zDX (hL.mods m.ext) v l (hS.ext m) (p:Int) W hW);obtain⟨tv,htv⟩:∃tv,tv=(yO l (p:Int) W).1:=⟨_,rfl⟩;obtain⟨te,hte⟩:∃te,te=(yO l (p:Int) W).2:=⟨_,rfl⟩;rw[<- htv,<- hte] at HT;have HTV:Hid ((if p+W<=l.length then zZ l p W else 0)=tv/\(te.isNone=decide (p+W<=l.length))):=oh (by
  rw[htv,hte];unfold yO;by_cases h0:(p:Int)<0\/(l.length:Int)<(p:Int)
  .rw[if_pos h0,if_neg (by omega)];exact⟨rfl,by simp;omega⟩
  rw[if_neg h0];by_cases h:p+W<=l.length
  .rw[if_pos h,if_neg (by omega)];exact⟨rfl,by simp[h]⟩
  .rw[if_neg h,if_pos (by omega)];exact⟨rfl,by simp[h]⟩)
 obtain⟨c,hc⟩:∃c,c=decide (p+W<=l.length):=⟨_,rfl⟩;rw[HTV.out.1,<- hc];have HTC:Hid (te.isNone=c):=oh (by rw[hc];exact HTV.out.2);clear HTV hc;have hW8:W<=8:=by rcases hW with rfl|rfl|rfl|rfl <;> omega
 have b0:∀W',zG w W'->W'.cell? ⟨B,0,none⟩=some v:=λW' m=>(hB.ext m).cell rfl
 have b1:∀W',zG w W'->W'.cell? ⟨B,1,none⟩=some (.int .i64 (p:Int)):=λW' m=>(hB.ext m).cell rfl
 have HB:=oh hB;have HS:=oh hS;have HF:=oh hF;have HO:=oh hO;have hbl:=hB.lt;clear hL hF hB hte htv hW hO;obtain⟨a,cp,rfl, -⟩:=hS;have d0:=b0 _ (zss w).drew;have d1:=b1 _ (zss w).drew;have B0:=oh b0;have B1:=oh b1;clear b0 b1
 go_enter Tryz.func208, Tryz.ntmps208
 go_wp2_with fail;go_region_held3 (λw'=>w'.cell? ⟨B,0,none⟩=some (.slice a l.length cp)/\w'.cell? ⟨B,1,none⟩=some (.int .i64 (p:Int)))
  (first|(with_reducible exact⟨d0,d1⟩)|(with_reducible exact⟨z0,z1⟩)|fail)
  (first
   | (go_at_call 209;(with_reducible refine (HT.out _ (zss w).drew).mono ?_);rintro e w5 ⟨ev,rfl,hE,hm⟩;have m5:=(zss w).drew.trans hm;have z0:=B0.out _ m5;have z1:=B1.out _ m5)
   | fail)
 have hB5:=HB.out.ext m5;have HS5:=oh (HS.out.ext m5);have HB5:=oh hB5;have HM5:=oh m5;have y1:=hB5.d 1 (.int .i64 (p:Int)) rfl;have y2:=hB5.d 2 ev0 rfl;have yf:=hB5.frozen;have hbl5:=hB5.lt;have hOE:okV te.isNone ev:=by
  cases te with
  | none=>exact hE
  | some x=>obtain⟨f,hf,_⟩:=hE;exact⟨f,hf⟩
 rw[HTC.out] at hOE;clear hm z0 z1 d0 d1 m5 hB5 hE;have HMX:Hid (∀v1 v2,zA (λj=>j=B) w ((w5.setCell ⟨B,2,none⟩ v1).setCell ⟨B,1,none⟩ v2)):=oh λv1 v2=>zA.setCell (F:=λj=>j=B) (zA.setCell (F:=λj=>j=B) HM5.out.ext (p:=⟨B,2,none⟩) (.inr rfl) v1) (p:=⟨B,1,none⟩) (.inr rfl) v2
 have HMY:Hid (∀v2,zA (λj=>j=B) w (w5.setCell ⟨B,1,none⟩ v2)):=oh λv2=>zA.setCell (F:=λj=>j=B) HM5.out.ext (p:=⟨B,1,none⟩) (.inr rfl) v2
 cases ok with
 | true =>
  have h0:ev0=.nilIface:=HO.out;subst h0;cases c with
  | true =>
   have h1:ev=.nilIface:=hOE;subst h1;go_wp2_with fail;go_ret;exact⟨rfl,zFa HF.out HS.out ((HB5.out.set 2 .nilIface).set 1 (.int .i64 ((p:Int)+(W:Int)))) (HMX.out _ _) rfl rfl,HMX.out _ _⟩
  | false =>
   obtain⟨f,rfl⟩:=hOE;unfold zI;go_wp2_with fail;go_ret;exact⟨rfl,zFa HF.out HS.out ((HB5.out.set 2 (zI f)).set 1 (.int .i64 ((p:Int)+(W:Int)))) (HMX.out _ _) rfl ⟨f,rfl⟩,HMX.out _ _⟩
 | false =>
  obtain⟨f,rfl⟩:=HO.out;unfold zI at y2;go_wp2_with fail;go_ret;exact⟨rfl,zFa HF.out HS.out (HB5.out.set 1 (.int .i64 ((p:Int)+(W:Int)))) (HMY.out _) rfl ⟨f,rfl⟩,HMY.out _⟩
theorem zQp(hL:yE F ad w)(hF:F B)(h:BrR F w B v l p ok)(hp:p<=2000000000)(hlen:l.length<=2000000000) :
  Calls Tryz.prog 140 #[.pointer (some ⟨B,0,none⟩)] w λe w'=>e=.returned (.string ((qB l p).elim e0 (·.1)))/\BrR F w' B v l ((qB l p).elim p (·.2)) (ok && (qB l p).isSome)/\zA (λj=>j=B) w w':=by
 obtain⟨ev0,hB,hS,hO⟩:=h;have HT:=oh (λW' (m:zG w W')=>zKS (hL.mods m.ext) v l (hS.ext m) p hp hlen);have b0:∀W',zG w W'->W'.cell? ⟨B,0,none⟩=some v:=λW' m=>(hB.ext m).cell rfl
 have b1:∀W',zG w W'->W'.cell? ⟨B,1,none⟩=some (.int .i64 (p:Int)):=λW' m=>(hB.ext m).cell rfl
 have HB:=oh hB;have HS:=oh hS;have HF:=oh hF;have HO:=oh hO;have hbl:=hB.lt;clear hL hF hB hO;obtain⟨a,cp,rfl, -⟩:=hS;have d0:=b0 _ (zss w).drew;have d1:=b1 _ (zss w).drew;have B0:=oh b0;have B1:=oh b1;clear b0 b1;unfold TkT at HT;cases hx:qB l p with
 | some x =>
  obtain⟨s,q⟩:=x;rw[hx] at HT;simp only at HT;show Calls Tryz.prog 140 #[.pointer (some ⟨B,0,none⟩)] w λe w'=>e=.returned (.string s)/\BrR F w' B (.slice a l.length cp) l q (ok && true)/\zA (λj=>j=B) w w'
  clear hx
  go_enter Tryz.func140, Tryz.ntmps140
  go_wp2_with fail;go_region_held3 (λw'=>w'.cell? ⟨B,0,none⟩=some (.slice a l.length cp)/\w'.cell? ⟨B,1,none⟩=some (.int .i64 (p:Int)))
   (first|(with_reducible exact⟨d0,d1⟩)|(with_reducible exact⟨z0,z1⟩)|fail)
   (first
    | (go_at_call 211;(with_reducible refine (HT.out _ (zss w).drew).mono ?_);rintro e w5 ⟨rfl,hm⟩;have m5:=(zss w).drew.trans hm;have z0:=B0.out _ m5;have z1:=B1.out _ m5)
    | fail)
  have hB5:=HB.out.ext m5;have HB5:=oh hB5;have HM5:=oh m5;have y2:=hB5.d 2 ev0 rfl;have yf:=hB5.frozen;have hbl5:=hB5.lt;clear hm z0 z1 d0 d1 m5 hB5;have HMX:Hid (∀v1 v2,zA (λj=>j=B) w ((w5.setCell ⟨B,2,none⟩ v1).setCell ⟨B,1,none⟩ v2)):=oh λv1 v2=>zA.setCell (F:=λj=>j=B) (zA.setCell (F:=λj=>j=B) HM5.out.ext (p:=⟨B,2,none⟩) (.inr rfl) v1) (p:=⟨B,1,none⟩) (.inr rfl) v2
  have HMY:Hid (∀v2,zA (λj=>j=B) w (w5.setCell ⟨B,1,none⟩ v2)):=oh λv2=>zA.setCell (F:=λj=>j=B) HM5.out.ext (p:=⟨B,1,none⟩) (.inr rfl) v2
  cases ok with
  | true =>
   have h0:ev0=.nilIface:=HO.out;subst h0;go_wp2_with fail;go_ret;exact⟨rfl,zFa HF.out HS.out ((HB5.out.set 2 .nilIface).set 1 (.int .i64 (q:Int))) (HMX.out _ _) rfl rfl,HMX.out _ _⟩
  | false =>
   obtain⟨f,rfl⟩:=HO.out;unfold zI at y2;go_wp2_with fail;go_ret;exact⟨rfl,zFa HF.out HS.out (HB5.out.set 1 (.int .i64 (q:Int))) (HMY.out _) rfl ⟨f,rfl⟩,HMY.out _⟩
 | none =>
  rw[hx] at HT;simp only at HT;show Calls Tryz.prog 140 #[.pointer (some ⟨B,0,none⟩)] w λe w'=>e=.returned (.string e0)/\BrR F w' B (.slice a l.length cp) l p (ok && false)/\zA (λj=>j=B) w w'
  clear hx
  go_enter Tryz.func140, Tryz.ntmps140
  go_wp2_with fail;go_region_held3 (λw'=>w'.cell? ⟨B,0,none⟩=some (.slice a l.length cp)/\w'.cell? ⟨B,1,none⟩=some (.int .i64 (p:Int)))
   (first|(with_reducible exact⟨d0,d1⟩)|(with_reducible exact⟨z0,z1⟩)|fail)
   (first
    | (go_at_call 211;(with_reducible refine (HT.out _ (zss w).drew).mono ?_);rintro e w5 ⟨⟨f,rfl⟩,hm⟩;have m5:=(zss w).drew.trans hm;have z0:=B0.out _ m5;have z1:=B1.out _ m5)
    | fail)
  have hB5:=HB.out.ext m5;have HB5:=oh hB5;have HM5:=oh m5;have y2:=hB5.d 2 ev0 rfl;have yf:=hB5.frozen;have hbl5:=hB5.lt;clear hm z0 z1 d0 d1 m5 hB5;have HMX:Hid (∀v1,zA (λj=>j=B) w (w5.setCell ⟨B,2,none⟩ v1)):=oh λv1=>zA.setCell (F:=λj=>j=B) HM5.out.ext (p:=⟨B,2,none⟩) (.inr rfl) v1
  unfold zI;cases ok with
  | true =>
   have h0:ev0=.nilIface:=HO.out;subst h0;go_wp2_with fail;go_ret;exact⟨rfl,zFa HF.out HS.out (HB5.out.set 2 (zI f)) (HMX.out _) rfl ⟨f,rfl⟩,HMX.out _⟩
  | false =>
   obtain⟨f0,rfl⟩:=HO.out;unfold zI at y2;go_wp2_with fail;go_ret;exact⟨rfl,zFa HF.out HS.out HB5.out HM5.out.ext rfl ⟨f0,rfl⟩,HM5.out.ext⟩
end
section
variable {F:NP}{ad:Nat->Addr}{w w':World}
theorem zQq(l:List zE)(lv:Value)(hl:Sl F w 2 vI lv l) :
  Calls Tryz.prog 142 #[lv] w λe w'=>e=.returned (.bool (vZ e0 l))/\zG w w':=by
 have HL:=oh hl;obtain⟨la,lc,rfl,h1,h2,h3, -⟩:=hl;unfold maxLen at h2
 go_enter Tryz.func142, Tryz.ntmps142
 go_wp2_with fail;go_loopg [3,8] l.length (λm v3 v8 wr=>∃(k:Nat) (last:ByteArray),k+m=l.length/\v3=.string last/\v8=.int .i64 (k:Int)/\Hid (vZ last (l.drop k)=vZ e0 l/\zG w wr))
 case atStart=>exact⟨0,e0,by omega,rfl,rfl,oh ⟨rfl,zA.refl _ _⟩⟩
 case round =>
  obtain⟨k,last,hkm,rfl,rfl,HR⟩:=hrel;by_cases hlt:k<l.length
  .obtain⟨qb,qoff,hqa,hc⟩:=HL.out.elem hlt HR.out.2;have c0:=hc 0 (.string l[k].1) rfl;have c1:=hc 1 (.string l[k].2) rfl;simp only[uO] at c0;subst hqa;have hdr:l.drop k=l[k] :: l.drop (k+1):=wK hlt;obtain⟨x,hx⟩:∃x,x=l[k]:=⟨_,rfl⟩;obtain⟨key,v⟩:=x;rw[<- hx] at c0 c1 hdr;simp only at c0 c1;have HRB:Hid (vZ e0 l=(qP key && qH last key && decide (v.size<=4096) && vZ key (l.drop (k+1)))):=oh (by rw[<- HR.out.1,hdr,vZ]);have i1:(0:Int)<=(k:Int):=by omega
   have i2:(k:Int)<(l.length:Int):=by omega
   have HX:Hid (∀W,zG wr W->zG w W):=oh (λW m=>HR.out.2.trans m);have m0:zG wr (wr.alloc (.cells #[.string key,.string v] 105)):=(zss wr).alloc _;have HK:=oh (zBd key);have HM0:=oh m0;obtain⟨kb,hkb⟩:∃kb,kb=qP key:=⟨_,rfl⟩;rw[<- hkb] at HK HRB;clear hc hdr hx m0 hkb;cases kb with
   | false =>
    have HF:Hid (vZ e0 l=false):=oh (by rw[HRB.out];rfl);go_wp2_with fail;refine (HK.out _).mono ?_;rintro e w4 ⟨rfl,rfl⟩;go_wp2_with fail;go_ret;exact⟨by rw[HF.out];rfl,HX.out _ HM0.out⟩
   | true =>
    go_wp2_with fail;refine (HK.out _).mono ?_;rintro e w4 ⟨rfl,rfl⟩;cases ht:qH last key with
    | false =>
     have HF:Hid (vZ e0 l=false):=oh (by rw[HRB.out,ht];rfl);have hle:(Op.bytesLess key.toList last.toList || key.toList == last.toList)=true:=by
      rcases zEs last key with h|h|h
      .rw[h] at ht;cases ht
      .rw[h];simp
      .unfold qH at h;rw[h];rfl
     clear ht;go_wp2_with fail;go_ret;exact⟨by rw[HF.out];rfl,HX.out _ HM0.out⟩
    | true =>
     have hb1:Op.bytesLess key.toList last.toList=false:=by have:=zBj ht;unfold qH at this;exact this
     have hb2:(key.toList == last.toList)=false:=uS.2 (λe=>zBt ht (toList_inj e).symm);by_cases hv:v.size<=4096
     .have HF:Hid (vZ e0 l=vZ key (l.drop (k+1))):=oh (by rw[HRB.out,ht,uU hv];rfl);have hv2:¬ (4096:Int)<(v.size:Int):=by omega
      clear ht hv;go_wp2_with fail;go_roundg (gk-1)
      case measure=>omega
      case rel=>exact⟨k+1,key,by omega,rfl,by go_num,oh ⟨HF.out.symm,HX.out _ HM0.out⟩⟩
     .have HF:Hid (vZ e0 l=false):=oh (by rw[HRB.out,ht,uX hv];rfl);have hv2:(4096:Int)<(v.size:Int):=by omega
      clear ht hv;go_wp2_with fail;go_ret;exact⟨by rw[HF.out];rfl,HX.out _ HM0.out⟩
  .have hke:k=l.length:=by omega
   subst hke;have HQ:=HR;go_wp2_with fail;go_ret;exact⟨by rw[<- HQ.out.1,List.drop_length];rfl,HQ.out.2⟩
end
end
section
open Go.RowKit
section
variable {F:NP}{w:World}
theorem zJW(w:World)(e:TypeId)(s:ByteArray):zG w (Lib.bytesWorld w e s) :=
 ⟨rfl,rfl,rfl,by rw[Lib.bytesWorld_size];omega,λk hk _=>Lib.bytesWorld_at_old w e s k hk⟩
theorem zQr(w:World)(e:TypeId)(s:ByteArray)(hF:¬ F w.heap.size)(hs:s.size<=140737488355328):Sl F (Lib.bytesWorld w e s) 1 zO (.slice (some ⟨w.heap.size,0,none⟩) s.size (grownCap w s.size 0 e)) s.data.toList:=by
 refine⟨some ⟨w.heap.size,0,none⟩,_,by rw[yY],by rw[yY];exact grownCap_ge _ _ _ _,grownCap_le_maxLen _ _ _ _ (by unfold maxLen;omega),by rw[yY];exact hs,.inr ⟨w.heap.size,0,rfl,by rw[Lib.bytesWorld_size];omega,hF,λi x hi j u hu=>?_⟩⟩;obtain⟨hi1,hi2⟩:=uB.1 hi;rw[yY] at hi1;have hj:j=0:=by
  have:=(uB.1 hu).1;simp[zO] at this;omega
 subst hj;have hc:=Lib.bytesWorld_cell w e s i hi1;rw[uY,uO,uV,hc];have hx:s.data.toList.getD i 0=x:=by rw[tM,hi];rfl
 rw[hx];simpa[zO] using hu
end
end
section
open Go.RowKit
attribute [local go_sem ↓] Go.wp_at_zero Go.wp_at_succ
section
variable {F:NP}{w w':World}
theorem zRv{W:World}{G:NP}{b:Nat}(n:Nat)(hn:n<65536)(h:W.heap[b]? = some (.cells #[.int .u8 ((n:Int) % 256),.int .u8 ((n:Int) / 256)] 5 (0,0)))(hF:¬ G b):Sl G W 1 zO (.slice (some ⟨b,0,none⟩) 2 2) (zV 2 n):=by
 refine⟨_,2,by rw[zAk],by rw[zAk];omega,by simp[maxLen],by rw[zAk];omega,.inr ⟨b,0,rfl,(tA.1 h).1,hF,λi z hi j u hu=>?_⟩⟩;have e:zV 2 n=[UInt8.ofNat n,UInt8.ofNat (n / 256)]:=by simp[zV]
 rw[e] at hi;have hj:j=0:=by
  have:=(uB.1 hu).1;simp[zO] at this;omega
 subst hj;rw[yW h];match i,hi with
 | 0,hi =>
  simp at hi;subst hi;simp[zO] at hu;subst hu;simp
 | 1,hi =>
  simp at hi;subst hi;simp[zO] at hu;subst hu;simp;omega
 | i+2,hi=>simp at hi
theorem zIx(bv:Value)(l:List UInt8)(hb:Sl F w 1 zO bv l)(s:ByteArray)(hs:s.size<=65535)(hlen:l.length<=1000000000) :
  Calls Tryz.prog 126 #[bv,.string s] w λe w'=>∃a c,e=.returned (.tuple #[.slice a (l.length+2+s.size) c,.int .i64 0]) /\
   yA (λ_=>False) w' w.heap.size 5 1 zO (.slice a (l.length+2+s.size) c) (l++zAl s)/\zG w w':=by
 have HB:=oh hb;obtain⟨ba,bc,rfl,i1,i2,i3,i4⟩:=hb;obtain⟨n,hn⟩:∃n,n=s.size:=⟨_,rfl⟩;have HN:=oh hn;have hs2:n<=65535:=by omega
 have hsl:¬ (65535:Int)<(s.size:Int):=by omega
 have hse:(s.size:Int)=(n:Int):=by omega
 have t1:(n:Int).tmod 256=(n:Int) % 256:=by rw[rA (by omega)]
 have t2:(n:Int).tdiv 256=(n:Int) / 256:=by rw[rN (by omega)]
 have u1:IntKind.u8.wrap ((n:Int) % 256)=(n:Int) % 256:=IntWalk.u8_in _ (by omega);have u2:IntKind.u8.wrap ((n:Int) / 256)=(n:Int) / 256:=IntWalk.u8_in _ (by omega);clear i4 hs hn
 go_enter Tryz.func126, Tryz.ntmps126
 go_wp2_with (first
  | (at_builtin;refine yC Tryz.elB yU rfl _ _ rfl w.heap.size (.slice (some ⟨w.heap.size,0,none⟩) 0 0) _ ([]:List UInt8) l rfl rfl (yA.made (cur:=#[]) (b:=w.heap.size) (cap:=0) (l:=([]:List UInt8)) (sz:=1) (enc:=zO) (F:=λ_=>False) (zK.new w #[] 5) (uJ _) (λf=>f) (by simp) (by simp[maxLen]) rfl rfl yU.len) (HB.out.ext ((zss w).alloc _)) (by simp;omega) (by simp) (λf=>f) ?_;simp only[uF,uV,wN];intro a4 c4 w4 hO4 hm4 hat4;have x4:zG w w4:=((zss w).alloc (.cells #[] 5)).trans' hm4 (λi hi h=>by simp[Value.ownBlock] at h;omega);have y4:=x4.size)
  | (at_builtin;refine yC Tryz.elB yU rfl _ _ rfl w.heap.size (.slice a4 l.length c4) (.slice (some ⟨w4.heap.size,0,none⟩) 2 2) l (zV 2 n) rfl rfl (hO4.ext (zr.alloc _)) (zRv (G:=λ_=>False) n (by omega) (zM rfl) (λf=>f)) (by simp[zAk];omega) (by simp;omega) (λf=>f) ?_;intro a5 c5 w5 hO5 hm5 hat5;rw[zAk] at hO5;have x5:zG w w5:=(x4.alloc (.cells #[.int .u8 ((n:Int) % 256),.int .u8 ((n:Int) / 256)] 5)).trans' hm5 (λi hi h=>by have:=(hO4.lt i h).1;omega);have y5:=x5.size;have hcv:=Go.Lib.run_convert_string_bytes (P:=Tryz.prog) w5 9 27 5 s Tryz.underlying9 Tryz.underlying27 Tryz.underlying5)
  | (at_builtin;refine yC Tryz.elB yU rfl _ _ rfl w.heap.size (.slice a5 (l.length+2) c5) _ (l++zV 2 n) s.data.toList rfl rfl (hO5.ext (zJW w5 _ s)) (zQr (F:=λ_=>False) w5 _ s (λf=>f) (by omega)) (by rw[yY];simp[zAk];omega) (by rw[Lib.bytesWorld_size];omega) (λf=>f) ?_;intro a6 c6 w6 hO6 hm6 hat6)
  | fail)
 have x6:zG w w6:=(x5.trans (zJW w5 5 s)).trans' hm6 (λi hi h=>by have:=(hO5.lt i h).1;omega);have HX:=oh x6;have HO:=oh hO6;clear hO4 hO5 hO6 hm4 hm5 hm6 hat4 hat5 hat6 x4 x5 x6 hcv;go_ret2
 rw[yY] at HO;refine⟨a6,c6,?_,?_,HX.out⟩
 .first|rfl|(simp[zAk])
 .have h:=HO.out;rw[uC,zAk] at h;unfold zAl;rw[<- HN.out,<- uM];first|exact h|(rw[HN.out];exact h)|(rw[<- HN.out] at h;exact h)
end
section
variable {F:NP}{ad:Nat->Addr}{w w':World}
theorem zG6(hL:yE F ad w)(hfu:zDm ad)(ev:Value)(o:Option Err)(he:zCa F ad w ev o)(k:Nat)(hk:k<100) : Calls Tryz.prog 27 #[ev,.int .i64 (k:Int)] w λe w'=>e=.returned (.bool (decide (zJQ o=k)))/\w=w':=by
 have HL:=oh hL;have HFU:=oh hfu;clear hL hfu;cases o with
 | none =>
  obtain rfl:ev=.nilIface:=he;by_cases h0:k=0
  .subst h0
   go_enter Tryz.func27, Tryz.ntmps27
   go_wp2_with fail;refine (zQE _).mono ?_;rintro e w1 ⟨rfl,rfl⟩;go_wp2_with fail;go_ret;exact⟨rfl,rfl⟩
  .have hd:((k:Int) == 0)=false:=by rw[uS];omega
   go_enter Tryz.func27, Tryz.ntmps27
   go_wp2_with fail;go_ret;refine⟨?_,rfl⟩;have:decide (zJQ none=k)=false:=by rw[decide_eq_false_iff_not];exact λe=>h0 e.symm
   rw[this];rfl
 | some er =>
  obtain⟨el,ek⟩:=er;obtain⟨b,rfl,he⟩:=he;have hek:=he.code;have HE:=oh he;clear he;by_cases h0:k=0
  .subst h0
   go_enter Tryz.func27, Tryz.ntmps27
   go_wp2_with fail;go_ret;refine⟨?_,rfl⟩;have:decide (zJQ (some (el,ek))=0)=false:=by rw[decide_eq_false_iff_not];show ¬ ek=0;omega
   rw[this];rfl
  .have hd:((k:Int) == 0)=false:=by rw[uS];omega
   go_enter Tryz.func27, Tryz.ntmps27
   go_wp2_with fail;refine (zQD HL.out HFU.out _ el ek HE.out).mono ?_;rintro e w1 ⟨rfl,rfl⟩;go_wp2_with fail;go_ret;refine⟨?_,rfl⟩;have:decide (zJQ (some (el,ek))=k)=((ek:Int) == (k:Int)):=by
    show decide (ek=k)=_;rw[Bool.eq_iff_iff,decide_eq_true_iff,rC];omega
   rw[this];rfl
end
theorem zF2{F:NP}{ad:Nat->Addr}{w:World}{el:List Int}{k:Nat}(hL:yE F ad w)(hfu:zDm ad){f:Nat}(he:yN F ad w (zI f) el k)(q:Nat)(hq:q<100)(hk:k=q) : Calls Tryz.prog 27 #[zI f,.int .i64 (q:Int)] w λe w'=>e=.returned (.bool true)/\w=w':=by
 refine (zG6 hL hfu (zI f) (some (el,k)) ⟨f,rfl,he⟩ q hq).mono ?_;rintro e w' ⟨rfl,h⟩;refine⟨?_,h⟩;have:decide (zJQ (some (el,k))=q)=true:=uU hk;rw[this]
end
end Go.Proofs.YtgphfebjjedeaaaGreatDoor
