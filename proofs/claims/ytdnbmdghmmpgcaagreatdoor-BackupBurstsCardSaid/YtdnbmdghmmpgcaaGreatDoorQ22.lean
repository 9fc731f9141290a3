import Derived.Test.YtdnbmdghmmpgcaaGreatDoorQ21
import Derived.OwnWalk
import Derived.Lib.ConvBytes
import Derived.Laws.AppendOwn
namespace Go.Proofs.YtdnbmdghmmpgcaaGreatDoor
open Lib renaming hid->oh
set_option maxHeartbeats 2000000
set_option maxRecDepth 100000
section
open Go.RowKit
attribute [local go_sem ↓] Go.wp_at_zero Go.wp_at_succ
section
variable {F:Nat->Prop}{ad:Nat->Addr}{w w':World}{B:Nat}{l:List UInt8}
theorem zM7(hL:yG F ad w)(bv:Value)(l:List UInt8)(hb:Sl F w 1 zT bv l)(s:ByteArray)(hs:s.size<=65535)(hlen:l.length<=900000000) :
  Calls Tryz.prog 116 #[bv,.string s] w λe w'=>∃a c,e=.returned (.tuple #[.slice a (l.length+2+s.size) c,.nilIface])/\Sl F w' 1 zT (.slice a (l.length+2+s.size) c) (l++qE s)/\zG w w':=by
 have HPU:=oh (zAu hL bv l hb s.size 2 (by decide) (by show s.size<65536;omega) (by omega));have HLF:=oh (λk (h:F k)=>hL.lt k h);obtain⟨a,c,rfl, -⟩:=hb;obtain⟨n,hn⟩:∃n,n=s.size:=⟨_,rfl⟩;have HN:=oh hn;obtain⟨L,hl⟩:∃n,n=l.length:=⟨_,rfl⟩;have HLN:=oh hl;have e1:¬ (65535:Int)<(s.size:Int):=by omega
 clear hL hn hl
 go_enter Tryz.func116, Tryz.ntmps116
 go_wp2_with fail;refine HPU.out.mono ?_;rintro e w1 ⟨a1,c1,rfl,hO1,m1⟩;have HO1:=oh (hO1.blocks (G:=λ_=>False) (λ_ _ f=>f));have HM1:=oh m1;have HZ1:=oh m1.size;have hql:(l++zU 2 s.size).length=l.length+2:=by rw[uA,zC]
 have HQL:=oh hql;clear hO1 m1 hql;go_wp2_with (at_builtin;refine zHH Tryz.elB Tryz.underlying9 rfl _ _ rfl w.heap.size (.slice a1 (l.length+2) c1) (l++zU 2 s.size) s rfl rfl HO1.out (by rw[HQL.out];omega) HZ1.out ?_;intro a2 c2 w2 hO2 hg2;rw[HQL.out] at hO2 ⊢;have HO2:=oh hO2;have HM2:Hid (zG w w2):=oh (zA.grown HM1.out hg2 (λk hk=>.inl (HO1.out.lt k hk).1));clear hO2 hg2);go_ret2
 refine⟨a2,c2,rfl,?_,HM2.out⟩;have e:l++qE s=l++zU 2 s.size++s.data.toList:=by unfold qE;rw[uJ]
 rw[e];exact (HO2.out.blocks (G:=F) (λg hg f=>by have:=(HO2.out.lt g hg).1;have:=HLF.out g f;omega)).sl (λ_=>rfl) (by rw[uA,HQL.out,qP];omega)
def BwR(F:Nat->Prop)(w:World)(B:Nat)(l:List UInt8):Prop:=∃v,zK w B #[v,.nilIface] 199 /\ Sl F w 1 zT v l
theorem BwR.ext(h:BwR F w B l)(m:zG w w'):BwR F w' B l:=by
 obtain⟨v,h1,h2⟩:=h;exact⟨v,h1.ext m,h2.ext m⟩
theorem zQd{v v':Value}(hF:F B)(h1:zK w B #[v,.nilIface] 199)(h2:Sl F w 1 zT v' l):BwR F ((w.setCell ⟨B,0,none⟩ v').setCell ⟨B,1,none⟩ .nilIface) B l/\zA (λj=>j=B) w ((w.setCell ⟨B,0,none⟩ v').setCell ⟨B,1,none⟩ .nilIface):=by
 have m:zA (λj=>j=B) w ((w.setCell ⟨B,0,none⟩ v').setCell ⟨B,1,none⟩ .nilIface):=zA.setCell (F:=λj=>j=B) (zA.setCell (F:=λj=>j=B) (zA.refl _ w) (p:=⟨B,0,none⟩) (.inr rfl) _) (p:=⟨B,1,none⟩) (.inr rfl) _;exact⟨⟨v',by simpa using (h1.set 0 v').set 1 .nilIface,h2.mods (m.mono (λj h=>by have h':j=B:=h;rw[h'];exact hF))⟩,m⟩
theorem zFM(hL:yG F ad w)(hF:F B)(h:BwR F w B l)(n W:Nat)(hW:W=1\/W=2\/W=4\/W=8)(hn:n<256 ^ W)(hlen:l.length<=900000000) :
  Calls Tryz.prog 108 #[.pointer (some ⟨B,0,none⟩),.int .u64 (n:Int),.int .i64 (W:Int)] w λe w'=>e=.returned (.tuple #[])/\BwR F w' B (l++zU W n)/\zA (λj=>j=B) w w':=by
 obtain⟨v,hB,hS⟩:=h;have HPU:=oh (zAu hL v l hS n W hW hn (by omega));have b0:=hB.cell (o:=0) (v:=v) rfl;have b1:=hB.cell (o:=1) (v:=.nilIface) rfl;have HB:=oh hB;have HF:=oh hF;have hbl:=hB.lt;have HLW:=oh (show l.length+W<=140737488355328 by rcases hW with rfl|rfl|rfl|rfl <;> omega);clear hL hF hB hn hW;obtain⟨a,c,rfl, -⟩:=hS
 go_enter Tryz.func108, Tryz.ntmps108
 go_wp2_with fail;refine HPU.out.mono ?_;rintro e w1 ⟨a1,c1,rfl,hO1,m1⟩;have hB1:=HB.out.ext m1;have b0:=hB1.cell (o:=0) (v:=.slice a l.length c) rfl;have b1:=hB1.cell (o:=1) (v:=.nilIface) rfl;have bf:=hB1.frozen;have HS1:=oh (hO1.sl (λ_=>rfl) (by rw[uA,zC];exact HLW.out));have HB1:=oh hB1;have HM1:=oh m1;clear hO1 m1 hB1;go_wp2_with fail;go_end0
 obtain⟨r1,r2⟩:=zQd HF.out HB1.out HS1.out;exact⟨rfl,r1,HM1.out.ext.trans r2⟩
theorem zFm(hL:yG F ad w)(hF:F B)(h:BwR F w B l)(s:ByteArray)(hs:s.size<=65535)(hlen:l.length<=900000000) :
  Calls Tryz.prog 66 #[.pointer (some ⟨B,0,none⟩),.string s] w λe w'=>e=.returned (.tuple #[])/\BwR F w' B (l++qE s)/\zA (λj=>j=B) w w':=by
 obtain⟨v,hB,hS⟩:=h;have HPU:=oh (zM7 hL v l hS s hs hlen);have b0:=hB.cell (o:=0) (v:=v) rfl;have b1:=hB.cell (o:=1) (v:=.nilIface) rfl;have HB:=oh hB;have HF:=oh hF;have hbl:=hB.lt;clear hL hF hB hs;obtain⟨a,c,rfl, -⟩:=hS
 go_enter Tryz.func66, Tryz.ntmps66
 go_wp2_with fail;refine HPU.out.mono ?_;rintro e w1 ⟨a1,c1,rfl,hS1,m1⟩;have hB1:=HB.out.ext m1;have b0:=hB1.cell (o:=0) (v:=.slice a l.length c) rfl;have b1:=hB1.cell (o:=1) (v:=.nilIface) rfl;have bf:=hB1.frozen;have HS1:=oh hS1;have HB1:=oh hB1;have HM1:=oh m1;clear hS1 m1 hB1;go_wp2_with fail;go_end0
 obtain⟨r1,r2⟩:=zQd HF.out HB1.out HS1.out;exact⟨rfl,r1,HM1.out.ext.trans r2⟩
end
section
variable {F:Nat->Prop}{ad:Nat->Addr}{w w':World}
def TkT(l:List UInt8)(p:Nat)(e:Ending):Prop:=match vY l p with
 | some (s,q)=>e=.returned (.tuple #[.string s,.int .i64 (q:Int),.nilIface])
 | none=>∃f,e=.returned (.tuple #[.string e0,.int .i64 0,zJ f])
theorem zKR(hL:yG F ad w)(bv:Value)(l:List UInt8)(hb:Sl F w 1 zT bv l)(p:Nat)(hp:p<=2000000000)(hlen:l.length<=2000000000) :
  Calls Tryz.prog 120 #[bv,.int .i64 (p:Int)] w λe w'=>TkT l p e/\zG w w':=by
 have HT:=oh (zDY hL bv l hb (p:Int) 2 (by decide));have HL:=oh hL;have HB:=oh hb;have g1:=hL.c1;obtain⟨a,cap,rfl,hz1,hz2,hz3,hz4⟩:=id hb;unfold maxLen at hz2;clear hL hb;by_cases h1:p+2<=l.length
 .have htk:qO l (p:Int) 2=(zZ l p 2,none):=by
   unfold qO;rw[if_neg (by omega),if_neg (by omega)];rfl
  rw[htk] at HT;have hlt:=jH l p 2;obtain⟨n,hn⟩:∃n,n=zZ l p 2:=⟨_,rfl⟩;rw[<- hn] at HT hlt;have hn2:n<65536:=hlt;have hq:IntKind.i64.wrap (n:Int)=(n:Int):=IntWalk.i64_in _ (by omega);by_cases h2:p+2+n<=l.length
  .have HW:Hid (vY l p=some (⟨((l.drop (p+2)).take n).toArray⟩,p+2+n)):=oh (by unfold vY;rw[<- hn,if_pos ⟨h1,h2⟩]);obtain⟨bb,off,rfl⟩:∃bb off,a=some ⟨bb,off,none⟩:=by
    rcases hz4 with h|⟨bb,off,h,_⟩
    .rw[h] at h1;simp at h1
    .exact⟨bb,off,h⟩
   have hcv:∀W,zG w W->(convert 26 9 (.slice (if cap=p+2 then some ⟨bb,off,none⟩ else some ⟨bb,off+(p+2),none⟩) n (cap-(p+2)))).run Tryz.prog W=.ok (.string ⟨((l.drop (p+2)).take n).toArray⟩) W:=λW m=>by
    have hsl:Sl F W 1 zT (.slice (if cap=p+2 then some ⟨bb,off,none⟩ else some ⟨bb,off+(p+2),none⟩) n (cap-(p+2))) ((l.drop (p+2)).take n):=by
     have hln:((l.drop (p+2)).take n).length=n:=by simp;omega
     split
     .have hn0:n=0:=by omega
      subst hn0;exact⟨some ⟨bb,off,none⟩,cap-(p+2),by simp,by simp,by unfold maxLen;omega,by simp,.inl (by simp)⟩
     .have:=Sl.sub (HB.out.ext m) (p+2) (p+2+n) (by omega) h2;rw[u9,show p+2+n-(p+2)=n by omega] at this;exact this
    exact zDA (P:=Tryz.prog) Tryz.underlying26 Tryz.underlying5 Tryz.underlying9 hsl
   have HCV:=oh hcv;clear hn hlt hcv hz4
   go_enter Tryz.func120, Tryz.ntmps120
   go_wp2_with fail;refine HT.out.mono ?_;rintro e w1 ⟨ev,rfl,hE,hm⟩;have hev:ev=.nilIface:=hE;subst hev;have hcv:=HCV.out w1 hm;have HM:=oh hm;clear hE hm;go_wp2_with fail;all_goals
    go_ret3
    refine⟨?_,HM.out⟩;unfold TkT;rw[HW.out];rfl
  .have HW:Hid (vY l p=none):=oh (by unfold vY;rw[<- hn,if_neg (λh=>h2 h.2)]);have h3:(l.length:Int)-(p:Int)-2<(n:Int):=by omega
   clear hn hlt hz4 hq
   go_enter Tryz.func120, Tryz.ntmps120
   go_wp2_with fail;refine HT.out.mono ?_;rintro e w1 ⟨ev,rfl,hE,hm⟩;have hev:ev=.nilIface:=hE;subst hev;have hL1:=HL.out.mods hm.ext;have g1:=hL1.c1;have HL1:=oh hL1;have HM:=oh hm;clear hE hm hL1;go_wp2_with fail;refine (yW HL1.out _ _ [] 1 (.sent 1 (by decide) (by decide))).mono ?_;rintro e w2 ⟨f,rfl, -,hm2⟩;have HM2:=oh (HM.out.trans hm2);clear hm2;go_wp2_with fail;go_ret3
   refine⟨?_,HM2.out⟩;unfold TkT;rw[HW.out];exact⟨f,rfl⟩
 .have HW:Hid (vY l p=none):=oh (by unfold vY;rw[if_neg (λh=>h1 h.1)]);obtain⟨el,ek,htk⟩:∃el ek,qO l (p:Int) 2=(0,some (el,ek)):=by
   unfold qO;by_cases h3:(p:Int)<0\/(l.length:Int)<(p:Int)
   .rw[if_pos h3];exact⟨_,_,rfl⟩
   .rw[if_neg h3,if_pos (by omega)];exact⟨_,_,rfl⟩
  rw[htk] at HT;clear htk h1 hz4
  go_enter Tryz.func120, Tryz.ntmps120
  go_wp2_with fail;refine HT.out.mono ?_;rintro e w1 ⟨ev,rfl,⟨f,rfl,hE⟩,hm⟩;have HL1:=oh (HL.out.mods hm.ext);have HE:=oh hE;have HM:=oh hm;clear hE hm;unfold zJ;go_wp2_with fail;refine (wrap_any HL1.out _ _ _ _ HE.out).mono ?_;rintro e w2 ⟨f2,rfl, -,hm2⟩;have HM2:=oh (HM.out.trans hm2);clear hm2;go_wp2_with fail;go_ret3
  refine⟨?_,HM2.out⟩;unfold TkT;rw[HW.out];exact⟨f2,rfl⟩
end
section
variable {F:Nat->Prop}{ad:Nat->Addr}{w w':World}{B:Nat}{v:Value}{l:List UInt8}{p:Nat}{ok:Bool}
def okV(ok:Bool)(v:Value):Prop:=if ok=true then v=.nilIface else ∃f,v=zJ f
def BrR(F:Nat->Prop)(w:World)(B:Nat)(v:Value)(l:List UInt8)(p:Nat)(ok:Bool):Prop:=∃ev,zK w B #[v,.int .i64 (p:Int),ev] 128 /\ Sl F w 1 zT v l/\okV ok ev
theorem BrR.ext(h:BrR F w B v l p ok)(m:zG w w'):BrR F w' B v l p ok:=by
 obtain⟨ev,h1,h2,h3⟩:=h;exact⟨ev,h1.ext m,h2.ext m,h3⟩
theorem zFn{v' ev':Value}{q:Nat}{c:Bool}(hF:F B)(hs:Sl F w 1 zT v l)(h1:zK w' B #[v',.int .i64 (q:Int),ev'] 128)(m:zA (λj=>j=B) w w')(hv:v'=v)(hc:okV c ev'):BrR F w' B v l q c:=by
 subst hv;exact⟨ev',h1,hs.mods (m.mono (λj (h:j=B)=>by rw[h];exact hF)),hc⟩
theorem zSv(hL:yG F ad w)(hF:F B)(h:BrR F w B v l p ok)(W:Nat)(hW:W=1\/W=2\/W=4\/W=8)(hp:p<=2000000000) :
  Calls Tryz.prog 117 #[.pointer (some ⟨B,0,none⟩),.int .i64 (W:Int)] w λe w'=>e=.returned (.int .u64 ((if p+W<=l.length then zZ l p W else 0:Nat):Int))/\BrR F w' B v l (p+W) (ok && decide (p+W<=l.length))/\zA (λj=>j=B) w w':=by
 obtain⟨ev0,hB,hS,hO⟩:=h;have HT:=oh (λW' (m:zG w W')=>zDY (hL.mods m.ext) v l (hS.ext m) (p:Int) W hW);obtain⟨tv,htv⟩:∃tv,tv=(qO l (p:Int) W).1:=⟨_,rfl⟩;obtain⟨te,hte⟩:∃te,te=(qO l (p:Int) W).2:=⟨_,rfl⟩;rw[<- htv,<- hte] at HT;have HTV:Hid ((if p+W<=l.length then zZ l p W else 0)=tv/\(te.isNone=decide (p+W<=l.length))):=oh (by
  rw[htv,hte];unfold qO;by_cases h0:(p:Int)<0\/(l.length:Int)<(p:Int)
  .rw[if_pos h0,if_neg (by omega)];exact⟨rfl,by simp;omega⟩
  rw[if_neg h0];by_cases h:p+W<=l.length
  .rw[if_pos h,if_neg (by omega)];exact⟨rfl,by simp[h]⟩
  .rw[if_neg h,if_pos (by omega)];exact⟨rfl,by simp[h]⟩)
 obtain⟨c,hc⟩:∃c,c=decide (p+W<=l.length):=⟨_,rfl⟩;rw[HTV.out.1,<- hc];have HTC:Hid (te.isNone=c):=oh (by rw[hc];exact HTV.out.2);clear HTV hc;have hW8:W<=8:=by rcases hW with rfl|rfl|rfl|rfl <;> omega
 have b0:∀W',zG w W'->W'.cell? ⟨B,0,none⟩=some v:=λW' m=>(hB.ext m).cell rfl
 have b1:∀W',zG w W'->W'.cell? ⟨B,1,none⟩=some (.int .i64 (p:Int)):=λW' m=>(hB.ext m).cell rfl
 have HB:=oh hB;have HS:=oh hS;have HF:=oh hF;have HO:=oh hO;have hbl:=hB.lt;clear hL hF hB hte htv hW hO;obtain⟨a,cp,rfl, -⟩:=hS;have d0:=b0 _ (zA.refl _ w).drew;have d1:=b1 _ (zA.refl _ w).drew;have B0:=oh b0;have B1:=oh b1;clear b0 b1
 go_enter Tryz.func117, Tryz.ntmps117
 go_wp2_with fail;go_region_held3 (λw'=>w'.cell? ⟨B,0,none⟩=some (.slice a l.length cp)/\w'.cell? ⟨B,1,none⟩=some (.int .i64 (p:Int)))
  (first|(with_reducible exact⟨d0,d1⟩)|(with_reducible exact⟨z0,z1⟩)|fail)
  (first
   | (go_at_call 118;(with_reducible refine (HT.out _ (zA.refl _ w).drew).mono ?_);rintro e w5 ⟨ev,rfl,hE,hm⟩;have m5:=(zA.refl _ w).drew.trans hm;have z0:=B0.out _ m5;have z1:=B1.out _ m5)
   | fail)
 have hB5:=HB.out.ext m5;have HS5:=oh (HS.out.ext m5);have HB5:=oh hB5;have HM5:=oh m5;have y1:=hB5.cell (o:=1) (v:=.int .i64 (p:Int)) rfl;have y2:=hB5.cell (o:=2) (v:=ev0) rfl;have yf:=hB5.frozen;have hbl5:=hB5.lt;have hOE:okV te.isNone ev:=by
  cases te with
  | none=>exact hE
  | some x=>obtain⟨f,hf,_⟩:=hE;exact⟨f,hf⟩
 rw[HTC.out] at hOE;clear hm z0 z1 d0 d1 m5 hB5 hE;have HMX:Hid (∀v1 v2,zA (λj=>j=B) w ((w5.setCell ⟨B,2,none⟩ v1).setCell ⟨B,1,none⟩ v2)):=oh λv1 v2=>zA.setCell (F:=λj=>j=B) (zA.setCell (F:=λj=>j=B) HM5.out.ext (p:=⟨B,2,none⟩) (.inr rfl) v1) (p:=⟨B,1,none⟩) (.inr rfl) v2
 have HMY:Hid (∀v2,zA (λj=>j=B) w (w5.setCell ⟨B,1,none⟩ v2)):=oh λv2=>zA.setCell (F:=λj=>j=B) HM5.out.ext (p:=⟨B,1,none⟩) (.inr rfl) v2
 cases ok with
 | true =>
  have h0:ev0=.nilIface:=HO.out;subst h0;cases c with
  | true =>
   have h1:ev=.nilIface:=hOE;subst h1;go_wp2_with fail;go_ret;exact⟨rfl,zFn HF.out HS.out ((HB5.out.set 2 .nilIface).set 1 (.int .i64 ((p:Int)+(W:Int)))) (HMX.out _ _) rfl rfl,HMX.out _ _⟩
  | false =>
   obtain⟨f,rfl⟩:=hOE;unfold zJ;go_wp2_with fail;go_ret;exact⟨rfl,zFn HF.out HS.out ((HB5.out.set 2 (zJ f)).set 1 (.int .i64 ((p:Int)+(W:Int)))) (HMX.out _ _) rfl ⟨f,rfl⟩,HMX.out _ _⟩
 | false =>
  obtain⟨f,rfl⟩:=HO.out;unfold zJ at y2;go_wp2_with fail;go_ret;exact⟨rfl,zFn HF.out HS.out (HB5.out.set 1 (.int .i64 ((p:Int)+(W:Int)))) (HMY.out _) rfl ⟨f,rfl⟩,HMY.out _⟩
theorem zM8(hL:yG F ad w)(hF:F B)(h:BrR F w B v l p ok)(hp:p<=2000000000)(hlen:l.length<=2000000000) :
  Calls Tryz.prog 70 #[.pointer (some ⟨B,0,none⟩)] w λe w'=>e=.returned (.string ((vY l p).elim e0 (·.1)))/\BrR F w' B v l ((vY l p).elim p (·.2)) (ok && (vY l p).isSome)/\zA (λj=>j=B) w w':=by
 obtain⟨ev0,hB,hS,hO⟩:=h;have HT:=oh (λW' (m:zG w W')=>zKR (hL.mods m.ext) v l (hS.ext m) p hp hlen);have b0:∀W',zG w W'->W'.cell? ⟨B,0,none⟩=some v:=λW' m=>(hB.ext m).cell rfl
 have b1:∀W',zG w W'->W'.cell? ⟨B,1,none⟩=some (.int .i64 (p:Int)):=λW' m=>(hB.ext m).cell rfl
 have HB:=oh hB;have HS:=oh hS;have HF:=oh hF;have HO:=oh hO;have hbl:=hB.lt;clear hL hF hB hO;obtain⟨a,cp,rfl, -⟩:=hS;have d0:=b0 _ (zA.refl _ w).drew;have d1:=b1 _ (zA.refl _ w).drew;have B0:=oh b0;have B1:=oh b1;clear b0 b1;unfold TkT at HT;cases hx:vY l p with
 | some x =>
  obtain⟨s,q⟩:=x;rw[hx] at HT;simp only at HT;show Calls Tryz.prog 70 #[.pointer (some ⟨B,0,none⟩)] w λe w'=>e=.returned (.string s)/\BrR F w' B (.slice a l.length cp) l q (ok && true)/\zA (λj=>j=B) w w'
  clear hx
  go_enter Tryz.func70, Tryz.ntmps70
  go_wp2_with fail;go_region_held3 (λw'=>w'.cell? ⟨B,0,none⟩=some (.slice a l.length cp)/\w'.cell? ⟨B,1,none⟩=some (.int .i64 (p:Int)))
   (first|(with_reducible exact⟨d0,d1⟩)|(with_reducible exact⟨z0,z1⟩)|fail)
   (first
    | (go_at_call 120;(with_reducible refine (HT.out _ (zA.refl _ w).drew).mono ?_);rintro e w5 ⟨rfl,hm⟩;have m5:=(zA.refl _ w).drew.trans hm;have z0:=B0.out _ m5;have z1:=B1.out _ m5)
    | fail)
  have hB5:=HB.out.ext m5;have HB5:=oh hB5;have HM5:=oh m5;have y2:=hB5.cell (o:=2) (v:=ev0) rfl;have yf:=hB5.frozen;have hbl5:=hB5.lt;clear hm z0 z1 d0 d1 m5 hB5;have HMX:Hid (∀v1 v2,zA (λj=>j=B) w ((w5.setCell ⟨B,2,none⟩ v1).setCell ⟨B,1,none⟩ v2)):=oh λv1 v2=>zA.setCell (F:=λj=>j=B) (zA.setCell (F:=λj=>j=B) HM5.out.ext (p:=⟨B,2,none⟩) (.inr rfl) v1) (p:=⟨B,1,none⟩) (.inr rfl) v2
  have HMY:Hid (∀v2,zA (λj=>j=B) w (w5.setCell ⟨B,1,none⟩ v2)):=oh λv2=>zA.setCell (F:=λj=>j=B) HM5.out.ext (p:=⟨B,1,none⟩) (.inr rfl) v2
  cases ok with
  | true =>
   have h0:ev0=.nilIface:=HO.out;subst h0;go_wp2_with fail;go_ret;exact⟨rfl,zFn HF.out HS.out ((HB5.out.set 2 .nilIface).set 1 (.int .i64 (q:Int))) (HMX.out _ _) rfl rfl,HMX.out _ _⟩
  | false =>
   obtain⟨f,rfl⟩:=HO.out;unfold zJ at y2;go_wp2_with fail;go_ret;exact⟨rfl,zFn HF.out HS.out (HB5.out.set 1 (.int .i64 (q:Int))) (HMY.out _) rfl ⟨f,rfl⟩,HMY.out _⟩
 | none =>
  rw[hx] at HT;simp only at HT;show Calls Tryz.prog 70 #[.pointer (some ⟨B,0,none⟩)] w λe w'=>e=.returned (.string e0)/\BrR F w' B (.slice a l.length cp) l p (ok && false)/\zA (λj=>j=B) w w'
  clear hx
  go_enter Tryz.func70, Tryz.ntmps70
  go_wp2_with fail;go_region_held3 (λw'=>w'.cell? ⟨B,0,none⟩=some (.slice a l.length cp)/\w'.cell? ⟨B,1,none⟩=some (.int .i64 (p:Int)))
   (first|(with_reducible exact⟨d0,d1⟩)|(with_reducible exact⟨z0,z1⟩)|fail)
   (first
    | (go_at_call 120;(with_reducible refine (HT.out _ (zA.refl _ w).drew).mono ?_);rintro e w5 ⟨⟨f,rfl⟩,hm⟩;have m5:=(zA.refl _ w).drew.trans hm;have z0:=B0.out _ m5;have z1:=B1.out _ m5)
    | fail)
  have hB5:=HB.out.ext m5;have HB5:=oh hB5;have HM5:=oh m5;have y2:=hB5.cell (o:=2) (v:=ev0) rfl;have yf:=hB5.frozen;have hbl5:=hB5.lt;clear hm z0 z1 d0 d1 m5 hB5;have HMX:Hid (∀v1,zA (λj=>j=B) w (w5.setCell ⟨B,2,none⟩ v1)):=oh λv1=>zA.setCell (F:=λj=>j=B) HM5.out.ext (p:=⟨B,2,none⟩) (.inr rfl) v1
  unfold zJ;cases ok with
  | true =>
   have h0:ev0=.nilIface:=HO.out;subst h0;go_wp2_with fail;go_ret;exact⟨rfl,zFn HF.out HS.out (HB5.out.set 2 (zJ f)) (HMX.out _) rfl ⟨f,rfl⟩,HMX.out _⟩
  | false =>
   obtain⟨f0,rfl⟩:=HO.out;unfold zJ at y2;go_wp2_with fail;go_ret;exact⟨rfl,zFn HF.out HS.out HB5.out HM5.out.ext rfl ⟨f0,rfl⟩,HM5.out.ext⟩
end
section
variable {F:Nat->Prop}{ad:Nat->Addr}{w w':World}
theorem zIB(l:List zD)(lv:Value)(hl:Sl F w 2 yS lv l) :
  Calls Tryz.prog 50 #[lv] w λe w'=>e=.returned (.bool (vS e0 l))/\zG w w':=by
 have HL:=oh hl;obtain⟨la,lc,rfl,h1,h2,h3, -⟩:=hl;unfold maxLen at h2
 go_enter Tryz.func50, Tryz.ntmps50
 go_wp2_with fail;go_loopg [3,8] l.length (λm v3 v8 wr=>∃(k:Nat) (last:ByteArray),k+m=l.length/\v3=.string last/\v8=.int .i64 (k:Int)/\Hid (vS last (l.drop k)=vS e0 l/\zG w wr))
 case atStart=>exact⟨0,e0,by omega,rfl,rfl,oh ⟨rfl,zA.refl _ _⟩⟩
 case round =>
  obtain⟨k,last,hkm,rfl,rfl,HR⟩:=hrel;by_cases hlt:k<l.length
  .obtain⟨qb,qoff,hqa,hc⟩:=HL.out.elem hlt HR.out.2;have c0:=hc 0 (.string l[k].1) rfl;have c1:=hc 1 (.string l[k].2) rfl;simp only[uP] at c0;subst hqa;have hdr:l.drop k=l[k] :: l.drop (k+1):=wM hlt;obtain⟨x,hx⟩:∃x,x=l[k]:=⟨_,rfl⟩;obtain⟨key,v⟩:=x;rw[<- hx] at c0 c1 hdr;simp only at c0 c1;have HRB:Hid (vS e0 l=(qS key && yX last key && decide (v.size<=4096) && vS key (l.drop (k+1)))):=oh (by rw[<- HR.out.1,hdr,vS]);have i1:(0:Int)<=(k:Int):=by omega
   have i2:(k:Int)<(l.length:Int):=by omega
   have HX:Hid (∀W,zG wr W->zG w W):=oh (λW m=>HR.out.2.trans m);have m0:zG wr (wr.alloc (.cells #[.string key,.string v] 111)):=(zA.refl _ wr).alloc _;have HK:=oh (zAt key);have HM0:=oh m0;obtain⟨kb,hkb⟩:∃kb,kb=qS key:=⟨_,rfl⟩;rw[<- hkb] at HK HRB;clear hc hdr hx m0 hkb;cases kb with
   | false =>
    have HF:Hid (vS e0 l=false):=oh (by rw[HRB.out];rfl);go_wp2_with fail;refine (HK.out _).mono ?_;rintro e w4 ⟨rfl,rfl⟩;go_wp2_with fail;go_ret;exact⟨by rw[HF.out];rfl,HX.out _ HM0.out⟩
   | true =>
    go_wp2_with fail;refine (HK.out _).mono ?_;rintro e w4 ⟨rfl,rfl⟩;cases ht:yX last key with
    | false =>
     have HF:Hid (vS e0 l=false):=oh (by rw[HRB.out,ht];rfl);have hle:(Op.bytesLess key.toList last.toList || key.toList == last.toList)=true:=by
      rcases zF2 last key with h|h|h
      .rw[h] at ht;cases ht
      .rw[h];simp
      .unfold yX at h;rw[h];rfl
     clear ht;go_wp2_with fail;go_ret;exact⟨by rw[HF.out];rfl,HX.out _ HM0.out⟩
    | true =>
     have hb1:Op.bytesLess key.toList last.toList=false:=by have:=zBS ht;unfold yX at this;exact this
     have hb2:(key.toList == last.toList)=false:=uU.2 (λe=>zER ht (toList_inj e).symm);by_cases hv:v.size<=4096
     .have HF:Hid (vS e0 l=vS key (l.drop (k+1))):=oh (by rw[HRB.out,ht,uT hv];rfl);have hv2:¬ (4096:Int)<(v.size:Int):=by omega
      clear ht hv;go_wp2_with fail;go_roundg (gk-1)
      case measure=>omega
      case rel=>exact⟨k+1,key,by omega,rfl,by go_num,oh ⟨HF.out.symm,HX.out _ HM0.out⟩⟩
     .have HF:Hid (vS e0 l=false):=oh (by rw[HRB.out,ht,uX hv];rfl);have hv2:(4096:Int)<(v.size:Int):=by omega
      clear ht hv;go_wp2_with fail;go_ret;exact⟨by rw[HF.out];rfl,HX.out _ HM0.out⟩
  .have hke:k=l.length:=by omega
   subst hke;have HQ:=HR;go_wp2_with fail;go_ret;exact⟨by rw[<- HQ.out.1,List.drop_length];rfl,HQ.out.2⟩
end
end
section
open Go.RowKit
section
variable {A T:List UInt8}{c:ChV}
theorem zRd(h:c.was=false)(hk:c.key.size<65536)(hn:c.new.size<65536) :
  zZ (A++(yN c++T)) A.length 1=1/\vY (A++(yN c++T)) (A.length+1)=some (c.key,A.length+3+c.key.size) /\
  vY (A++(yN c++T)) (A.length+3+c.key.size)=some (c.new,A.length+5+c.key.size+c.new.size)/\(yN c).length=5+c.key.size+c.new.size:=by
 have e:yN c=zU 1 1++qE c.key++qE c.new:=by unfold yN;rw[if_pos h]
 have e1:A++(yN c++T)=A++(zU 1 1++(qE c.key++(qE c.new++T))):=by rw[e];simp only[uJ]
 have e2:A++(yN c++T)=(A++zU 1 1)++(qE c.key++(qE c.new++T)):=by rw[e1];simp only[uJ]
 have e3:A++(yN c++T)=(A++zU 1 1++qE c.key)++(qE c.new++T):=by rw[e1];simp only[uJ]
 have l1:(A++zU 1 1).length=A.length+1:=by rw[uA,zC]
 have l2:(A++zU 1 1++qE c.key).length=A.length+3+c.key.size:=by rw[uA,l1,yL];omega
 refine⟨by rw[e1];exact yU _ _ 1 1 _ rfl (by decide),?_,?_,by rw[e,uA,uA,zC,yL,yL];omega⟩
 .have:=zCD (A:=A++zU 1 1) (B:=qE c.new++T) hk;rw[<- e2,l1] at this;rw[this,show A.length+1+2+c.key.size=A.length+3+c.key.size by omega]
 .have:=zCD (A:=A++zU 1 1++qE c.key) (B:=T) hn;rw[<- e3,l2] at this;rw[this,show A.length+3+c.key.size+2+c.new.size=A.length+5+c.key.size+c.new.size by omega]
theorem zO3(h:c.was=true)(h2:c.is=false)(hk:c.key.size<65536) :
  zZ (A++(yN c++T)) A.length 1=3/\vY (A++(yN c++T)) (A.length+1)=some (c.key,A.length+3+c.key.size) /\
  zZ (A++(yN c++T)) (A.length+3+c.key.size) 4=yC c.old.data.toList/\(yN c).length=7+c.key.size:=by
 have e:yN c=zU 1 3++qE c.key++zU 4 (yC c.old.data.toList):=by unfold yN;rw[if_neg (by rw[h];simp),if_pos h2]
 have e1:A++(yN c++T)=A++(zU 1 3++(qE c.key++(zU 4 (yC c.old.data.toList)++T))):=by rw[e];simp only[uJ]
 have e2:A++(yN c++T)=(A++zU 1 3)++(qE c.key++(zU 4 (yC c.old.data.toList)++T)):=by rw[e1];simp only[uJ]
 have e3:A++(yN c++T)=(A++zU 1 3++qE c.key)++(zU 4 (yC c.old.data.toList)++T):=by rw[e1];simp only[uJ]
 have l1:(A++zU 1 3).length=A.length+1:=by rw[uA,zC]
 have l2:(A++zU 1 3++qE c.key).length=A.length+3+c.key.size:=by rw[uA,l1,yL];omega
 refine⟨by rw[e1];exact yU _ _ 1 3 _ rfl (by decide),?_,?_,by rw[e,uA,uA,zC,zC,yL];omega⟩
 .have:=zCD (A:=A++zU 1 3) (B:=zU 4 (yC c.old.data.toList)++T) hk;rw[<- e2,l1] at this;rw[this,show A.length+1+2+c.key.size=A.length+3+c.key.size by omega]
 .rw[e3];exact yU _ _ 4 _ _ l2 (zA4 _)
theorem zRe(h:c.was=true)(h2:c.is=true)(hk:c.key.size<65536)(hn:c.new.size<65536) :
  zZ (A++(yN c++T)) A.length 1=2/\vY (A++(yN c++T)) (A.length+1)=some (c.key,A.length+3+c.key.size) /\
  vY (A++(yN c++T)) (A.length+3+c.key.size)=some (c.new,A.length+5+c.key.size+c.new.size) /\
  zZ (A++(yN c++T)) (A.length+5+c.key.size+c.new.size) 4=yC c.old.data.toList/\(yN c).length=9+c.key.size+c.new.size:=by
 have e:yN c=zU 1 2++qE c.key++qE c.new++zU 4 (yC c.old.data.toList):=by unfold yN;rw[if_neg (by rw[h];simp),if_neg (by rw[h2];simp)]
 have e1:A++(yN c++T)=A++(zU 1 2++(qE c.key++(qE c.new++(zU 4 (yC c.old.data.toList)++T)))):=by rw[e];simp only[uJ]
 have e2:A++(yN c++T)=(A++zU 1 2)++(qE c.key++(qE c.new++(zU 4 (yC c.old.data.toList)++T))):=by rw[e1];simp only[uJ]
 have e3:A++(yN c++T)=(A++zU 1 2++qE c.key)++(qE c.new++(zU 4 (yC c.old.data.toList)++T)):=by rw[e1];simp only[uJ]
 have e4:A++(yN c++T)=(A++zU 1 2++qE c.key++qE c.new)++(zU 4 (yC c.old.data.toList)++T):=by rw[e1];simp only[uJ]
 have l1:(A++zU 1 2).length=A.length+1:=by rw[uA,zC]
 have l2:(A++zU 1 2++qE c.key).length=A.length+3+c.key.size:=by rw[uA,l1,yL];omega
 have l3:(A++zU 1 2++qE c.key++qE c.new).length=A.length+5+c.key.size+c.new.size:=by rw[uA,l2,yL];omega
 refine⟨by rw[e1];exact yU _ _ 1 2 _ rfl (by decide),?_,?_,?_,by rw[e,uA,uA,uA,zC,zC,yL,yL];omega⟩
 .have:=zCD (A:=A++zU 1 2) (B:=qE c.new++(zU 4 (yC c.old.data.toList)++T)) hk;rw[<- e2,l1] at this;rw[this,show A.length+1+2+c.key.size=A.length+3+c.key.size by omega]
 .have:=zCD (A:=A++zU 1 2++qE c.key) (B:=zU 4 (yC c.old.data.toList)++T) hn;rw[<- e3,l2] at this;rw[this,show A.length+3+c.key.size+2+c.new.size=A.length+5+c.key.size+c.new.size by omega]
 .rw[e4];exact yU _ _ 4 _ _ l3 (zA4 _)
end
def zCy(h:zBj)(o:List ChV)(i:Nat):List UInt8:=qW h++(o.take i).flatMap yN
theorem zLe(h:zBj)(o:List ChV){i:Nat}(hi:i<o.length):∃T,qW h++o.flatMap yN=zCy h o i++(yN o[i]++T)/\zCy h o (i+1)=zCy h o i++yN o[i]:=by
 refine⟨(o.drop (i+1)).flatMap yN,?_,?_⟩
 .unfold zCy;have e:o.flatMap yN=(o.take i).flatMap yN++(yN o[i]++(o.drop (i+1)).flatMap yN):=by
   conv=>lhs;rw[<- uV i o,wT,wM hi,u7]
  rw[e,uJ]
 .unfold zCy;rw[tE hi,wT,List.flatMap_singleton,uJ]
theorem zM9(h:zBj)(o:List ChV):(zCy h o 0).length=25:=by unfold zCy;rw[pX,List.flatMap_nil,wH,vN]
theorem zO4(h:zBj)(o:List ChV):zCy h o o.length=qW h++o.flatMap yN:=by unfold zCy;rw[wX]
section
variable {F:Nat->Prop}{w:World}
theorem zGe(w:World)(e:TypeId)(s:ByteArray):zG w (Lib.bytesWorld w e s) :=
 ⟨rfl,rfl,rfl,by rw[Lib.bytesWorld_size];omega,λk hk _=>Lib.bytesWorld_at_old w e s k hk⟩
theorem zIC(w:World)(e:TypeId)(s:ByteArray)(hF:¬ F w.heap.size)(hs:s.size<=140737488355328):Sl F (Lib.bytesWorld w e s) 1 zT (.slice (some ⟨w.heap.size,0,none⟩) s.size (grownCap w s.size 0 e)) s.data.toList:=by
 refine⟨some ⟨w.heap.size,0,none⟩,_,by rw[qP],by rw[qP];exact grownCap_ge _ _ _ _,grownCap_le_maxLen _ _ _ _ (by unfold maxLen;omega),by rw[qP];exact hs,.inr ⟨w.heap.size,0,rfl,by rw[Lib.bytesWorld_size];omega,hF,λi x hi j u hu=>?_⟩⟩;obtain⟨hi1,hi2⟩:=uC.1 hi;rw[qP] at hi1;have hj:j=0:=by
  have:=(uC.1 hu).1;simp[zT] at this;omega
 subst hj;have hc:=Lib.bytesWorld_cell w e s i hi1;rw[u9,uP,uS,hc];have hx:s.data.toList.getD i 0=x:=by rw[tL,hi];rfl
 rw[hx];simpa[zT] using hu
end
end
end Go.Proofs.YtdnbmdghmmpgcaaGreatDoor
