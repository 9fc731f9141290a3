import Derived.Test.YtchklfmggpconaaGreatDoorK43
namespace Go.Proofs.YtchklfmggpconaaGreatDoor
open Lib renaming hid->oh
set_option maxHeartbeats 2000000
set_option maxRecDepth 100000
section
open Go.RowKit Go.Maps
attribute [local go_sem ↓] Go.wp_at_zero Go.wp_at_succ
section
variable {F P P' F' P1 F1:Nat->Prop}{ad:Nat->Addr}{w w' wr w0:World}{base c s gen kb mb:Nat}{G:GA}{l:List Nat}{pv kv pv' kv':Value}{st st':WkS}
theorem zPJ(ad:Nat->Addr)(base c s gen kb mb:Nat)(G:GA)(l:List Nat):zLt ad base c s gen kb mb G l 0:=by
 intro F P w pv kv st a h hi hd hok;have m0:zJ w (w.alloc (.cells #[.int .i64 a.id,.int .i64 (a.depth:Int),.string a.lo,.string a.hi] 105)):=(zA.refl _ w).alloc _;have H0:=oh (h.ext m0);have HC:=oh (zBX H0.out.1.env a.id);have hdb:(16:Int)<(a.depth:Int):=by omega
 clear h hi hd m0
 go_enter Tryz.func48, Tryz.ntmps48
 go_wp2_with fail;refine (HC.out).mono ?_;rintro y w6 ⟨fe,rfl,hE,hm⟩;have HE:=oh hE;have HM:=oh hm;clear hE hm;go_wp2_with fail;go_ret;have hw:=H0.out.1.ext HM.out;exact WkD.bad hw.1 (H0.out.2.trans hw.2) HE.out rfl
theorem zPK{ad:Nat->Addr}{base c s gen kb mb:Nat}{G:GA}{l:List Nat}(hb:G.blocks<=256)(ht:G.total)(hG:zLE G){f:Nat}(hrec:zLt ad base c s gen kb mb G l f):zLt ad base c s gen kb mb G l (f+1):=by
 intro F P w pv kv st a h hi hd hok;have m0:zJ w (w.alloc (.cells #[.int .i64 a.id,.int .i64 (a.depth:Int),.string a.lo,.string a.hi] 105)):=(zA.refl _ w).alloc _;have H0:=oh (h.ext m0);have HI:=oh hi;have HR:=oh hrec;have HGS:=oh hG;have HT:=oh ht;have HD:=oh hd;have HBL:=oh hb;have HP0:=oh (zL.new w #[.int .i64 a.id,.int .i64 (a.depth:Int),.string a.lo,.string a.hi] 105);have HPN:Hid (¬ wkQ P kb mb pv kv w.heap.size):=oh (λhp=>by have:=h.bd _ hp;omega);have hdb:¬ (16:Int)<(a.depth:Int):=by omega
 have HSE:=oh (zNz H0.out.1.env H0.out.1.sub H0.out.1.bl H0.out.1.wk a.id hok (by have:=hi.1.few;omega));clear h hi hd m0 hrec hG ht hb
 go_enter Tryz.func48, Tryz.ntmps48
 go_wp2_with fail;refine (HSE.out).mono ?_;rintro x w1 hs;unfold zQQ at hs;cases hsw:zFC st a.id with
 | inr er =>
  obtain⟨el,ek⟩:=er;rw[hsw] at hs;obtain⟨fe,rfl,hE,hm⟩:=hs;have HE:=oh hE;have HX:=oh (H0.out.1.ext hm);have HZ:Hid (zAB G gen (f+1) a st=.inr (el,ek)):=oh (by rw[zAB,hsw]);clear hE hm hsw;go_wp2_with fail;go_ret;exact WkD.bad HX.out.1 (H0.out.2.trans HX.out.2) HE.out HZ.out
 | inl st1 =>
  rw[hsw] at hs;obtain⟨pv1,rfl,hw1,hm1,hat1⟩:=hs;obtain⟨h1,n1⟩:=H0.out.1.saw hw1 hm1 hat1;have H1:=oh h1;have N1:=oh (H0.out.2.trans n1);have HPB1:=oh (n1.blk HP0.out HPN.out);have HPN1:=oh (n1.not HP0.out.lt HPN.out);have HSW:=oh hsw;have p0:=HPB1.out.cell (o:=0) (v:=.int .i64 a.id) rfl;have HYC:=oh (zJM h1.env h1.sub h1.pg h1.wk.blk rfl rfl (h1.wk.nP kb (.inl rfl)).2 a.id (HT.out.knows a.id));clear hw1 hm1 hat1 h1 n1 hsw;go_wp2_with fail;refine (HYC.out).mono ?_;rintro x w7 ⟨P7,F7,hG7,hN7,hres⟩;obtain⟨h7,n7⟩:=H1.out.pag hN7 hG7;have H7:=oh h7;have N7:=oh (N1.out.trans n7);have HPB7:=oh (n7.blk HPB1.out HPN1.out);have HPN7:=oh (n7.not HPB1.out.lt HPN1.out);clear hG7 hN7 h7 n7 p0;cases hyw:zAb G gen a.id with
  | inr er =>
   obtain⟨el,ek⟩:=er;rw[hyw] at hres;obtain⟨x0,x1,x2,a7,n8,c7,fe,rfl,hE⟩:=hres;have HE:=oh hE;have HZ:Hid (zAB G gen (f+1) a st=.inr (el,ek)):=oh (by
    rw[zAB,HSW.out];simp only[hyw])
   have m8:zJ w7 (w7.alloc (.cells #[.int .i64 x0,.int .i64 x1,.int .u64 x2,.slice a7 n8 c7] 167)):=(zA.refl _ w7).alloc _;have H8:=oh (H7.out.ext m8);have HM8:=oh m8;clear hE hyw m8;go_wp2_with fail;go_ret;exact WkD.bad H8.out.1 (N7.out.trans H8.out.2) (HE.out.mods HM8.out.ext) HZ.out
  | inl p =>
   rw[hyw] at hres;obtain⟨a7,c7,rfl,hs7,hl7⟩:=hres;have HYW:=oh hyw;have HL7:=oh hl7;have HK1:=oh (zR2 HI.out HSW.out hyw);have m8:zJ w7 (w7.alloc (.cells #[.int .i64 p.kind,.int .i64 p.id,.int .u64 (p.gen:Int),.slice a7 p.body.length c7] 167)):=(zA.refl _ w7).alloc _;have H8:=oh (H7.out.ext m8);have N8:=oh (N7.out.trans H8.out.2);have hX8:=zL.new w7 #[.int .i64 p.kind,.int .i64 p.id,.int .u64 (p.gen:Int),.slice a7 p.body.length c7] 167;have x0:=hX8.cell (o:=0) (v:=.int .i64 p.kind) rfl;have x1:=hX8.cell (o:=1) (v:=.int .i64 p.id) rfl;have x2:=hX8.cell (o:=2) (v:=.int .u64 (p.gen:Int)) rfl;have x3:=hX8.cell (o:=3) (v:=.slice a7 p.body.length c7) rfl;have HPB8:=oh (HPB7.out.ext m8);have HPN8:=HPN7;have HDC:=oh (zHk H8.out.1.env p (.slice a7 p.body.length c7) (hs7.ext m8) hl7);unfold vQ at HDC;clear hs7 hyw m8 hl7 hX8;go_wp2_with fail;refine (HDC.out).mono ?_;rintro x w9 ⟨hnr,hm9⟩;have H9:=oh (H8.out.1.ext hm9);have N9:=oh (N8.out.trans H9.out.2);have HPB9:=oh (HPB8.out.ext hm9);clear hm9 x0 x1 x2 x3;cases hdw:jV p with
   | inr er =>
    obtain⟨el,ek⟩:=er;rw[hdw] at hnr;obtain⟨fe,rfl,hE⟩:=hnr;have HE:=oh hE;have HZ:Hid (zAB G gen (f+1) a st=.inr (el,ek)):=oh (by
     rw[zAB,HSW.out];simp only[HYW.out,hdw])
    have m10:zJ w9 (w9.alloc gB):=(zA.refl _ w9).alloc _;have H10:=oh (H9.out.1.ext m10);have HM10:=oh m10;clear hE hdw m10;go_wp2_with fail;go_ret;exact WkD.bad H10.out.1 (N9.out.trans H10.out.2) (HE.out.mods HM10.out.ext) HZ.out
   | inl n =>
    rw[hdw] at hnr;obtain⟨ve,vk,vi,rfl,hse,hsk,hsi⟩:=hnr;obtain⟨ea,ec,rfl,_,_,_,_⟩:=_root_.id hse;obtain⟨ka,kc,rfl,_,_,_,_⟩:=_root_.id hsk;obtain⟨ia,ic,rfl,_,_,_,_⟩:=_root_.id hsi;have hrt:=(zC2 hdw).1;have HRT:=oh hrt;have HFE:=oh (zHi hdw HL7.out);have m10:zJ w9 (w9.alloc (.cells #[.bool n.leaf,.slice ea n.entries.length ec,.slice ka n.keys.length kc,.slice ia n.kids.length ic] 118)):=(zA.refl _ w9).alloc _;have H10:=oh (H9.out.1.ext m10);have N10:=oh (N9.out.trans H10.out.2);have HPB10:=HPB9.out.ext m10;have p0:=HPB10.cell (o:=0) (v:=.int .i64 a.id) rfl;have p1:=HPB10.cell (o:=1) (v:=.int .i64 (a.depth:Int)) rfl;have p2:=HPB10.cell (o:=2) (v:=.string a.lo) rfl;have p3:=HPB10.cell (o:=3) (v:=.string a.hi) rfl;have HDW:=oh hdw;cases hlf:n.leaf with
    | true =>
     have hck:∀x∈n.entries, -9223372036854775808<=x.chain/\x.chain<=9223372036854775807:=λx hx=>by
      have hr:=HRT.out;unfold zM at hr;rw[if_pos hlf] at hr;simp only[uK,tD] at hr;have hre:=hr.1.1.1.1 x hx;unfold yC at hre;simp only[uK] at hre;have h2:=hre.2;split at h2
      .omega
      .simp only[uK,zCL,uQ] at h2;omega
     have HLC:=oh (zQ5 H10.out.1 HK1.out.1 HBL.out HT.out n HFE.out hck a (by have:=HK1.out.1.few;have:=HK1.out.2;have:=HBL.out;have:=HFE.out;omega) ea ka ia ec kc ic (hse.ext m10));have HZ:Hid (zAB G gen (f+1) a st=zDv G gen n a st1):=oh (by
      rw[zAB,HSW.out];simp only[HYW.out,HDW.out,hlf,t8])
     have d0:=zL.new w9 #[.bool true,.slice ea n.entries.length ec,.slice ka n.keys.length kc,.slice ia n.kids.length ic] 118;have HD0:=oh d0;rw[hlf] at HLC H10 N10 p0 p1 p2 p3;have d0:=HD0.out.cell (o:=0) (v:=.bool true) rfl;have d1:=HD0.out.cell (o:=1) (v:=.slice ea n.entries.length ec) rfl;have d2:=HD0.out.cell (o:=2) (v:=.slice ka n.keys.length kc) rfl;have d3:=HD0.out.cell (o:=3) (v:=.slice ia n.kids.length ic) rfl;clear hse hsk hsi hrt hck hdw hlf m10 HPB10;go_wp2_with fail;refine (HLC.out).mono ?_;rintro y w11 hd;obtain⟨v,rfl⟩:=hd.form;have HFD:=oh hd;clear hd;go_wp2_with fail;go_ret;rw[HZ.out];exact HFD.out.pre N10.out
    | false =>
     have HLC:=oh (zQV HR.out HGS.out H10.out.1 (zBO.ofSee HK1.out) n HRT.out hlf a (by have:=HD.out;omega) ea ka ia ec kc ic (hsk.ext m10) (hsi.ext m10));have HZ:Hid (zAB G gen (f+1) a st=zBg (zAB G gen f) n a n.kids 0 st1):=oh (by
      rw[zAB,HSW.out];simp only[HYW.out,HDW.out,hlf,wG,tP])
     have d0:=zL.new w9 #[.bool false,.slice ea n.entries.length ec,.slice ka n.keys.length kc,.slice ia n.kids.length ic] 118;have HD0:=oh d0;rw[hlf] at HLC H10 N10 p0 p1 p2 p3;have d0:=HD0.out.cell (o:=0) (v:=.bool false) rfl;have d1:=HD0.out.cell (o:=1) (v:=.slice ea n.entries.length ec) rfl;have d2:=HD0.out.cell (o:=2) (v:=.slice ka n.keys.length kc) rfl;have d3:=HD0.out.cell (o:=3) (v:=.slice ia n.kids.length ic) rfl;clear hse hsk hsi hrt hdw hlf m10 HPB10;go_wp2_with fail;refine (HLC.out).mono ?_;rintro y w11 hd;obtain⟨v,rfl⟩:=hd.form;have HFD:=oh hd;clear hd;go_wp2_with fail;go_ret;rw[HZ.out];exact HFD.out.pre N10.out
theorem zN4{ad:Nat->Addr}{base c s gen kb mb:Nat}{G:GA}{l:List Nat}(hb:G.blocks<=256)(ht:G.total)(hG:zLE G):∀f,zLt ad base c s gen kb mb G l f
 | 0=>zPJ ad base c s gen kb mb G l
 | f+1=>zPK hb ht hG (zN4 hb ht hG f)
end
def zN5(F:Nat->Prop)(ad:Nat->Addr)(w':World)(r:WkS ⊕ Err)(e:Ending):Prop :=
 match r with
 | .inl st=>∃pv kv,e=.returned (.tuple #[.agg #[pv,kv,.int .i64 (st.depth:Int)],.nilIface])/\Sl F w' 1 yB pv st.pages/\Sl F w' 1 qK kv st.keys
 | .inr (l,k)=>∃f,e=.returned (.tuple #[.agg #[.slice none 0 0,.slice none 0 0,.int .i64 0],zQ f])/\qQ F ad w' (zQ f) l k
section
variable {F P P' F' P1 F1:Nat->Prop}{ad:Nat->Addr}{w w' wr w0:World}{base c s gen kb mb:Nat}{G:GA}{l:List Nat}{pv kv pv' kv':Value}{st st':WkS}
theorem zRm{k:Nat}(h:wkQ P kb mb (.slice none 0 0) (.slice none 0 0) k):P k\/k=kb\/k=mb:=by
 rcases h with hp|e|e|e|e
 .exact .inl hp
 .exact .inr (.inl e)
 .exact .inr (.inr e)
 .simp[Value.ownBlock] at e
 .simp[Value.ownBlock] at e
theorem zLu{Q P6 F6:Nat->Prop}{w2 w6 w7:World}{R:Nat}(hP:∀k,P k->F k)(hQ:∀k,Q k->w.heap.size<=k)(n2:zR P P F (λk=>F k\/Q k) ad w w2)
  (n6:zR (wkQ P kb mb (.slice none 0 0) (.slice none 0 0)) (wkQ P6 kb mb pv kv) (λk=>F k\/Q k) F6 ad w2 w6) (h6:WkI F6 P6 ad w6 base c s gen kb mb G l pv kv st) (m7:zA (λk=>k=R) w6 w7) (hRQ:Q R) (hR:¬ P6 R) (hkb:Q kb) (hmb:Q mb) :
  yS (λk=>F k\/P6 k) w7 P6 c s G l/\zR P P6 F (λk=>F k\/P6 k) ad w w7:=by
 have hRF:F6 R:=n6.grow R (.inr hRQ);have hsub:∀k,F k\/P6 k->F6 k:=λk hk=>hk.elim (λh=>n6.grow k (.inl h)) (h6.sub k)
 have hnew:∀i,i<w.heap.size->wkQ P kb mb (.slice none 0 0) (.slice none 0 0) i->P i:=λi hi hq=>by
  rcases zRm hq with h|rfl|rfl
  .exact h
  .have:=hQ _ hkb;omega
  .have:=hQ _ hmb;omega
 have hold:∀k,k<w.heap.size->P6 k->P k:=λk hk hp=>hnew k hk (n6.stp.old k (uH hk n2.size) (.inl hp))
 refine⟨(h6.pg.res m7 hR hRF).anti hsub,⟨⟨(n2.stp.mods.trans' n6.stp.mods hnew).trans' m7 (λi hi e=>by subst e;have:=hQ _ hRQ;omega),hold,h6.pg.bd.mods m7⟩,λk hk=>.inr hk,λk hk=>.inl hk,λk hk hf=>hf.elim id (λhp=>hP k (hold k hk hp)),(h6.env.mods (m7.mono (λk e=>e ▸ hRF))).anti hsub⟩⟩
theorem Tryz.repSizeW:(Tryz.prog.info? 52).map (·.size)=some 3:=by kernel_rfl
theorem zKF(hL:yW F ad w)(hP:∀k,P k->F k)(h:yS F w P c s G l)(gen:Nat)(root:Int)(hroot:zJL root)(hb:G.blocks<=256)(ht:G.total) :
  Calls Tryz.prog 17 #[qR c s gen,.int .i64 root] w (jL F P ad w c s G l (λF' w' e=>zN5 F' ad w' (zHg G gen root) e)):=by
 have m0:zJ w ((w.alloc (gP c s gen)).alloc (.cells #[.slice none 0 0,.slice none 0 0,.int .i64 0] 52)):=((zA.refl _ w).alloc _).alloc _;have HB0:=oh ((zL.new w (gP c s gen) 31).alloc (.cells #[.slice none 0 0,.slice none 0 0,.int .i64 0] 52));have HR0:Hid (zL ((w.alloc (gP c s gen)).alloc (.cells #[.slice none 0 0,.slice none 0 0,.int .i64 0] 52)) (w.heap.size+1) #[.slice none 0 0,.slice none 0 0,.int .i64 0] 52):=oh (zK (by simp));have HM0:=oh m0;have HL:=oh hL;have HP:=oh hP;have HG:=oh h;have HT:=oh ht;have HBL:=oh hb;have HOK:=oh hroot;have hmm:=@run_makeMap Tryz.prog;have HSH:Hid (zLE G):=oh (λid p hp=>(h.got hp).2.2);clear hL hP h m0 ht hb hroot;have HRY:=λop w'=>zHW (c:=c) (s:=s) (w:=w') op gen
 unfold qR at HRY ⊢
 go_enter Tryz.func17, Tryz.ntmps17
 go_wp2_with fail;refine (HRY _ _).mono ?_;rintro e w1 ⟨rfl,hm1⟩;have HM1:=oh (HM0.out.trans hm1);have hB1:=HB0.out.ext hm1;have b0:=hB1.cell (o:=0) (v:=.pointer (some ⟨c,0,none⟩)) rfl;have b1:=hB1.cell (o:=1) (v:=.pointer (some ⟨s,0,none⟩)) rfl;have b2:=hB1.cell (o:=2) (v:=.int .u64 (gen:Int)) rfl;have hR1:=HR0.out.ext hm1;have HR1:=oh hR1;have r0:=hR1.cell (o:=0) (v:=.slice none 0 0) rfl;have r1:=hR1.cell (o:=1) (v:=.slice none 0 0) rfl;have r2:=hR1.cell (o:=2) (v:=.int .i64 0) rfl;have rf:=hR1.frozen;clear hm1 hB1 HRY hR1;by_cases hr:root=0
 .have hrb:(root == 0)=true:=tU.2 hr;have HV:Hid (zHg G gen root=.inl wk0):=oh (by unfold zHg;rw[if_pos hr]);have HRB:=oh (HR1.out.set3 (.slice none 0 0) (.slice none 0 0) (.int .i64 0));have HMX:=oh (zA.set3 HM1.out (R:=w.heap.size+1) (.inl (by omega)) (.slice none 0 0) (.slice none 0 0) (.int .i64 0));clear hr;go_wp2_with fail;refine bodyPost_ret (zG rfl _ _ (w.heap.size+1) 52 #[.slice none 0 0,.slice none 0 0,.int .i64 0] _ rfl HRB.out Tryz.underlying52 rfl Tryz.repSizeW) rfl ?_;refine⟨P,F,HG.out.at HMX.out,zR.ext HL.out HP.out HMX.out,?_⟩;rw[HV.out];exact⟨_,_,rfl,Sl.nil _ _ _ _,Sl.nil _ _ _ _⟩
 .have hrb:(root == 0)=false:=uV.2 hr;have HV:Hid (zHg G gen root=match zAB G gen 16 ⟨root,1,e0,e0⟩ wk0 with | .inr (l,k)=>.inr (-1 :: l,k) | .inl s=>.inl s):=oh (by unfold zHg;rw[if_neg hr];rfl);obtain⟨Q,hQ⟩:∃Q:Nat->Prop,Q=λk=>k=w.heap.size+1\/k=w1.heap.size\/k=w1.heap.size+1:=⟨_,rfl⟩
  have hs1:w.heap.size+2<=w1.heap.size:=by have:=HR1.out.lt;omega
  have m2:zJ w1 ((w1.alloc (.map #[] 0)).alloc (.cells #[.pointer (some ⟨c,0,none⟩),.pointer (some ⟨s,0,none⟩),.int .u64 (gen:Int),.map (some w1.heap.size),.slice none 0 0,.slice none 0 0,.int .i64 0,.string ⟨#[]⟩] 102)):=((zA.refl _ w1).alloc _).alloc _;have HN2:Hid (zR P P F (λk=>F k\/Q k) ad w ((w1.alloc (.map #[] 0)).alloc (.cells #[.pointer (some ⟨c,0,none⟩),.pointer (some ⟨s,0,none⟩),.int .u64 (gen:Int),.map (some w1.heap.size),.slice none 0 0,.slice none 0 0,.int .i64 0,.string ⟨#[]⟩] 102))):=oh (zR.new HL.out HP.out (Q:=Q) (HM1.out.trans m2) (λk hk=>by subst hQ;rcases hk with e|e|e <;> omega) (λk hk=>by subst hQ;rcases hk with e|e|e <;> (simp;omega)));have HG2:=oh (HG.out.plusNew HP.out (Q:=Q) (HM1.out.trans m2) (λk hk=>by subst hQ;rcases hk with e|e|e <;> omega));have hPb:∀k,P k->k<w.heap.size:=λk hk=>HG.out.bd k hk
  have HW2:Hid (WkI (λk=>F k\/Q k) P ad ((w1.alloc (.map #[] 0)).alloc (.cells #[.pointer (some ⟨c,0,none⟩),.pointer (some ⟨s,0,none⟩),.int .u64 (gen:Int),.map (some w1.heap.size),.slice none 0 0,.slice none 0 0,.int .i64 0,.string ⟨#[]⟩] 102)) (w1.heap.size+2) c s gen (w1.heap.size+1) w1.heap.size G l (.slice none 0 0) (.slice none 0 0) wk0):=oh
   ⟨HN2.out.env,HN2.out.sub,HG2.out,⟨zK (by simp),(zCz.made w1).mods ((zA.refl (λ_=>False) _).alloc _) (λf=>f),zU.nil _ _ _ _ _ _,zU.nil _ _ _ _ _ _,λk hk=>by
    have hk':k=w1.heap.size+1\/k=w1.heap.size:=by
     rcases hk with e|e|e|e
     .exact .inl e
     .exact .inr e
     .simp[Value.ownBlock] at e
     .simp[Value.ownBlock] at e
    have hq:Q k:=by subst hQ;exact hk'.elim (λe=>.inr (.inr e)) (λe=>.inr (.inl e))
    refine⟨.inr hq,λhp=>by have:=hPb k hp;omega⟩,by simp[wk0]⟩,by simp⟩
  have HNC:Hid (Calls Tryz.prog 48 #[.pointer (some ⟨w1.heap.size+1,0,none⟩),.agg #[.int .i64 root,.int .i64 1,.string ⟨#[]⟩,.string ⟨#[]⟩]] ((w1.alloc (.map #[] 0)).alloc (.cells #[.pointer (some ⟨c,0,none⟩),.pointer (some ⟨s,0,none⟩),.int .u64 (gen:Int),.map (some w1.heap.size),.slice none 0 0,.slice none 0 0,.int .i64 0,.string ⟨#[]⟩] 102)) (WkD (λk=>F k\/Q k) P ad ((w1.alloc (.map #[] 0)).alloc (.cells #[.pointer (some ⟨c,0,none⟩),.pointer (some ⟨s,0,none⟩),.int .u64 (gen:Int),.map (some w1.heap.size),.slice none 0 0,.slice none 0 0,.int .i64 0,.string ⟨#[]⟩] 102)) (w1.heap.size+2) c s gen (w1.heap.size+1) w1.heap.size G l (.slice none 0 0) (.slice none 0 0) (zAB G gen 16 ⟨root,1,e0,e0⟩ wk0))):=oh
   (zN4 HBL.out HT.out HSH.out 16 _ _ _ _ _ _ ⟨root,1,e0,e0⟩ HW2.out ⟨⟨rM,λi hi=>by simp[wk0] at hi⟩,by simp[wk0]⟩ rfl HOK.out)
  have HQR:Hid (Q (w.heap.size+1)):=oh (by subst hQ;exact .inl rfl);have HRP:Hid (¬ wkQ P (w1.heap.size+1) w1.heap.size (.slice none 0 0) (.slice none 0 0) (w.heap.size+1)):=oh (by
   rintro (hp|e|e|e|e)
   .have:=hPb _ hp;omega
   .omega
   .omega
   .simp[Value.ownBlock] at e
   .simp[Value.ownBlock] at e)
  have HS1:=oh hs1;have HPB:=oh hPb;have HQ:=oh hQ;have HR2:=oh (HR1.out.ext m2);clear hr hQ hs1 m2 hPb r0 r1 r2 rf;go_wp2_with fail;refine (HNC.out).mono ?_;rintro e w6 hd;cases hnw:zAB G gen 16 ⟨root,1,e0,e0⟩ wk0 with
  | inr er =>
   obtain⟨el,ek⟩:=er;rw[hnw] at hd HV;obtain⟨P6,F6,pv6,kv6,st6,h6,n6,f6,rfl,hE⟩:=hd;have HWR:=oh (λop=>wrap_any h6.env op _ _ _ hE);have H6:=oh h6;have N6:=oh n6;have HR6:=oh (n6.blk HR2.out HRP.out);have HRP6:=oh (n6.not HR2.out.lt HRP.out);clear h6 n6 hE hnw;go_wp2_with fail;refine (HWR.out _).mono ?_;rintro e w7 ⟨f7,rfl,hE7,hm7⟩;have hR7:=HR6.out.ext hm7;have r0:=hR7.cell (o:=0) (v:=.slice none 0 0) rfl;have r1:=hR7.cell (o:=1) (v:=.slice none 0 0) rfl;have r2:=hR7.cell (o:=2) (v:=.int .i64 0) rfl;have rf:=hR7.frozen;have HE7:=oh hE7;have HM7:=oh hm7;have HRB:=oh (hR7.set3 (.slice none 0 0) (.slice none 0 0) (.int .i64 0));have HMR:=oh (zA.set3 (F:=λk=>k=w.heap.size+1) (zA.refl _ w7) (R:=w.heap.size+1) (.inr rfl) (.slice none 0 0) (.slice none 0 0) (.int .i64 0));clear hE7 hm7 hR7;go_wp2_with fail;refine bodyPost_ret (zG rfl _ _ (w.heap.size+1) 52 #[.slice none 0 0,.slice none 0 0,.int .i64 0] _ rfl HRB.out Tryz.underlying52 rfl Tryz.repSizeW) rfl ?_;have hQR:=HQR.out;obtain⟨e1,e2⟩:=zLu HP.out (λk hk=>by have:=HS1.out;have hh:=HQ.out;subst hh;rcases hk with e|e|e <;> omega) HN2.out N6.out H6.out (HM7.out.ext.trans HMR.out) hQR (λhp=>HRP6.out (.inl hp)) (by have hh:=HQ.out;subst hh;exact .inr (.inr rfl)) (by have hh:=HQ.out;subst hh;exact .inr (.inl rfl));refine⟨P6,_,e1,e2,?_⟩;rw[HV.out];have hRF:F6 (w.heap.size+1):=N6.out.grow _ (.inr hQR);exact⟨f7,rfl,(HE7.out.mods (HMR.out.mono (λk e=>e ▸ hRF))).step (zA.refl _ _) (λk _ hn hk=>hn (hk.elim (λh=>N6.out.grow k (.inl h)) (H6.out.sub k)))⟩
  | inl s1 =>
   rw[hnw] at hd HV;obtain⟨P6,F6,pv6,kv6,st6,h6,n6,rfl,rfl⟩:=hd;have H6:=oh h6;have N6:=oh n6;have hR6:=n6.blk HR2.out HRP.out;have HRP6:=oh (n6.not HR2.out.lt HRP.out);obtain⟨pa,pc,rfl,_,_⟩:=_root_.id h6.wk.rp.form;obtain⟨ka,kc,rfl,_,_⟩:=_root_.id h6.wk.rk.form;have k4:=h6.wk.blk.cell (o:=4) (v:=.slice pa st6.pages.length pc) rfl;have k5:=h6.wk.blk.cell (o:=5) (v:=.slice ka st6.keys.length kc) rfl;have k6:=h6.wk.blk.cell (o:=6) (v:=.int .i64 (st6.depth:Int)) rfl;have r0:=hR6.cell (o:=0) (v:=.slice none 0 0) rfl;have r1:=hR6.cell (o:=1) (v:=.slice none 0 0) rfl;have r2:=hR6.cell (o:=2) (v:=.int .i64 0) rfl;have rf:=hR6.frozen;have HRB:=oh (hR6.set3 (.slice pa st6.pages.length pc) (.slice ka st6.keys.length kc) (.int .i64 (st6.depth:Int)));have HMR:=oh (zA.set3 (F:=λk=>k=w.heap.size+1) (zA.refl _ w6) (R:=w.heap.size+1) (.inr rfl) (.slice pa st6.pages.length pc) (.slice ka st6.keys.length kc) (.int .i64 (st6.depth:Int)));have HR6:=oh hR6;clear h6 n6 hnw hR6;go_wp2_with fail;refine bodyPost_ret (zG rfl _ _ (w.heap.size+1) 52 #[.slice pa st6.pages.length pc,.slice ka st6.keys.length kc,.int .i64 (st6.depth:Int)] _ rfl HRB.out Tryz.underlying52 rfl Tryz.repSizeW) rfl ?_;have hQR:=HQR.out;obtain⟨e1,e2⟩:=zLu HP.out (λk hk=>by have:=HS1.out;have hh:=HQ.out;subst hh;rcases hk with e|e|e <;> omega) HN2.out N6.out H6.out HMR.out hQR (λhp=>HRP6.out (.inl hp)) (by have hh:=HQ.out;subst hh;exact .inr (.inr rfl)) (by have hh:=HQ.out;subst hh;exact .inr (.inl rfl));refine⟨P6,_,e1,e2,?_⟩;rw[HV.out];have hnp:=λg (hg:(Value.slice pa st6.pages.length pc).ownBlock=some g)=>(H6.out.wk.nP g (.inr (.inr (.inl hg)))).2
   have hnk:=λg (hg:(Value.slice ka st6.keys.length kc).ownBlock=some g)=>(H6.out.wk.nP g (.inr (.inr (.inr hg)))).2
   have hlF:=λg (hf:F g)=>HL.out.lt g hf
   have hs1:=HS1.out;refine⟨_,_,rfl,((H6.out.wk.rp.mods HMR.out (λg hg e=>by have:=(H6.out.wk.rp.lt g hg).1;omega)).blocks (λg hg hq=>?_)).sl yG.len (by have:=H6.out.wk.few;omega),((H6.out.wk.rk.mods HMR.out (λg hg e=>by have:=(H6.out.wk.rk.lt g hg).1;omega)).blocks (λg hg hq=>?_)).sl yV.len (by have:=H6.out.wk.few;omega)⟩
   .rcases hq with hq|hq
    .have:=(H6.out.wk.rp.lt g hg).1;have:=hlF g hq;omega
    .exact hnp g hg hq
   .rcases hq with hq|hq
    .have:=(H6.out.wk.rk.lt g hg).1;have:=hlF g hq;omega
    .exact hnk g hg hq
end
end
section
open Go.RowKit
structure GLe(G H:GA):Prop where
 blocks:H.blocks=G.blocks
 size:H.size=G.size
 cost:H.cost=G.cost
 look:H.look=G.look
 last:H.last=G.last
 view:∀id r,G.view id=some r->H.view id=some r
section
variable {P F:Nat->Prop}{ad:Nat->Addr}{w:World}{c s:Nat}{G H:GA}{l:List Nat}
theorem yS.tot(h:yS F w P c s G l):∃H,GLe G H/\H.total/\yS F w P c s H l:=by
 obtain⟨d,sb,bvs,Pd,b2,C,h1,h2,h3,h4,h5,h6,h7⟩:=h;exact⟨{ G with view:=λid=>some (C.vw id) },⟨rfl,rfl,rfl,rfl,rfl,λid r hr=>congrArg some (h3.view id r hr)⟩,λi _=>⟨_,rfl⟩,d,sb,bvs,Pd,b2,C,h1,h2,⟨h3.blocks,h3.size,λid r hr=>Option.some.inj hr,h3.look,h3.last,h3.cost⟩,h4,h5,h6,h7⟩
theorem yS.le(hl:GLe G H)(h:yS F w P c s H l):yS F w P c s G l:=by
 obtain⟨d,sb,bvs,Pd,b2,C,h1,h2,h3,h4,h5,h6,h7⟩:=h;exact⟨d,sb,bvs,Pd,b2,C,h1,h2,⟨h3.blocks.trans hl.blocks,h3.size.trans hl.size,λid r hr=>h3.view id r (hl.view id r hr),λid b hb=>h3.look id b (by rw[hl.look];exact hb),λid b hb=>h3.last id b (by rw[hl.last];exact hb),by rw[<- hl.cost];exact h3.cost⟩,by rw[<- hl.cost];exact h4,h5,h6,h7⟩
end
section
variable {G H:GA}{gen:Nat}
theorem zGL.known{e:zI}{v:ByteArray}{ids:List Nat}(h:zGL G gen e v ids):∀i∈ids,∃r,G.view i=some r:=by
 intro i hi;rcases h with ⟨_,_,rfl⟩|⟨_,h⟩
 .simp at hi
 .obtain⟨g,_,hp⟩:=h.page;obtain⟨k,hk,rfl⟩:=wQ hi;have:=hp k hk;rw[show ids.getD k 0=ids[k] by simp[List.getD,hk]] at this;exact⟨_,this⟩
theorem vM.known{es:List zI}{ps:List zE}{q:List Nat}(h:vM G gen es ps q):∀i∈q,∃r,G.view i=some r:=by
 induction h with
 | nil=>intro i hi;simp at hi
 | cons _ h2 _ ih=>intro i hi;exact (uG.1 hi).elim (h2.known i) (ih i)
theorem qF.known{T:zEJ}{lo:ByteArray}{hi:Option ByteArray}{kk:List ByteArray}{cc:List Int}{ps:List zE}{q:List Nat}(hT:∀lo hi c ps q,T lo hi c ps q->∀i∈q,∃r,G.view i=some r)(h:qF T lo hi kk cc ps q):∀i∈q,∃r,G.view i=some r:=by
 induction h with
 | one h=>exact hT _ _ _ _ _ h
 | cons h1 _ _ ih=>intro i hi;exact (uG.1 hi).elim (hT _ _ _ _ _ h1 i) (ih i)
theorem vJ.known:∀(d:Nat) (lo:ByteArray) (hi:Option ByteArray) (id:Nat) (ps:List zE) (q:List Nat),vJ G gen d lo hi id ps q->∀i∈q,∃r,G.view i=some r
 | 0,_,_,_,_,_,h=>h.elim
 | d+1,lo,hi,id,ps,pgs,h=>by
  obtain⟨n,q,h1,_,rfl,h3⟩:=h;intro i hi;rcases uN.1 hi with rfl|hi
  .obtain⟨p,hp,_⟩:=h1.page;exact⟨_,hp⟩
  .rcases h3 with ⟨_,_,_,h4,_⟩|⟨_,h4⟩
   .exact h4.known i hi
   .exact h4.known (vJ.known d) i hi
theorem TD.known{root d:Nat}{ps:List zE}{pgs:List Nat}(h:TD G gen root d ps pgs):∀i∈pgs,∃r,G.view i=some r:=by
 rcases h.tree with ⟨_,_,_,rfl⟩|⟨_,h⟩
 .intro i hi;simp at hi
 .exact vJ.known _ _ _ _ _ _ h
theorem TD.up{root d:Nat}{ps:List zE}{pgs:List Nat}(h:TD G gen root d ps pgs)(hl:GLe G H):TD H gen root d ps pgs :=
 h.mono (uJ _) hl.blocks hl.size (λi hi=>by obtain⟨r,hr⟩:=h.known i hi;rw[hl.view i r hr,hr])
end
section
variable {P F:Nat->Prop}{ad:Nat->Addr}{w:World}{c s:Nat}{G H:GA}{l:List Nat}{gen root d:Nat}{ps:List zE}{pgs:List Nat}
theorem TD.rootlt(h:TD G gen root d ps pgs)(hb:G.blocks<=256):root<256:=by
 rcases h.tree with ⟨rfl,_,_,_⟩|⟨_,hT⟩
 .omega
 .obtain⟨r,hr⟩:=vJ.head _ _ _ _ _ _ hT;have:=h.lt root (by rw[hr];simp);omega
theorem zJS(hL:yW F ad w)(hP:∀k,P k->F k)(h:yS F w P c s G l)(g:Nat)(hT:TD G gen root d ps pgs)(hg:gen<=g)(hs:256<=G.size)(hb:G.blocks<=256) :
  Calls Tryz.prog 17 #[qR c s g,.int .i64 (root:Int)] w (jL F P ad w c s G l (λF' w' e=>zN5 F' ad w' (.inl ⟨iL pgs,ps.map (·.1),d⟩) e)):=by
 obtain⟨H,hl,ht,hH⟩:=h.tot;have hr:=hT.rootlt hb;have hT2:=(hT.up hl).mono hg rfl rfl (λ_ _=>rfl);have hW:=zKF hL hP hH g (root:Int) ((Lit.wf_int_iff .i64 _).2 ⟨by show -9223372036854775808<=(root:Int);omega,by show (root:Int)<=9223372036854775807;omega⟩) (by rw[hl.blocks];exact hb) ht;rw[hT2.walk (by rw[hl.size];exact hs) (by rw[hl.blocks];exact hb)] at hW;refine hW.mono ?_;rintro e w' ⟨P',F',hG,hN,hr⟩;exact⟨P',F',hG.le hl,hN,hr⟩
end
end
end Go.Proofs.YtchklfmggpconaaGreatDoor
