import Derived.Test.YteabpacpngaoaaaGreatDoorB41
import Derived.Test.YteabpacpngaoaaaGreatDoorB17
namespace Go.Proofs.YteabpacpngaoaaaGreatDoor
open Lib renaming hid→oh
section
open Go.RowKit
theorem chS_sum(sz:Nat)(h1:256≤sz)(h2:sz≤1024):∀ps:List PairS,(chS sz ps:Int)=sumBy (chainP (sz:Int)) ps
 | []=>rfl
 | x :: ps=>by
  rw[chS_cons,sumBy,← chS_sum sz h1 h2 ps];have:(ndV sz x.2:Int)=chainP (sz:Int) x:=by
   unfold ndV chainP needN ndS;by_cases h:x.2.size≤24
   ·rw[if_pos h,if_pos (by omega)];rfl
   ·rw[if_neg h,if_neg (by omega),if_neg (by omega)];have e1:((x.2.size:Int)-1)=((x.2.size-1:Nat):Int):=by omega
    have e2:((sz:Int)-28)=((sz-28:Nat):Int):=by omega
    rw[e1,e2];push_cast
    rfl
  rw[← this];omega
theorem chS_with{key v:ByteArray}{sz M:Nat}:∀{ps:List PairS},(∀x∈ps,ndV sz x.2≤M)→chS sz ps≤chS sz (withP key v true ps)+M∧ps.length≤(withP key v true ps).length
 | [],_=>by simp[chS]
 | x :: ps,h=>by
  have hx:=h x List.mem_cons_self;unfold withP;split
  ·obtain⟨h1,h2⟩:=chS_with (key:=key) (v:=v) (ps:=ps) (λy hy=>h y (List.mem_cons_of_mem _ hy));simp only[chS_cons,List.length_cons];omega
  ·split
   ·simp only[if_true,chS_cons,List.length_cons];omega
   ·simp only[chS_cons,List.length_cons];omega
theorem TD.most{G:GA}{gen root d:Nat}{ps:List PairS}{pgs:List Nat}(h:TD G gen root d ps pgs)(hs:G.size=256):(pgs.length:Int)≤mostN ps 256:=by
 have hc:=h.count.1;rw[hs] at hc;have e:=chS_sum 256 (by omega) (by omega) ps;unfold mostN;by_cases h0:ps=[]
 ·rw[if_pos h0] at hc ⊢;subst h0;simp[chS] at hc;simp[hc]
 ·rw[if_neg h0] at hc ⊢;have e':(chS 256 ps:Int)=sumBy (chainP 256) ps:=e;rw[← e'];omega
theorem ndV_small{sz:Nat}(h:256≤sz)(v:ByteArray)(hv:v.size≤400):ndV sz v≤2:=by
 unfold ndV ndS;split
 ·omega
 ·have:(v.size-1) / (sz-28)≤1:=by
   apply Nat.lt_succ_iff.1
   rw[Nat.div_lt_iff_lt_mul (by omega)];omega
  omega
theorem LawnK.safe{n g:Nat}{G:GA}{l:List Nat}{root d:Nat}{ps ps0:List PairS}{pgs pgs0:List Nat}{key v:ByteArray}(h:LawnK n g G l root d ps pgs pgs0)(h0:(pgs0.length:Int)≤mostN ps0 256)(hkb:keyB key=true)(hv:v.size≤400)(hs:batchN ps0 (withP key v true ps) 256≤(n:Int)) :
  (ndV G.size v:Nat)+(d:Int)+1<phiL l:=by
 have hphi:=h.phi;have hd:=(h.td.few h.ctx.b256).2;have hm:=h.td.most h.size;have hnd:=ndV_small h.ctx.s256 v hv;have hw:33≤worstN 16 (longFrom 0 (withP key v true ps)) 256:=by
  have hval:∀p∈withP key v true ps,p.1.size≤32∧p.2.size≤4096:=λp hp=>by
   rcases mem_withP hp with rfl|hp
   ·exact⟨((keyB_iff _).1 hkb).2,by show v.size≤4096;omega⟩
   ·obtain⟨k1,k2⟩:=h.td.ok p hp;exact⟨((keyB_iff _).1 k1).2,k2⟩
  obtain⟨w1,w2⟩:=longFrom_le _ hval 0 (by omega) (by omega);unfold worstN;rw[if_neg (by omega)];have:=(needN_le (longFrom 0 (withP key v true ps)) 256 w2).1;split <;> omega
 obtain⟨c1,c2⟩:=chS_with (key:=key) (v:=v) (sz:=256) (M:=2) (ps:=ps) (λx hx=>ndV_small (Nat.le_refl _) x.2 (h.val x hx));have e1:=chS_sum 256 (by omega) (by omega) ps;have e2:=chS_sum 256 (by omega) (by omega) (withP key v true ps);have hle:mostN ps 256≤mostN (withP key v true ps) 256+2:=by
  unfold mostN;have hne:withP key v true ps≠[]:=λe=>by
   rw[e] at c2;have:ps=[]:=List.length_eq_zero_iff.1 (by simpa using c2);rw[this] at e;cases e
  rw[if_neg hne];have e1':(chS 256 ps:Int)=sumBy (chainP 256) ps:=e1;have e2':(chS 256 (withP key v true ps):Int)=sumBy (chainP 256) (withP key v true ps):=e2;split
  ·have:=List.length_pos_iff.2 hne;rw[← e2'];omega
  ·rw[← e1',← e2'];omega
 unfold batchN at hs;omega
theorem rightFrom_of:∀(ps:List PairS) (last:ByteArray),SortedP ps→(∀x∈ps,PairOk x)→(∀x∈ps,ltS last x.1=true)→rightFrom last ps=true
 | [],_,_,_,_=>rfl
 | x :: ps,last,hs,hk,hl=>by
  have hp:=List.pairwise_cons.1 hs;have h1:=hk x List.mem_cons_self;have h2:=hl x List.mem_cons_self;unfold rightFrom;rw[rightFrom_of ps x.1 hp.2 (λy hy=>hk y (List.mem_cons_of_mem _ hy)) hp.1,h1.1];have h3:leS x.1 last=false:=by
   have h4:Op.bytesLess x.1.toList last.toList=false:=ltS_asymm h2;unfold leS;rw[h4];simp only[Bool.false_or,beq_eq_false_iff_ne,ne_eq];intro e;unfold ltS at h2;rw[e,bl_irrefl] at h2;cases h2
  rw[h3];simp[h1.2]
theorem e0_ltK{k:ByteArray}(h:keyB k=true):ltS e0 k=true:=by
 rcases ltS_tri e0 k with h1|h1|h1
 ·exact h1
 ·rw[← h1] at h;exact absurd h (by decide)
 ·unfold ltS at h1;rw[show e0.toList=[] from by simp[ByteArray.toList_eq]] at h1;cases hk:k.toList <;> rw[hk] at h1 <;> simp[Op.bytesLess] at h1
theorem rightP_of{ps:List PairS}(hs:SortedP ps)(hk:∀x∈ps,PairOk x):rightP ps=true :=
 rightFrom_of ps _ hs hk (λx hx=>e0_ltK (hk x hx).1)
end
section
open Go.RowKit
attribute [local go_sem ↓] Go.wp_at_zero Go.wp_at_succ
section
variable {P P' F F':Nat→Prop}{ad:Nat→Addr}{w0 w w':World}{d S c sp n:Nat}{s:SupA}{G:GA}{l:List Nat}
theorem StR.var[GhoI]{home root keys:Int}{R:Nat}{cc:Array Value}{t:TypeId}(h:StR F w P S d c sp s home root keys G l)(v:VarR F (plusR P S) w0 w R cc t)(m:Mods (λk=>k=R) w w'):StR F w' P S d c sp s home root keys G l:=by
 obtain⟨h1,⟨a,c2,h2⟩,h3,h4⟩:=h;exact⟨h1.res m (λhp=>v.p (.inl hp)) v.f,⟨a,c2,h2.mods m (λe=>v.p (.inr e.symm))⟩,h3,h4⟩
theorem KstR.var[GhoI]{hh root dd R:Nat}{ps:List PairS}{pgs pgs0:List Nat}{cc:Array Value}{t:TypeId}(h:KstR F w P n S d c sp s hh G l root dd ps pgs pgs0)(v:VarR F (plusR P S) w0 w R cc t)(m:Mods (λk=>k=R) w w'):KstR F w' P n S d c sp s hh G l root dd ps pgs pgs0:=⟨h.gho,h.home,h.st.var v m,h.lawn⟩
theorem KstR.at[GhoI]{hh root dd:Nat}{ps:List PairS}{pgs pgs0:List Nat}(h:KstR F w P n S d c sp s hh G l root dd ps pgs pgs0)(m:Ext w w'):KstR F w' P n S d c sp s hh G l root dd ps pgs pgs0:=⟨h.gho,h.home,h.st.at m,h.lawn⟩
theorem KstR.grow[GhoI]{hh root dd:Nat}{ps:List PairS}{pgs pgs0:List Nat}(h:KstR F w P n S d c sp s hh G l root dd ps pgs pgs0)(hP:∀k,P k→F k){Q:Nat→Prop}(m:Ext w w')(hQ:∀k,Q k→w.heap.size≤k):KstR (λk=>F k∨Q k) w' P n S d c sp s hh G l root dd ps pgs pgs0:=by
 obtain⟨h1,⟨a,c2,h2⟩,h3,h4⟩:=h.st;exact⟨h.gho,h.home,⟨h1.plusNew hP m hQ,⟨a,c2,h2.ext m⟩,h3,.inl h4⟩,h.lawn⟩
def BsS(ad:Nat→Addr)(w0:World)(n S d c sp R k:Nat)(wr:World):Prop :=
 ∃(_:GhoI) (P F:Nat→Prop) (s:SupA) (hh:Nat) (G:GA) (l:List Nat) (root dd:Nat) (ps ps0:List PairS) (pgs pgs0:List Nat) (wv iv:Value) (g:Nat),
  KstR F wr P n S d c sp s hh G l root dd ps pgs pgs0∧Nxt NoB (plusR P S) NoB F ad w0 wr∧VarR F (plusR P S) w0 wr R #[wv,iv,.int .u64 (g:Int)] 35 ∧
  Sl F wr 2 encP wv ps0∧Sl F wr 2 encP iv ps∧(pgs0.length:Int)≤mostN ps0 256∧rightP ps0=true∧G.cost≤61 * k∧s.gen≤k+1∧g≤k+1∧ps.length≤k∧ps0.length≤k
end
theorem BsS.ext{ad:Nat→Addr}{w0 wr W:World}{n S d c sp R k:Nat}(h:BsS ad w0 n S d c sp R k wr)(m:Ext wr W):BsS ad w0 n S d c sp R (k+1) W:=by
 obtain⟨iK,P,F,s,hh,G,l,root,dd,ps,ps0,pgs,pgs0,wv,iv,g,a1,a2,a3,a4,a5,a6,a7,a8,a9,a10,a11,a12⟩:=h;exact⟨iK,P,F,s,hh,G,l,root,dd,ps,ps0,pgs,pgs0,wv,iv,g,a1.at m,a2.trans (Nxt.ext a2.env a2.sub m),a3.ext m,a4.ext m,a5.ext m,a6,a7,by omega,by omega,by omega,by omega,by omega⟩
theorem codeG0{n:Nat}(h1:8≤n)(h2:n≤256){l k:List PairS}(hl:rightP l=true)(hk:rightP k=true):codeG (n:Int) 256 [l,k]=0:=by
 unfold codeG codeN;rw[if_pos (by unfold rightG;simp;omega),if_neg (by omega)];simp[hl,hk]
theorem BsS.put[GhoI]{ad:Nat→Addr}{w0 wr:World}{n S d c sp R k:Nat}{P F:Nat→Prop}{s:SupA}{hh:Nat}{G:GA}{l:List Nat}{root dd:Nat}{ps ps0:List PairS}{pgs pgs0:List Nat}{wv iv a1 a2 a3:Value}{g:Nat}
  (hK:KstR F wr P n S d c sp s hh G l root dd ps pgs pgs0) (hN:Nxt NoB (plusR P S) NoB F ad w0 wr) (hV:VarR F (plusR P S) w0 wr R #[a1,a2,a3] 35) (hw:Sl F wr 2 encP wv ps0) (hi:Sl F wr 2 encP iv ps) (h0:(pgs0.length:Int)≤mostN ps0 256) (hr:rightP ps0=true) (hc:G.cost≤61 * k) (hg:s.gen≤k+1) (hg2:g≤k+1) (hl:ps.length≤k) (hl0:ps0.length≤k) :
  BsS ad w0 n S d c sp R k (((wr.setCell ⟨R,0,none⟩ wv).setCell ⟨R,1,none⟩ iv).setCell ⟨R,2,none⟩ (.int .u64 (g:Int))):=by
 have m:Mods (λk=>k=R) wr (((wr.setCell ⟨R,0,none⟩ wv).setCell ⟨R,1,none⟩ iv).setCell ⟨R,2,none⟩ (.int .u64 (g:Int))):=Mods.set3 (F:=λk=>k=R) (Mods.refl _ wr) (R:=R) (.inr rfl) _ _ _;have mF:=hV.mF m;exact⟨_,P,F,s,hh,G,l,root,dd,ps,ps0,pgs,pgs0,wv,iv,g,hK.var hV m,hN.var hV m,⟨hV.blk.set3 _ _ _,hV.f,hV.p,hV.new⟩,hw.mods mF,hi.mods mF,h0,hr,hc,hg,hg2,hl,hl0⟩
section
variable {P F:Nat→Prop}{ad:Nat→Addr}{w w':World}{S d c sp:Nat}{s:SupA}{home keys root:Int}{G:GA}{l:List Nat}
theorem stLenB[GhoI](h:StR F w P S d c sp s home root keys G l) : Calls Tryz.prog 18 #[.pointer (some ⟨S,0,none⟩)] w λe w'=>e=.returned (.int .i64 keys)∧w=w':=by
 obtain⟨h1,⟨a,cc,h2⟩,h3,h4⟩:=h;have c10:=h2.cell (o:=10) (v:=.int .i64 keys) rfl;clear h1 h2 h3 h4
 go_enter Tryz.func18, Tryz.ntmps18
 go_wp2_with fail;go_ret;exact⟨rfl,rfl⟩
theorem nxt_ext0{P0:Nat→Prop}(n:Nxt NoB P0 NoB F ad w w'):Ext w w':=n.stp.mods.mono (λ_ hk=>hk.elim)
end
section
variable {ad:Nat→Addr}{w:World}
theorem nxt_addS{P F F0:Nat→Prop}{w w':World}{S:Nat}(n:Nxt NoB P F0 F ad w w')(hS:w.heap.size≤S)(h2:S<w'.heap.size)(hF:F S):Nxt NoB (plusR P S) F0 F ad w w' :=
 ⟨⟨n.stp.mods,λk hk h=>h.elim (n.stp.old k hk) (λe=>by omega),λk h=>h.elim (n.stp.bd k) (λe=>by rw[e];exact h2)⟩,λk h=>h.elim (n.sub k) (λe=>by rw[e];exact hF),n.grow,n.oldF,n.env⟩
theorem dry_newS{b s:Nat}(h8:8≤b)(h256:b≤256)(h1:256≤s)(h2:s≤1024):DryD (newDisk b s) :=
 ⟨rfl,rfl,rfl,by simp[newDisk],λid hid=>by
  have hid':id<b:=hid;unfold DiskA.look newDisk;simp[lookW,List.getD_eq_getElem?_getD,hid'],h8,h256,h1,h2⟩
set_option maxRecDepth 100000 in
set_option maxHeartbeats 4000000 in
theorem BoundSafe_any(hL:Env NoB ad w)(lv:Value)(L:List PairS)(hl:Sl NoB w 2 encP lv L)(b:Nat)(hb:b<256) :
  Calls Tryz.prog 3 #[lv,.int .u8 (b:Int)] w λe w'=>e=.returned (.bool true)∧Ext w w':=by
 obtain⟨la,lc,rfl,hlen,hl2,hl3, -⟩:=id hl;obtain⟨r,hr⟩:∃r:Nat,r=b % 190:=⟨_,rfl⟩;obtain⟨n,hn⟩:∃n:Nat,n=60+r:=⟨_,rfl⟩;have e1:(b:Int).tmod 190=(r:Int):=by rw[hr,Int.tmod_eq_emod_of_nonneg (by omega)];omega
 have e3:RowKit.wrap64 (r:Int)=(r:Int):=by unfold RowKit.wrap64;omega
 have e2:RowKit.wrap64 (60+(r:Int))=(n:Int):=by unfold RowKit.wrap64;omega
 have hn1:60≤n∧n<250:=by omega
 have HN:=oh hn1;have HL:=oh hL;have HSL:=oh hl;have m0:Ext w (w.alloc (.cells #[.int .i64 (n:Int),.int .i64 256] 24)):=(Mods.refl _ w).alloc _;have HM0:=oh m0;have HG0:=oh (Blk.new w #[.int .i64 (n:Int),.int .i64 256] 24);unfold maxLen at hl2;clear hL hl hr hn hn1 m0
 go_enter Tryz.func3, Tryz.ntmps3
 go_wp2_with fail;refine (dkNew_ok n 256 (by have:=HN.out;omega) (by have:=HN.out;omega) (by omega) (by omega)).mono ?_;rintro e w1 ⟨d,Pd,rfl,hD,hn,hm⟩;have HN1:=oh (Nxt.of (P:=NoB) (P':=Pd) (HL.out.mods HM0.out.ext) (λ_ h=>h.elim) ⟨hm,λk hk h=>by have:=hn k h;omega,hD.bd⟩);have HD:Hid (DkS w1 Pd d (newDisk n 256)):=oh hD;have HG1:=oh (HG0.out.ext hm);clear hD hn hm e1 e2 e3;go_wp2_with fail;refine (formatK HN1.out.env (λ_ h=>.inr h) HD.out (dry_newS (by have:=HN.out;omega) (by have:=HN.out;omega) (by omega) (by omega)) (by show 16≤n;have:=HN.out;omega) rfl 4 (by omega) (by omega)).mono ?_;rintro e w2 ⟨S,c,sp,P2,F2,rfl,h2,n2⟩;have hN2:=HN1.out.trans n2;obtain⟨iK,G,l,hK,hc0⟩:=h2;have hFS:F2 S:=hK.st.2.2.2;have hS0:(w.alloc (.cells #[.int .i64 (n:Int),.int .i64 256] 24)).heap.size≤S:=Nat.le_of_not_lt λh=>(hN2.oldF S h hFS).elim
 have HN2:=oh (nxt_addS hN2 hS0 hK.st.lt hFS);have HK2:Hid (∃(_:GhoI) (G:GA) (l:List Nat),KstR F2 w2 P2 n S d c sp (sup1A (newDisk n 256)) 0 G l 0 0 [] [] []∧G.cost=0):=oh ⟨iK,G,l,hK,hc0⟩;clear hN2 hK hc0 hFS hS0 n2;clear iK;have HG2:=oh (HN2.out.blk HG0.out (λh=>h));go_wp2_with fail;refine (new17_any _).mono ?_;rintro e w3 ⟨rfl,m3⟩;have HM3:=oh m3;clear m3;unfold st17V;go_wp2_with fail;obtain⟨wA,hwA⟩:∃W,W=w.alloc (.cells #[.int .i64 (n:Int),.int .i64 256] 24):=⟨_,rfl⟩;obtain⟨w4,hw4⟩:∃W,W=w3.alloc (.cells #[.slice none 0 0,.slice none 0 0,.int .u64 1] 35):=⟨_,rfl⟩;obtain⟨R,hR⟩:∃R,R=w3.heap.size:=⟨_,rfl⟩;obtain⟨X5,hX5⟩:∃X,X=w.heap.size:=⟨_,rfl⟩;rw[← hwA] at HM0 HG0 HN2 HN1;rw[← hX5] at HG0 HG2;rw[← hw4,← hR,← hX5];have HW0:Hid (BsS ad wA n S d c sp R 0 w4):=oh (by
  obtain⟨iK,G,l,hK,hc0⟩:=HK2.out;have m24:Ext w2 w4:=by rw[hw4];exact HM3.out.alloc _
  have hrg:w2.heap.size≤R:=by rw[hR];exact HM3.out.size
  have hrl:R<w4.heap.size:=by rw[hw4,hR];simp
  have hK4:=hK.grow (λk hk=>HN2.out.sub k (.inl hk)) (Q:=λk=>k=R) m24 (λk hk=>by omega);have hN4:=HN2.out.trans (Nxt.new HN2.out.env HN2.out.sub (Q:=λk=>k=R) m24 (λk hk=>by omega) (λk hk=>by omega));have hnP:¬ plusR P2 S R:=λh=>by have:=HN2.out.stp.bd R h;omega
  refine⟨iK,P2,_,sup1A (newDisk n 256),0,G,l,0,0,[],[],[],[],.slice none 0 0,.slice none 0 0,1,hK4,hN4,⟨by rw[hw4,hR];exact Blk.new w3 _ _,.inr rfl,hnP,?_⟩,Sl.nil _ _ _ _,Sl.nil _ _ _ _,by simp[mostN],rfl,by omega,by show 1≤0+1;omega,by omega,Nat.le_refl _,Nat.le_refl _⟩;exact Nat.le_trans HN2.out.stp.mods.size hrg)
 have HG4:Hid (X5<wA.heap.size∧Blk wA X5 #[.int .i64 (n:Int),.int .i64 256] 24):=oh ⟨HG0.out.lt,HG0.out⟩;clear hwA hw4 hR hX5 HK2 HN2 HG2 HM3;obtain⟨T,hT⟩:∃T,T=min L.length 40:=⟨_,rfl⟩;have HT:=oh hT;clear hT;go_loopg [11] T (λm v11 wr=>∃k:Nat,k+m=T∧v11=.int .i64 (k:Int)∧Hid (BsS ad wA n S d c sp R k wr))
 case atStart=>exact⟨0,by omega,rfl,HW0⟩
 case round =>
  obtain⟨k,hk,rfl,HR⟩:=hrel;by_cases hlt:k<T
  ·have HRK:=HR;obtain⟨iK,P,F,s,hh,G,l,root,dd,ps,ps0,pgs,pgs0,wv,iv,g,hK,hN,hV,hwv,hiv,hm0,hr0,hcost,hg1,hg2,hps,hps0⟩:=HR.out;obtain⟨wa,wc,rfl, -⟩:=id hwv;obtain⟨ia,ic,rfl, -⟩:=id hiv;have hTL:k<L.length∧k<40:=by have:=HT.out;omega
   have hsl:=hN.sl (λ_ h=>h) (HSL.out.ext HM0.out);obtain⟨qb,qoff,hqa,hqF,hcc⟩:=hsl.elemF (k:=k) hTL.1;have d0:=hcc 0 (.string L[k].1) rfl;have d1:=hcc 1 (.string L[k].2) rfl;simp only[Nat.add_zero] at d0;obtain⟨x,hx⟩:∃x,x=L[k]:=⟨_,rfl⟩;rw[← hx] at d0 d1;obtain⟨key,v0⟩:=x;simp only at d0 d1;obtain⟨v,hv⟩:∃v,v=v0.extract 0 (min v0.size 300):=⟨_,rfl⟩;have hv3:v.size≤300:=by rw[hv,ByteArray.size_extract];omega
   have HSH:=oh (λW=>short19_any key v0 W);rw[← hv] at HSH;have HV3:=oh hv3;have HKS:Hid (KstR F wr P n S d c sp s hh G l root dd ps pgs pgs0∧Nxt NoB (plusR P S) NoB F ad wA wr∧VarR F (plusR P S) wA wr R #[.slice wa ps0.length wc,.slice ia ps.length ic,.int .u64 (g:Int)] 35 ∧ Sl F wr 2 encP (.slice wa ps0.length wc) ps0∧Sl F wr 2 encP (.slice ia ps.length ic) ps):=oh ⟨hK,hN,hV,hwv,hiv⟩;have HNU:Hid ((pgs0.length:Int)≤mostN ps0 256∧rightP ps0=true∧G.cost≤61 * k∧s.gen≤k+1∧g≤k+1∧ps.length≤k∧ps0.length≤k∧k<40):=oh ⟨hm0,hr0,hcost,hg1,hg2,hps,hps0,hTL.2⟩;have r0:=hV.blk.cell (o:=0) (v:=.slice wa ps0.length wc) rfl;have r1:=hV.blk.cell (o:=1) (v:=.slice ia ps.length ic) rfl;have r2:=hV.blk.cell (o:=2) (v:=.int .u64 (g:Int)) rfl;have HX5:=oh (hN.blk HG4.out.2 (λh=>h));subst hqa;have i1:(k:Int)<(L.length:Int):=by omega
   have i2:(k:Int)<40:=by omega
   have i0:(0:Int)≤(k:Int):=by omega
   have hK40:k+gk=T:=hk;clear hK hN hV hwv hiv hm0 hr0 hcost hg1 hg2 hps hps0 hsl hcc hx hv hv3 HR hTL hk;have HRC:Hid (∀W,Ext wr W→W.cell? ⟨R,0,none⟩=some (.slice wa ps0.length wc)∧W.cell? ⟨R,1,none⟩=some (.slice ia ps.length ic)∧W.cell? ⟨R,2,none⟩=some (.int .u64 (g:Int))∧W.cell? ⟨X5,0,none⟩=some (.int .i64 (n:Int))∧W.cell? ⟨X5,1,none⟩=some (.int .i64 256)):=oh (λW m=>⟨(HKS.out.2.2.1.blk.ext m).cell rfl,(HKS.out.2.2.1.blk.ext m).cell rfl,(HKS.out.2.2.1.blk.ext m).cell rfl,(HX5.out.ext m).cell rfl,(HX5.out.ext m).cell rfl⟩);go_wp2_with fail;refine (HSH.out wr).mono ?_;rintro e w5 ⟨rfl,m5⟩;obtain⟨r0,r1,r2,x0,x1⟩:=HRC.out _ (m5.alloc (.cells #[.string key,.string v] 38));go_wp2_with fail;obtain⟨w6,hw6⟩:∃W,W=w5.alloc (.cells #[.string key,.string v] 38):=⟨_,rfl⟩;obtain⟨Y,hY⟩:∃Y,Y=w5.heap.size:=⟨_,rfl⟩;have m6:Ext wr w6:=by rw[hw6];exact m5.alloc _
   have hY6:Blk w6 Y #[.string key,.string v] 38:=by rw[hw6,hY];exact Blk.new w5 _ _
   have HM6:=oh m6;have HY6:=oh hY6;have y0:=hY6.cell (o:=0) (v:=.string key) rfl;have y1:=hY6.cell (o:=1) (v:=.string v) rfl;obtain⟨r0,r1,r2,x0,x1⟩:=HRC.out w6 m6;have HPU:=oh (put17_any wa ps0.length wc (.slice ia ps.length ic) g key v (by have:=HV3.out;omega) ps (HKS.out.2.2.2.2.ext m6) (by have:=HNU.out;omega));have HPX:Hid (∀e w',Put17D w6 (.slice wa ps0.length wc) (.slice ia ps.length ic) g key v ps e w'→∃(a2:Option Addr) (c2:Nat) (nx:List PairS) (cd:Nat) (nb:Bool),e=.returned (.tuple #[st17V (.slice wa ps0.length wc) (.slice a2 nx.length c2) g,.bool nb,.int .i64 (cd:Int)])∧Ext w6 w'∧Sl F w' 2 encP (.slice a2 nx.length c2) nx∧rightP nx=true∧nx.length≤k+1∧(cd=2∨(cd=0∧keyB key=true∧nx=withP key v true ps))):=oh (by
    rintro e w' ⟨m,h⟩;have hlt:=HNU.out;have htd:=HKS.out.1.lawn.td;rcases h with ⟨_,rfl⟩|⟨hkb,iv',rfl,hO⟩
    ·exact⟨ia,ic,ps,2,false,rfl,m,HKS.out.2.2.2.2.ext (HM6.out.trans m),rightP_of htd.sorted htd.ok,by omega,.inl rfl⟩
    ·obtain⟨a2,c2,rfl, -⟩:=hO.form;have hln:=withP_len key v true ps;have hsp:SortedP (withP key v true ps):=sorted_withP htd.sorted;refine⟨a2,c2,_,0,_,rfl,m,hO.slF (λq hq=>Nat.lt_of_lt_of_le (HKS.out.2.1.env.lt q hq) HM6.out.size) encP_ok.len (by omega),rightP_of hsp (λy hy=>?_),by omega,.inr ⟨rfl,hkb,rfl⟩⟩;rcases mem_withP hy with rfl|hy
     ·exact⟨hkb,by have:=HV3.out;show v.size≤4096;omega⟩
     ·exact htd.ok y hy)
   rw[← hw6,← hY];clear hw6 hY m5 m6 hY6 d0 d1;refine HPU.out.mono ?_;intro e w7 hq7;obtain⟨a2,c2,nx,cd,nb,rfl,m7,hnx,hrx,hlx,hcd⟩:=HPX.out e w7 hq7;clear hq7;obtain⟨r0,r1,r2,x0,x1⟩:=HRC.out _ ((HM6.out.trans m7).alloc (.cells #[.slice wa ps0.length wc,.slice a2 nx.length c2,.int .u64 (g:Int)] 35));have hYe:=HY6.out.ext (m7.alloc (.cells #[.slice wa ps0.length wc,.slice a2 nx.length c2,.int .u64 (g:Int)] 35));have y0:=hYe.cell (o:=0) (v:=.string key) rfl;have y1:=hYe.cell (o:=1) (v:=.string v) rfl;unfold st17V;go_wp2_with fail;obtain⟨w8,hw8⟩:∃W,W=w7.alloc (.cells #[.slice wa ps0.length wc,.slice a2 nx.length c2,.int .u64 (g:Int)] 35):=⟨_,rfl⟩;obtain⟨Z,hZ⟩:∃Y,Y=w7.heap.size:=⟨_,rfl⟩;have m8:Ext w7 w8:=by rw[hw8];exact (Mods.refl _ w7).alloc _
   have hZ8:Blk w8 Z #[.slice wa ps0.length wc,.slice a2 nx.length c2,.int .u64 (g:Int)] 35:=by rw[hw8,hZ];exact Blk.new w7 _ _
   have hM8:=(HM6.out.trans m7).trans m8;rw[← hw8] at hYe r0 r1 r2 x0 x1 y0 y1;have HSF:=oh (Safe_any (HKS.out.2.1.env.mods hM8.ext) (n:Int) 256 (.slice wa ps0.length wc) (.slice a2 nx.length c2) ps0 nx (HKS.out.2.2.2.1.ext hM8) (hnx.ext m8));rw[codeG0 (by have:=HN.out;omega) (by have:=HN.out;omega) HNU.out.2.1 hrx] at HSF;have HM8:=oh hM8;have HZL:Hid (wr.heap.size≤Z):=oh (by rw[hZ];exact (HM6.out.trans m7).size);have HZ8:=oh hZ8;have HYE:=oh hYe;have HNX:=oh (hnx.ext m8);have HLX:=oh (And.intro hrx hlx);rw[← hw8,← hZ];clear hw8 hZ m8 hZ8 hM8 hYe hnx m7 hrx hlx;refine HSF.out.mono ?_;rintro e w9 ⟨sv,ev,rfl,hsv,hres,m9⟩;rw[if_pos rfl] at hsv;have hev:ev=.nilIface:=by
    rcases hres with ⟨_,h⟩|⟨h,_⟩
    ·exact h
    ·exact absurd rfl h
   subst hev;have HM9:=oh (HM8.out.trans m9);have HZ9:=oh (HZ8.out.ext m9);have HX9:=oh (HNX.out.ext m9);obtain⟨r0,r1,r2,x0,x1⟩:=HRC.out _ HM9.out;have hY9:=HYE.out.ext m9;have y0:=hY9.cell (o:=0) (v:=.string key) rfl;have y1:=hY9.cell (o:=1) (v:=.string v) rfl;have HNEXT:Hid (BsS ad wA n S d c sp R (k+1) w9):=oh (HRK.out.ext HM9.out);clear hres hY9 m9;rcases hcd with rfl|⟨rfl,hkb,rfl⟩
   ·clear hsv;go_wp2_with fail;go_roundg (gk-1)
    case measure=>omega
    case rel=>exact⟨k+1,by omega,by go_num,HNEXT⟩
   ·by_cases hsafe:batchN ps0 (withP key v true ps) 256≤(n:Int)
    ·have hsv2:sv=true:=by rw[hsv];simpa using hsafe
     subst hsv2;have HSAFE:=oh hsafe;have HKB:=oh hkb;clear hsv hsafe hkb;have HPT:=oh (putK (w:=w9) (HKS.out.2.1.env.mods HM9.out.ext) (λj hj=>HKS.out.2.1.sub j (.inl hj)) (HKS.out.1.at HM9.out) (by have:=HNU.out;omega) (by have:=HNU.out;omega) (by have:=HNU.out;omega) HKB.out (by have:=HV3.out;omega) (HKS.out.1.lawn.safe HNU.out.1 HKB.out (by have:=HV3.out;omega) HSAFE.out));go_wp2_with fail;refine HPT.out.mono ?_;rintro e w10 ⟨rfl,P10,F10,G10,l10,root10,dd10,pgs10,hK10,hN10,hcost10, -⟩;have hN010:=(HKS.out.2.1.trans (Nxt.ext HKS.out.2.1.env HKS.out.2.1.sub HM9.out)).trans hN10;have hV10:=(HKS.out.2.2.1.ext HM9.out).nxt hN10;have hZ10:=hN10.blk HZ9.out (λhp=>by have:=HKS.out.2.1.stp.bd Z hp;have:=HZL.out;omega);have hw10:=hN10.sl (λj hj=>HKS.out.2.1.sub j hj) (HKS.out.2.2.2.1.ext HM9.out);have hi10:=hN10.sl (λj hj=>HKS.out.2.1.sub j hj) HX9.out;have z0:=hZ10.cell (o:=0) (v:=.slice wa ps0.length wc) rfl;have z1:=hZ10.cell (o:=1) (v:=.slice a2 (withP key v true ps).length c2) rfl;have z2:=hZ10.cell (o:=2) (v:=.int .u64 (g:Int)) rfl;have r0:=hV10.blk.cell (o:=0) (v:=.slice wa ps0.length wc) rfl;have r1:=hV10.blk.cell (o:=1) (v:=.slice ia ps.length ic) rfl;have r2:=hV10.blk.cell (o:=2) (v:=.int .u64 (g:Int)) rfl;have rf:=hV10.blk.frozen;have hRZ:R≠Z:=λe=>by have:=HKS.out.2.2.1.blk.lt;have:=HZL.out;omega
     have HK10:=oh (And.intro hK10 (And.intro hN010 (And.intro hV10 (And.intro hw10 hi10))));have HC10:=oh hcost10;have hkm:(k:Int).tmod 7=((k % 7:Nat):Int):=by rw[Int.tmod_eq_emod_of_nonneg (by omega)];omega
     obtain⟨q7,hq7⟩:∃q,q=k % 7:=⟨_,rfl⟩;rw[← hq7] at hkm;clear hq7 hK10 hN10 hN010 hV10 hZ10 hw10 hi10 hcost10 x0 x1 y0 y1;by_cases h76:q7=6
     ·subst h76;rw[show ((6:Nat):Int)=6 from rfl] at hkm;go_wp2_with fail;obtain⟨w11,hw11⟩:∃W,W=(((w10.setCell ⟨R,0,none⟩ (.slice wa ps0.length wc)).setCell ⟨R,1,none⟩ (.slice a2 (withP key v true ps).length c2)).setCell ⟨R,2,none⟩ (.int .u64 (g:Int))):=⟨_,rfl⟩;have m11:Mods (λk=>k=R) w10 w11:=by rw[hw11];exact Mods.set3 (F:=λk=>k=R) (Mods.refl _ w10) (R:=R) (.inr rfl) _ _ _
      have hV11:VarR F10 (plusR P10 S) wA w11 R #[.slice wa ps0.length wc,.slice a2 (withP key v true ps).length c2,.int .u64 (g:Int)] 35:=by rw[hw11];exact⟨HK10.out.2.2.1.blk.set3 _ _ _,HK10.out.2.2.1.f,HK10.out.2.2.1.p,HK10.out.2.2.1.new⟩
      rw[← hw11];have hK11:=HK10.out.1.var HK10.out.2.2.1 m11;have hN11:=HK10.out.2.1.var HK10.out.2.2.1 m11;have hi11:=HK10.out.2.2.2.2.mods (HK10.out.2.2.1.mF m11);have HCM:=oh (commitK (w:=w11) hN11.env (λj hj=>hN11.sub j (.inl hj)) hK11 (by have:=HNU.out;omega) (by have:=HLX.out.2;have:=HNU.out;omega) (by have:=HC10.out;have:=HNU.out;omega));have H11:=oh (And.intro hN11 (And.intro hV11 hi11));clear hw11 m11 hK11 hN11 hV11 hi11 r0 r1 r2 rf z0 z1 z2;refine HCM.out.mono ?_;rintro e w12 ⟨rfl,P12,F12,⟨iC,hK12⟩,hN12⟩;have hN012:=H11.out.1.trans hN12;have hV12:=H11.out.2.1.nxt hN12;have hi12:=hN12.sl (λj hj=>H11.out.1.sub j hj) H11.out.2.2;have r0:=hV12.blk.cell (o:=0) (v:=.slice wa ps0.length wc) rfl;have r1:=hV12.blk.cell (o:=1) (v:=.slice a2 (withP key v true ps).length c2) rfl;have r2:=hV12.blk.cell (o:=2) (v:=.int .u64 (g:Int)) rfl;have HK12:Hid (KstR F12 w12 P12 n S d c sp (nextS s root10 (withP key v true ps).length) (1-hh) (sealG G10) (spCommit l10) root10 dd10 (withP key v true ps) pgs10 pgs10):=oh hK12;have H12:=oh (And.intro hN012 (And.intro hV12 hi12));clear hK12 hN12 hN012 hV12 hi12;go_wp2_with fail;refine (commit17_any _ a2 _ c2 g (by have:=HNU.out;omega)).mono ?_;rintro e w13 ⟨rfl,m13⟩;unfold st17V;have HV13:=oh (H12.out.2.1.ext m13);have rf:=HV13.out.blk.frozen;have HM13:=oh m13;clear m13 r0 r1 r2;have r0:=HV13.out.blk.cell (o:=0) (v:=.slice wa ps0.length wc) rfl;have r1:=HV13.out.blk.cell (o:=1) (v:=.slice a2 (withP key v true ps).length c2) rfl;have r2:=HV13.out.blk.cell (o:=2) (v:=.int .u64 (g:Int)) rfl;go_wp2_with fail;have HFIN:Hid (BsS ad wA n S d c sp R (k+1) (((w13.setCell ⟨R,0,none⟩ (.slice a2 (withP key v true ps).length c2)).setCell ⟨R,1,none⟩ (.slice a2 (withP key v true ps).length c2)).setCell ⟨R,2,none⟩ (.int .u64 ((g+1:Nat):Int)))):=oh (BsS.put (HK12.out.at HM13.out) (H12.out.1.trans (Nxt.ext H12.out.1.env H12.out.1.sub HM13.out)) HV13.out (H12.out.2.2.ext HM13.out) (H12.out.2.2.ext HM13.out) (TD.most HK12.out.lawn.td HK12.out.lawn.size) HLX.out.1 (by show (0:Nat)≤_;omega) (by have:=HNU.out;show s.gen+1≤_;omega) (by have:=HNU.out;omega) HLX.out.2 HLX.out.2);go_roundg (gk-1)
      case measure=>omega
      case rel=>exact⟨k+1,by omega,by go_num,HFIN⟩
     ·have h76i:¬ (q7:Int)=6:=by omega
      go_wp2_with fail;have HFIN:Hid (BsS ad wA n S d c sp R (k+1) (((w10.setCell ⟨R,0,none⟩ (.slice wa ps0.length wc)).setCell ⟨R,1,none⟩ (.slice a2 (withP key v true ps).length c2)).setCell ⟨R,2,none⟩ (.int .u64 (g:Int)))):=oh (BsS.put HK10.out.1 HK10.out.2.1 HK10.out.2.2.1 HK10.out.2.2.2.1 HK10.out.2.2.2.2 HNU.out.1 HNU.out.2.1 (by have:=HC10.out;have:=HNU.out;omega) (by have:=HNU.out;omega) (by have:=HNU.out;omega) HLX.out.2 (by have:=HNU.out;omega));go_roundg (gk-1)
      case measure=>omega
      case rel=>exact⟨k+1,by omega,by go_num,HFIN⟩
    ·have hsv2:sv=false:=by rw[hsv];simpa using hsafe
     subst hsv2;clear hsv hsafe hkb;go_wp2_with fail;go_roundg (gk-1)
     case measure=>omega
     case rel=>exact⟨k+1,by omega,by go_num,HNEXT⟩
  ·have hkT:k=T:=by omega
   obtain⟨iK,P,F,s,hh,G,l,root,dd,ps,ps0,pgs,pgs0,wv,iv,g,hK,hN,hV,hwv,hiv,hm0,hr0,hcost,hg1,hg2,hps,hps0⟩:=HR.out;obtain⟨ia,ic,rfl, -⟩:=id hiv;have r1:=hV.blk.cell (o:=1) (v:=.slice ia ps.length ic) rfl;have HLN:=oh (λW (m:Ext wr W)=>stLenB (hK.st.at m));have HAW:=oh (λW (m:Ext wr W)=>awake19_any (hN.env.mods m.ext));have HEX:Hid (Ext w wr):=oh (HM0.out.trans (nxt_ext0 hN));have i0:(0:Int)≤(k:Int):=by omega
   have hout:¬ ((k:Int)<(L.length:Int))∨((k:Int)<(L.length:Int)∧¬ ((k:Int)<40)):=by have:=HT.out;omega
   clear hK hN hV hwv hiv hm0 hr0 hcost hg1 hg2 hps hps0 HR hlt;rcases hout with i1|⟨i1,i2⟩
   ·go_wp2_with fail;go_region_with (first
     | (go_at_call 18;refine (HLN.out _ (Mods.refl _ wr).drew).mono ?_;rintro e w' ⟨rfl,rfl⟩)
     | (go_at_call 19;refine (HAW.out _ (Mods.refl _ wr).drew).mono ?_;rintro e w' ⟨rfl,hm4⟩))
    all_goals
     go_wp2_with fail;go_ret;exact⟨rfl,HEX.out.trans ((Mods.refl _ wr).drew.trans hm4)⟩
   ·go_wp2_with fail;go_region_with (first
     | (go_at_call 18;refine (HLN.out _ (Mods.refl _ wr).drew).mono ?_;rintro e w' ⟨rfl,rfl⟩)
     | (go_at_call 19;refine (HAW.out _ (Mods.refl _ wr).drew).mono ?_;rintro e w' ⟨rfl,hm4⟩))
    all_goals
     go_wp2_with fail;go_ret;exact⟨rfl,HEX.out.trans ((Mods.refl _ wr).drew.trans hm4)⟩
end
end
end Go.Proofs.YteabpacpngaoaaaGreatDoor
