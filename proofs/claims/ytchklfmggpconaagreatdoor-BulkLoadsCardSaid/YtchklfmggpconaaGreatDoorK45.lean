import Derived.Test.YtchklfmggpconaaGreatDoorK44
import Derived.Deep.DeepCutAuto
namespace Go.Proofs.YtchklfmggpconaaGreatDoor
open Lib renaming hid→oh
set_option maxHeartbeats 4000000
set_option maxRecDepth 100000
open Go.RowKit Go.Maps
attribute [local go_sem ↓] Go.wp_at_zero Go.wp_at_succ
section
variable {F P P' F' P1 F1:Nat→Prop}{ad:Nat→Addr}{w w' wr w0:World}{base c s gen kb mb:Nat}{G:GA}{l:List Nat}{pv kv pv' kv':Value}{st st':WkS}
theorem WkD.form{r:WkS ⊕ Err}{e:Ending}(h:WkD F P ad w base c s gen kb mb G l pv kv r e w'):∃v,e=.returned v:=by
 obtain⟨P',F',pv',kv',st',_,_,h⟩:=h;cases r with
 | inl s1=>exact⟨_,h.1⟩
 | inr er=>obtain⟨el,ek⟩:=er;obtain⟨f,h,_⟩:=h;exact⟨_,h⟩
theorem WkD.pre{r:WkS ⊕ Err}{e:Ending}(n:Nxt (wkQ P kb mb pv kv) (wkQ P1 kb mb pv' kv') F F1 ad w w0)(h:WkD F1 P1 ad w0 base c s gen kb mb G l pv' kv' r e w'):WkD F P ad w base c s gen kb mb G l pv kv r e w':=by
 obtain⟨P2,F2,pv2,kv2,st2,h1,h2,h3⟩:=h;exact⟨P2,F2,pv2,kv2,st2,h1,n.trans h2,h3⟩
theorem WkD.bad{er:Err}{f:Nat}(h:WkI F1 P1 ad w' base c s gen kb mb G l pv' kv' st')(n:Nxt (wkQ P kb mb pv kv) (wkQ P1 kb mb pv' kv') F F1 ad w w')(hE:ErrC F1 ad w' (faultV f) er.1 er.2){r:WkS ⊕ Err}(hr:r=.inr er) :
  WkD F P ad w base c s gen kb mb G l pv kv r (.returned (faultV f)) w':=by
 subst hr;exact⟨P1,F1,pv',kv',st',h,n,f,rfl,hE⟩
theorem WkD.good{st1:WkS}(h:WkI F1 P1 ad w' base c s gen kb mb G l pv' kv' st1)(n:Nxt (wkQ P kb mb pv kv) (wkQ P1 kb mb pv' kv') F F1 ad w w'){r:WkS ⊕ Err}(hr:r=.inl st1) :
  WkD F P ad w base c s gen kb mb G l pv kv r (.returned .nilIface) w':=by
 subst hr;exact⟨P1,F1,pv',kv',st1,h,n,rfl,rfl⟩
structure InS(F P:Nat→Prop)(ad:Nat→Addr)(w:World)(base c s gen kb mb:Nat)(G:GA)(l:List Nat)(pv kv:Value)(n:NodeA)(a:Place)(ea ka ia:Option Addr)(ec kc ic:Nat)(st':WkS)(F1 P1:Nat→Prop)(pv1 kv1:Value)(wr:World):Prop where
 st:WkI F1 P1 ad wr base c s gen kb mb G l pv1 kv1 st'
 nx:Nxt (wkQ P kb mb pv kv) (wkQ P1 kb mb pv1 kv1) F F1 ad w wr
 nd:Blk wr w.heap.size #[.bool n.leaf,.slice ea n.entries.length ec,.slice ka n.keys.length kc,.slice ia n.kids.length ic] 118
 pl:Blk wr (w.heap.size+1) #[.int .i64 a.id,.int .i64 (a.depth:Int),.string a.lo,.string a.hi] 105
 ks:Sl F1 wr 1 encS (.slice ka n.keys.length kc) n.keys
 is:Sl F1 wr 1 encI (.slice ia n.kids.length ic) n.kids
 nq:¬ wkQ P1 kb mb pv1 kv1 w.heap.size∧¬ wkQ P1 kb mb pv1 kv1 (w.heap.size+1)
theorem InS.nxt{n:NodeA}{a:Place}{ea ka ia:Option Addr}{ec kc ic:Nat}{st1 st2:WkS}{F1 P1 F2 P2:Nat→Prop}{pv1 kv1 pv2 kv2:Value}{w2:World}
  (h:InS F P ad w base c s gen kb mb G l pv kv n a ea ka ia ec kc ic st1 F1 P1 pv1 kv1 wr) (hi:WkI F2 P2 ad w2 base c s gen kb mb G l pv2 kv2 st2) (nx:Nxt (wkQ P1 kb mb pv1 kv1) (wkQ P2 kb mb pv2 kv2) F1 F2 ad wr w2) :
  InS F P ad w base c s gen kb mb G l pv kv n a ea ka ia ec kc ic st2 F2 P2 pv2 kv2 w2 :=
 ⟨hi,h.nx.trans nx,nx.blk h.nd h.nq.1,nx.blk h.pl h.nq.2,h.ks.step (nx.stp.mods.mono h.st.subQ) (λk hk hn hf=>hn (nx.oldF k hk hf)),h.is.step (nx.stp.mods.mono h.st.subQ) (λk hk hn hf=>hn (nx.oldF k hk hf)),nx.not h.nd.lt h.nq.1,nx.not h.pl.lt h.nq.2⟩
theorem InS.ext{n:NodeA}{a:Place}{ea ka ia:Option Addr}{ec kc ic:Nat}{st1:WkS}{F1 P1:Nat→Prop}{pv1 kv1:Value}{w2:World}
  (h:InS F P ad w base c s gen kb mb G l pv kv n a ea ka ia ec kc ic st1 F1 P1 pv1 kv1 wr) (m:Ext wr w2) :
  InS F P ad w base c s gen kb mb G l pv kv n a ea ka ia ec kc ic st1 F1 P1 pv1 kv1 w2:=h.nxt (h.st.ext m).1 (h.st.ext m).2
def NodeC(ad:Nat→Addr)(base c s gen kb mb:Nat)(G:GA)(l:List Nat)(f:Nat):Prop :=
 ∀(F P:Nat→Prop) (w:World) (pv kv:Value) (st:WkS) (a:Place),WkI F P ad w base c s gen kb mb G l pv kv st→WkInvK G st→a.depth+f=17→IntOk a.id →
  Calls Tryz.prog 48 #[.pointer (some ⟨kb,0,none⟩),placeV a] w (WkD F P ad w base c s gen kb mb G l pv kv (nodeW G gen f a st))
theorem inner_ok{f:Nat}(hrec:NodeC ad base c s gen kb mb G l f)(hG:Short G)(h:WkI F P ad w base c s gen kb mb G l pv kv st)(hi:WkInvK G st)(n:NodeA)(hr:rightN n=true)(hl:n.leaf=false)(a:Place)(hdep:a.depth+1+f=17)
  (ea ka ia:Option Addr) (ec kc ic:Nat) (hks:Sl F w 1 encS (.slice ka n.keys.length kc) n.keys) (his:Sl F w 1 encI (.slice ia n.kids.length ic) n.kids) :
  Calls Tryz.prog 82 #[.pointer (some ⟨kb,0,none⟩),.agg #[.bool n.leaf,.slice ea n.entries.length ec,.slice ka n.keys.length kc,.slice ia n.kids.length ic],placeV a] w (WkD F P ad w base c s gen kb mb G l pv kv (kidsW (nodeW G gen f) n a n.kids 0 st)):=by
 have m0:Ext w ((w.alloc (.cells #[.bool n.leaf,.slice ea n.entries.length ec,.slice ka n.keys.length kc,.slice ia n.kids.length ic] 118)).alloc (.cells #[.int .i64 a.id,.int .i64 (a.depth:Int),.string a.lo,.string a.hi] 105)):=((Mods.refl _ w).alloc _).alloc _;obtain⟨h0,n0⟩:=h.ext m0;have HL:Hid (InS F P ad w base c s gen kb mb G l pv kv n a ea ka ia ec kc ic st F P pv kv ((w.alloc (.cells #[.bool n.leaf,.slice ea n.entries.length ec,.slice ka n.keys.length kc,.slice ia n.kids.length ic] 118)).alloc (.cells #[.int .i64 a.id,.int .i64 (a.depth:Int),.string a.lo,.string a.hi] 105))):=oh
  ⟨h0,n0,(Blk.new w _ _).alloc _,heap_at (by simp),hks.ext m0,his.ext m0,λhp=>by have:=h.bd _ hp;omega,λhp=>by have:=h.bd _ hp;omega⟩
 obtain⟨b1,b2,b3⟩:n.kids.length≤ic∧ic≤maxLen∧n.kids.length≤140737488355328:=by
  obtain⟨_,_,e,h1,h2,h3,_⟩:=his;injection e with _ _ e;subst e;exact⟨h1,h2,h3⟩
 obtain⟨c1,c2,c3⟩:n.keys.length≤kc∧kc≤maxLen∧n.keys.length≤140737488355328:=by
  obtain⟨_,_,e,h1,h2,h3,_⟩:=hks;injection e with _ _ e;subst e;exact⟨h1,h2,h3⟩
 unfold maxLen at b2 c2;obtain⟨_,hkl,hk2⟩:=rightN_inner hr hl;have HKL:=oh hkl;have HK2:=oh hk2;have HI:=oh hi;have HG:=oh hG;have HREC:=oh hrec;have hd1:a.depth≤16:=by omega
 have HDEP:=oh hdep;have d3:=HL.out.nd.cell (o:=3) (v:=.slice ia n.kids.length ic) rfl;have hnk:n.kids.length=n.keys.length+1:=hkl;obtain⟨nk,hnk2⟩:∃nk,nk=n.kids.length:=⟨_,rfl⟩;clear h h0 n0 m0 hks his hi hr hl hk2 hkl hG hrec hdep hnk
 go_enter Tryz.func82, Tryz.ntmps82
 go_wp2_with fail;clear d3;go_loopg [14] n.kids.length (λq v14 wr=>∃(k:Nat) (s':WkS),k+q=n.kids.length∧v14=.int .i64 (k:Int)∧Hid ((∃(F1 P1:Nat→Prop) (pv1 kv1:Value),InS F P ad w base c s gen kb mb G l pv kv n a ea ka ia ec kc ic s' F1 P1 pv1 kv1 wr)∧kidsW (nodeW G gen f) n a (n.kids.drop k) k s'=kidsW (nodeW G gen f) n a n.kids 0 st∧WkInvK G s'))
 case atStart=>exact⟨0,st,by omega,rfl,oh ⟨⟨F,P,pv,kv,HL.out⟩,rfl,HI.out⟩⟩
 case round =>
  obtain⟨k,s',hkm,rfl,HQ⟩:=hrel;obtain⟨⟨F5,P5,pv5,kv5,h5⟩,hq5,hi5⟩:=HQ.out;have H5:=oh h5;have HQ5:=oh hq5;have HI5:=oh hi5;by_cases hlt:k<n.kids.length
  ·obtain⟨kid,hkid⟩:∃kid,kid=n.kids[k]:=⟨_,rfl⟩;obtain⟨ib,ioff,hia,hic⟩:=h5.is.elem hlt (Mods.refl _ _);have d0:=hic 0 (.int .i64 kid) (by rw[hkid];rfl);simp only[Nat.mul_one,Nat.add_zero] at d0;have HDR:Hid (n.kids.drop k=kid :: n.kids.drop (k+1)):=oh (by rw[hkid];exact List.drop_eq_getElem_cons hlt);have hkr:=HK2.out kid (by rw[hkid];exact List.getElem_mem hlt);have hkb : -9223372036854775808≤kid∧kid≤9223372036854775807:=by omega
   have hkok:IntOk kid:=(Lit.wf_int_iff .i64 _).2 hkb;have HKOK:=oh hkok;obtain⟨b,hb⟩:∃b,b=kidPlace n a k kid:=⟨_,rfl⟩;have HB:=oh hb;have p1:=H5.out.pl.cell (o:=1) (v:=.int .i64 (a.depth:Int)) rfl;have p2:=H5.out.pl.cell (o:=2) (v:=.string a.lo) rfl;have p3:=H5.out.pl.cell (o:=3) (v:=.string a.hi) rfl;have d2b:=λo=>cellE ((Mods.refl _ _).alloc o) (H5.out.nd.cell (o:=2) (v:=.slice ka n.keys.length kc) rfl)
   have i1:(0:Int)≤(k:Int):=by omega
   have i2:(k:Int)<(n.kids.length:Int):=by omega
   have hnw:wr.heap.size≠w.heap.size:=λe=>by have:=H5.out.nd.lt;omega
   have hnw1:wr.heap.size≠w.heap.size+1:=λe=>by have:=H5.out.pl.lt;omega
   subst hia;clear h5 hq5 hi5 hic hkid hkr hkok hb hkb;go_upto_if 29 with fail
   go_cut [] (λwx=>wx=wr.alloc (.cells #[.int .i64 kid,.int .i64 ((a.depth:Int)+1),.string b.lo,.string a.hi] 105))
   case first =>
    by_cases h0:k=0
    ·subst h0;have HLO:Hid (b.lo=a.lo):=oh (by rw[HB.out];rfl);go_wp2_with fail;go_meet;exact (by rw[HLO.out])
    ·obtain⟨j,rfl⟩:∃j,k=j+1:=⟨k-1,by omega⟩;have hjk:j<n.keys.length:=by have:=HKL.out;omega
     obtain⟨xb,xoff,hxa,hxc⟩:=H5.out.ks.elem hjk (Mods.refl _ _);obtain⟨x,hx⟩:∃x,x=n.keys[j]:=⟨_,rfl⟩;have e0:=hxc 0 (.string x) (by rw[hx];rfl);simp only[Nat.mul_one,Nat.add_zero] at e0;have e0b:=λo=>cellE ((Mods.refl _ _).alloc o) e0
     have HLO:Hid (b.lo=x):=oh (by rw[HB.out,hx];unfold kidPlace;simp[List.getD,hjk]);have j1:(0:Int)≤(j:Int):=by omega
     have j2:(j:Int)<(n.keys.length:Int):=by omega
     have j3:(0:Int)<((j+1:Nat):Int):=by omega
     have j4:((j+1:Nat):Int)-1=(j:Int):=by omega
     subst hxa;clear hxc hx e0;go_wp2_with fail;go_meet;exact (by rw[HLO.out])
   case rest =>
    subst hcut;go_upto_if 41 with fail
    go_cut [] (λwx=>Hid (InS F P ad w base c s gen kb mb G l pv kv n a ea ka (some ⟨ib,ioff,none⟩) ec kc ic s' F5 P5 pv5 kv5 wx∧Blk wx wr.heap.size #[.int .i64 b.id,.int .i64 (b.depth:Int),.string b.lo,.string b.hi] 105))
    case first =>
     have FIN:Hid (∀(hi:ByteArray),hi=b.hi→Hid (InS F P ad w base c s gen kb mb G l pv kv n a ea ka (some ⟨ib,ioff,none⟩) ec kc ic s' F5 P5 pv5 kv5 (wr.alloc (.cells #[.int .i64 kid,.int .i64 ((a.depth:Int)+1),.string b.lo,.string hi] 105))∧Blk (wr.alloc (.cells #[.int .i64 kid,.int .i64 ((a.depth:Int)+1),.string b.lo,.string hi] 105)) wr.heap.size #[.int .i64 b.id,.int .i64 (b.depth:Int),.string b.lo,.string b.hi] 105)):=oh (λhi e2=>oh (by
      subst e2;refine⟨H5.out.ext ((Mods.refl _ wr).alloc _),?_⟩;have hid:b.id=kid:=by rw[HB.out];rfl
      have hdp:(b.depth:Int)=(a.depth:Int)+1:=by rw[HB.out];show ((a.depth+1:Nat):Int)=_;omega
      rw[hid,hdp];exact Blk.new wr _ _))
     by_cases hlast:k<n.keys.length
     ·obtain⟨yb,yoff,hya,hyc⟩:=H5.out.ks.elem hlast (Mods.refl _ _);obtain⟨y,hy⟩:∃y,y=n.keys[k]:=⟨_,rfl⟩;have f0:=hyc 0 (.string y) (by rw[hy];rfl);simp only[Nat.mul_one,Nat.add_zero] at f0;have f0b:=λo=>cellE ((Mods.refl _ _).alloc o) f0
      have HHI:Hid (y=b.hi):=oh (by rw[HB.out,hy];unfold kidPlace;simp only[if_pos hlast];simp[List.getD,hlast]);have l2:(k:Int)<(n.keys.length:Int):=by omega
      subst hya;clear hyc hy f0;go_wp2_with fail;go_meet;exact FIN.out _ HHI.out
     ·have HHI:Hid (a.hi=b.hi):=oh (by rw[HB.out];unfold kidPlace;simp only[if_neg hlast]);have l2:¬ (k:Int)<(n.keys.length:Int):=by omega
      go_wp2_with fail;go_meet;exact FIN.out _ HHI.out
    case rest =>
     clear p1 p2 p3 d0 d2b;have p0:=hcut.out.1.pl.cell (o:=0) (v:=.int .i64 a.id) rfl;have p2:=hcut.out.1.pl.cell (o:=2) (v:=.string a.lo) rfl;have p3:=hcut.out.1.pl.cell (o:=3) (v:=.string a.hi) rfl;have t0:=hcut.out.2.cell (o:=0) (v:=.int .i64 b.id) rfl;have t1:=hcut.out.2.cell (o:=1) (v:=.int .i64 (b.depth:Int)) rfl;have t2:=hcut.out.2.cell (o:=2) (v:=.string b.lo) rfl;have t3:=hcut.out.2.cell (o:=3) (v:=.string b.hi) rfl;have HCR:=oh (corrupt_any hcut.out.1.st.env a.id);have HNC:=oh (HREC.out F5 P5 _ pv5 kv5 s' b hcut.out.1.st HI5.out (by rw[HB.out];have:=HDEP.out;show a.depth+1+f=17;omega) (by rw[HB.out];exact HKOK.out));obtain⟨q1,e1⟩:∃q,Op.bytesLess b.lo.toList a.lo.toList=q:=⟨_,rfl⟩;obtain⟨q2,e2⟩:∃q,(a.hi.toList == [])=q:=⟨_,rfl⟩;have e5:a.hi.toList.isEmpty=q2:=by rw[← e2];cases a.hi.toList <;> rfl
     obtain⟨r1,e3⟩:∃q,Op.bytesLess b.hi.toList a.hi.toList=q:=⟨_,rfl⟩;obtain⟨r2,e4⟩:∃q,(b.hi.toList == a.hi.toList)=q:=⟨_,rfl⟩;have HQB:Hid (kidBad a b=(q1 || (!q2 && (!r1 && !r2)))):=oh (by
      have f1:ltS b.lo a.lo=q1:=e1;have f3:ltS a.hi b.hi=(!r1 && !r2):=by
       rw[← e3,← e4];rcases bl_tri a.hi.toList b.hi.toList with h|h|h
       ·have h1:Op.bytesLess b.hi.toList a.hi.toList=false:=by
         cases hb2:Op.bytesLess b.hi.toList a.hi.toList with
         | false=>rfl
         | true=>have h3:=bl_trans _ _ _ h hb2;rw[bl_irrefl] at h3;cases h3
        have h2:(b.hi.toList == a.hi.toList)=false:=by
         rw[beq_eq_false_iff_ne];intro e;rw[e,bl_irrefl] at h;cases h
        rw[h1,h2];exact h
       ·unfold ltS;rw[h,bl_irrefl];simp
       ·have h1:Op.bytesLess a.hi.toList b.hi.toList=false:=by
         cases hb2:Op.bytesLess a.hi.toList b.hi.toList with
         | false=>rfl
         | true=>have h3:=bl_trans _ _ _ h hb2;rw[bl_irrefl] at h3;cases h3
        unfold ltS;rw[h,h1];rfl
      have f2:decide (a.hi≠e0) = !q2:=by
       cases q2 with
       | true =>
        have:a.hi=e0:=toList_inj (by rw[beq_iff_eq.1 e2];simp[ByteArray.toList_eq]);simp[this]
       | false =>
        have:a.hi≠e0:=λh=>by rw[h] at e2;simp[ByteArray.toList_eq] at e2
        simp[this]
      unfold kidBad;rw[f1,f2,f3])
     cases q1 with
     | true =>
      have HB2:Hid (kidsW (nodeW G gen f) n a n.kids 0 st=.inr (corrE a.id)):=oh (by
       rw[← HQ5.out,HDR.out,kidsW,← HB.out,if_pos (by rw[HQB.out];rfl)])
      go_wp2_with fail;refine (HCR.out).mono ?_;rintro y w6 ⟨fe,rfl,hE,hm⟩;have HE:=oh hE;have HM:=oh hm;clear hE hm;go_wp2_with fail;go_ret;have hw:=hcut.out.1.ext HM.out;exact WkD.bad hw.st hw.nx HE.out HB2.out
     | false =>
      cases q2 with
      | true =>
       have HGD:Hid (kidBad a b=false):=oh (by rw[HQB.out];rfl);go_wp2_with fail;refine (HNC.out).mono ?_;rintro y w6 hd;cases hk:nodeW G gen f b s' with
       | inl s1 =>
        rw[hk] at hd;obtain⟨P6,F6,pv6,kv6,st6,h6,n6,rfl,rfl⟩:=hd;have H6:=oh (hcut.out.1.nxt h6 n6);have HK:=oh hk;have HI6:=oh (nodeW_inv HG.out f b s' st6 HI5.out hk);have HST:Hid (kidsW (nodeW G gen f) n a (n.kids.drop (k+1)) (k+1) st6=kidsW (nodeW G gen f) n a n.kids 0 st):=oh (by
         rw[← HQ5.out,HDR.out];conv=>rhs;rw[kidsW,← HB.out,HGD.out]
         rw[if_neg (by simp),HK.out])
        clear h6 n6 hk;go_wp2_with fail;go_roundg (gk-1)
        case measure=>omega
        case rel=>exact⟨k+1,st6,by omega,by go_num,oh ⟨⟨F6,P6,pv6,kv6,H6.out⟩,HST.out,HI6.out⟩⟩
       | inr er =>
        obtain⟨el,ek⟩:=er;rw[hk] at hd;obtain⟨P6,F6,pv6,kv6,st6,h6,n6,fe,rfl,hE⟩:=hd;have H6:=oh (hcut.out.1.nxt h6 n6);have HE:=oh hE;have HB2:Hid (kidsW (nodeW G gen f) n a n.kids 0 st=.inr (el,ek)):=oh (by
         rw[← HQ5.out,HDR.out,kidsW,← HB.out,HGD.out,if_neg (by simp),hk])
        clear h6 n6 hk hE;go_wp2_with fail;go_ret;exact WkD.bad H6.out.st H6.out.nx HE.out HB2.out
      | false =>
       cases r1 with
       | true =>
        have HGD:Hid (kidBad a b=false):=oh (by rw[HQB.out];rfl);go_wp2_with fail;refine (HNC.out).mono ?_;rintro y w6 hd;cases hk:nodeW G gen f b s' with
        | inl s1 =>
         rw[hk] at hd;obtain⟨P6,F6,pv6,kv6,st6,h6,n6,rfl,rfl⟩:=hd;have H6:=oh (hcut.out.1.nxt h6 n6);have HK:=oh hk;have HI6:=oh (nodeW_inv HG.out f b s' st6 HI5.out hk);have HST:Hid (kidsW (nodeW G gen f) n a (n.kids.drop (k+1)) (k+1) st6=kidsW (nodeW G gen f) n a n.kids 0 st):=oh (by
          rw[← HQ5.out,HDR.out];conv=>rhs;rw[kidsW,← HB.out,HGD.out]
          rw[if_neg (by simp),HK.out])
         clear h6 n6 hk;go_wp2_with fail;go_roundg (gk-1)
         case measure=>omega
         case rel=>exact⟨k+1,st6,by omega,by go_num,oh ⟨⟨F6,P6,pv6,kv6,H6.out⟩,HST.out,HI6.out⟩⟩
        | inr er =>
         obtain⟨el,ek⟩:=er;rw[hk] at hd;obtain⟨P6,F6,pv6,kv6,st6,h6,n6,fe,rfl,hE⟩:=hd;have H6:=oh (hcut.out.1.nxt h6 n6);have HE:=oh hE;have HB2:Hid (kidsW (nodeW G gen f) n a n.kids 0 st=.inr (el,ek)):=oh (by
          rw[← HQ5.out,HDR.out,kidsW,← HB.out,HGD.out,if_neg (by simp),hk])
         clear h6 n6 hk hE;go_wp2_with fail;go_ret;exact WkD.bad H6.out.st H6.out.nx HE.out HB2.out
       | false =>
        cases r2 with
        | true =>
         have HGD:Hid (kidBad a b=false):=oh (by rw[HQB.out];rfl);go_wp2_with fail;refine (HNC.out).mono ?_;rintro y w6 hd;cases hk:nodeW G gen f b s' with
         | inl s1 =>
          rw[hk] at hd;obtain⟨P6,F6,pv6,kv6,st6,h6,n6,rfl,rfl⟩:=hd;have H6:=oh (hcut.out.1.nxt h6 n6);have HK:=oh hk;have HI6:=oh (nodeW_inv HG.out f b s' st6 HI5.out hk);have HST:Hid (kidsW (nodeW G gen f) n a (n.kids.drop (k+1)) (k+1) st6=kidsW (nodeW G gen f) n a n.kids 0 st):=oh (by
           rw[← HQ5.out,HDR.out];conv=>rhs;rw[kidsW,← HB.out,HGD.out]
           rw[if_neg (by simp),HK.out])
          clear h6 n6 hk;go_wp2_with fail;go_roundg (gk-1)
          case measure=>omega
          case rel=>exact⟨k+1,st6,by omega,by go_num,oh ⟨⟨F6,P6,pv6,kv6,H6.out⟩,HST.out,HI6.out⟩⟩
         | inr er =>
          obtain⟨el,ek⟩:=er;rw[hk] at hd;obtain⟨P6,F6,pv6,kv6,st6,h6,n6,fe,rfl,hE⟩:=hd;have H6:=oh (hcut.out.1.nxt h6 n6);have HE:=oh hE;have HB2:Hid (kidsW (nodeW G gen f) n a n.kids 0 st=.inr (el,ek)):=oh (by
           rw[← HQ5.out,HDR.out,kidsW,← HB.out,HGD.out,if_neg (by simp),hk])
          clear h6 n6 hk hE;go_wp2_with fail;go_ret;exact WkD.bad H6.out.st H6.out.nx HE.out HB2.out
        | false =>
         have HB2:Hid (kidsW (nodeW G gen f) n a n.kids 0 st=.inr (corrE a.id)):=oh (by
          rw[← HQ5.out,HDR.out,kidsW,← HB.out,if_pos (by rw[HQB.out];rfl)])
         go_wp2_with fail;refine (HCR.out).mono ?_;rintro y w6 ⟨fe,rfl,hE,hm⟩;have HE:=oh hE;have HM:=oh hm;clear hE hm;go_wp2_with fail;go_ret;have hw:=hcut.out.1.ext HM.out;exact WkD.bad hw.st hw.nx HE.out HB2.out
  ·clear h5 hq5 hi5;go_wp2_with fail;go_ret;have hz:=HQ5.out;rw[List.drop_eq_nil_of_le (by omega),kidsW] at hz;exact WkD.good H5.out.st H5.out.nx hz.symm
end
section
variable {F P P' F' P1 F1:Nat→Prop}{ad:Nat→Addr}{w w' wr w0:World}{base c s gen kb mb:Nat}{G:GA}{l:List Nat}{pv kv pv' kv':Value}{st st':WkS}
theorem node_zero(ad:Nat→Addr)(base c s gen kb mb:Nat)(G:GA)(l:List Nat):NodeC ad base c s gen kb mb G l 0:=by
 intro F P w pv kv st a h hi hd hok;have m0:Ext w (w.alloc (.cells #[.int .i64 a.id,.int .i64 (a.depth:Int),.string a.lo,.string a.hi] 105)):=(Mods.refl _ w).alloc _;have H0:=oh (h.ext m0);have HC:=oh (corrupt_any H0.out.1.env a.id);have hdb:(16:Int)<(a.depth:Int):=by omega
 clear h hi hd m0
 go_enter Tryz.func48, Tryz.ntmps48
 go_wp2_with fail;refine (HC.out).mono ?_;rintro y w6 ⟨fe,rfl,hE,hm⟩;have HE:=oh hE;have HM:=oh hm;clear hE hm;go_wp2_with fail;go_ret;have hw:=H0.out.1.ext HM.out;exact WkD.bad hw.1 (H0.out.2.trans hw.2) HE.out rfl
theorem node_succ{ad:Nat→Addr}{base c s gen kb mb:Nat}{G:GA}{l:List Nat}(hb:G.blocks≤256)(ht:G.total)(hG:Short G){f:Nat}(hrec:NodeC ad base c s gen kb mb G l f):NodeC ad base c s gen kb mb G l (f+1):=by
 intro F P w pv kv st a h hi hd hok;have m0:Ext w (w.alloc (.cells #[.int .i64 a.id,.int .i64 (a.depth:Int),.string a.lo,.string a.hi] 105)):=(Mods.refl _ w).alloc _;have H0:=oh (h.ext m0);have HI:=oh hi;have HR:=oh hrec;have HGS:=oh hG;have HT:=oh ht;have HD:=oh hd;have HBL:=oh hb;have HP0:=oh (Blk.new w #[.int .i64 a.id,.int .i64 (a.depth:Int),.string a.lo,.string a.hi] 105);have HPN:Hid (¬ wkQ P kb mb pv kv w.heap.size):=oh (λhp=>by have:=h.bd _ hp;omega);have hdb:¬ (16:Int)<(a.depth:Int):=by omega
 have HSE:=oh (see_any H0.out.1.env H0.out.1.sub H0.out.1.bl H0.out.1.wk a.id hok (by have:=hi.1.few;omega));clear h hi hd m0 hrec hG ht hb
 go_enter Tryz.func48, Tryz.ntmps48
 go_wp2_with fail;refine (HSE.out).mono ?_;rintro x w1 hs;unfold SeeD at hs;cases hsw:seeW st a.id with
 | inr er =>
  obtain⟨el,ek⟩:=er;rw[hsw] at hs;obtain⟨fe,rfl,hE,hm⟩:=hs;have HE:=oh hE;have HX:=oh (H0.out.1.ext hm);have HZ:Hid (nodeW G gen (f+1) a st=.inr (el,ek)):=oh (by rw[nodeW,hsw]);clear hE hm hsw;go_wp2_with fail;go_ret;exact WkD.bad HX.out.1 (H0.out.2.trans HX.out.2) HE.out HZ.out
 | inl st1 =>
  rw[hsw] at hs;obtain⟨pv1,rfl,hw1,hm1,hat1⟩:=hs;obtain⟨h1,n1⟩:=H0.out.1.saw hw1 hm1 hat1;have H1:=oh h1;have N1:=oh (H0.out.2.trans n1);have HPB1:=oh (n1.blk HP0.out HPN.out);have HPN1:=oh (n1.not HP0.out.lt HPN.out);have HSW:=oh hsw;have p0:=HPB1.out.cell (o:=0) (v:=.int .i64 a.id) rfl;have HYC:=oh (young_any h1.env h1.sub h1.pg h1.wk.blk rfl rfl (h1.wk.nP kb (.inl rfl)).2 a.id (HT.out.knows a.id));clear hw1 hm1 hat1 h1 n1 hsw;go_wp2_with fail;refine (HYC.out).mono ?_;rintro x w7 ⟨P7,F7,hG7,hN7,hres⟩;obtain⟨h7,n7⟩:=H1.out.pag hN7 hG7;have H7:=oh h7;have N7:=oh (N1.out.trans n7);have HPB7:=oh (n7.blk HPB1.out HPN1.out);have HPN7:=oh (n7.not HPB1.out.lt HPN1.out);clear hG7 hN7 h7 n7 p0;cases hyw:youngW G gen a.id with
  | inr er =>
   obtain⟨el,ek⟩:=er;rw[hyw] at hres;obtain⟨x0,x1,x2,a7,n8,c7,fe,rfl,hE⟩:=hres;have HE:=oh hE;have HZ:Hid (nodeW G gen (f+1) a st=.inr (el,ek)):=oh (by
    rw[nodeW,HSW.out];simp only[hyw])
   have m8:Ext w7 (w7.alloc (.cells #[.int .i64 x0,.int .i64 x1,.int .u64 x2,.slice a7 n8 c7] 167)):=(Mods.refl _ w7).alloc _;have H8:=oh (H7.out.ext m8);have HM8:=oh m8;clear hE hyw m8;go_wp2_with fail;go_ret;exact WkD.bad H8.out.1 (N7.out.trans H8.out.2) (HE.out.mods HM8.out.ext) HZ.out
  | inl p =>
   rw[hyw] at hres;obtain⟨a7,c7,rfl,hs7,hl7⟩:=hres;have HYW:=oh hyw;have HL7:=oh hl7;have HK1:=oh (seeK HI.out HSW.out hyw);have m8:Ext w7 (w7.alloc (.cells #[.int .i64 p.kind,.int .i64 p.id,.int .u64 (p.gen:Int),.slice a7 p.body.length c7] 167)):=(Mods.refl _ w7).alloc _;have H8:=oh (H7.out.ext m8);have N8:=oh (N7.out.trans H8.out.2);have hX8:=Blk.new w7 #[.int .i64 p.kind,.int .i64 p.id,.int .u64 (p.gen:Int),.slice a7 p.body.length c7] 167;have x0:=hX8.cell (o:=0) (v:=.int .i64 p.kind) rfl;have x1:=hX8.cell (o:=1) (v:=.int .i64 p.id) rfl;have x2:=hX8.cell (o:=2) (v:=.int .u64 (p.gen:Int)) rfl;have x3:=hX8.cell (o:=3) (v:=.slice a7 p.body.length c7) rfl;have HPB8:=oh (HPB7.out.ext m8);have HPN8:=HPN7;have HDC:=oh (decode_any H8.out.1.env p (.slice a7 p.body.length c7) (hs7.ext m8) hl7);unfold pageV at HDC;clear hs7 hyw m8 hl7 hX8;go_wp2_with fail;refine (HDC.out).mono ?_;rintro x w9 ⟨hnr,hm9⟩;have H9:=oh (H8.out.1.ext hm9);have N9:=oh (N8.out.trans H9.out.2);have HPB9:=oh (HPB8.out.ext hm9);clear hm9 x0 x1 x2 x3;cases hdw:decodeA p with
   | inr er =>
    obtain⟨el,ek⟩:=er;rw[hdw] at hnr;obtain⟨fe,rfl,hE⟩:=hnr;have HE:=oh hE;have HZ:Hid (nodeW G gen (f+1) a st=.inr (el,ek)):=oh (by
     rw[nodeW,HSW.out];simp only[HYW.out,hdw])
    have m10:Ext w9 (w9.alloc (.cells #[.bool false,.slice none 0 0,.slice none 0 0,.slice none 0 0] 118)):=(Mods.refl _ w9).alloc _;have H10:=oh (H9.out.1.ext m10);have HM10:=oh m10;clear hE hdw m10;go_wp2_with fail;go_ret;exact WkD.bad H10.out.1 (N9.out.trans H10.out.2) (HE.out.mods HM10.out.ext) HZ.out
   | inl n =>
    rw[hdw] at hnr;obtain⟨ve,vk,vi,rfl,hse,hsk,hsi⟩:=hnr;obtain⟨ea,ec,rfl,_,_,_,_⟩:=_root_.id hse;obtain⟨ka,kc,rfl,_,_,_,_⟩:=_root_.id hsk;obtain⟨ia,ic,rfl,_,_,_,_⟩:=_root_.id hsi;have hrt:=(decodeA_right hdw).1;have HRT:=oh hrt;have HFE:=oh (decode_few hdw HL7.out);have m10:Ext w9 (w9.alloc (.cells #[.bool n.leaf,.slice ea n.entries.length ec,.slice ka n.keys.length kc,.slice ia n.kids.length ic] 118)):=(Mods.refl _ w9).alloc _;have H10:=oh (H9.out.1.ext m10);have N10:=oh (N9.out.trans H10.out.2);have HPB10:=HPB9.out.ext m10;have p0:=HPB10.cell (o:=0) (v:=.int .i64 a.id) rfl;have p1:=HPB10.cell (o:=1) (v:=.int .i64 (a.depth:Int)) rfl;have p2:=HPB10.cell (o:=2) (v:=.string a.lo) rfl;have p3:=HPB10.cell (o:=3) (v:=.string a.hi) rfl;have HDW:=oh hdw;cases hlf:n.leaf with
    | true =>
     have hck:∀x∈n.entries, -9223372036854775808≤x.chain∧x.chain≤9223372036854775807:=λx hx=>by
      have hr:=HRT.out;unfold rightN at hr;rw[if_pos hlf] at hr;simp only[Bool.and_eq_true,List.all_eq_true] at hr;have hre:=hr.1.1.1.1 x hx;unfold rightE at hre;simp only[Bool.and_eq_true] at hre;have h2:=hre.2;split at h2
      ·omega
      ·simp only[Bool.and_eq_true,kidB,decide_eq_true_eq] at h2;omega
     have HLC:=oh (leaf_ok H10.out.1 HK1.out.1 HBL.out HT.out n HFE.out hck a (by have:=HK1.out.1.few;have:=HK1.out.2;have:=HBL.out;have:=HFE.out;omega) ea ka ia ec kc ic (hse.ext m10));have HZ:Hid (nodeW G gen (f+1) a st=leafW G gen n a st1):=oh (by
      rw[nodeW,HSW.out];simp only[HYW.out,HDW.out,hlf,if_true])
     have d0:=Blk.new w9 #[.bool true,.slice ea n.entries.length ec,.slice ka n.keys.length kc,.slice ia n.kids.length ic] 118;have HD0:=oh d0;rw[hlf] at HLC H10 N10 p0 p1 p2 p3;have d0:=HD0.out.cell (o:=0) (v:=.bool true) rfl;have d1:=HD0.out.cell (o:=1) (v:=.slice ea n.entries.length ec) rfl;have d2:=HD0.out.cell (o:=2) (v:=.slice ka n.keys.length kc) rfl;have d3:=HD0.out.cell (o:=3) (v:=.slice ia n.kids.length ic) rfl;clear hse hsk hsi hrt hck hdw hlf m10 HPB10;go_wp2_with fail;refine (HLC.out).mono ?_;rintro y w11 hd;obtain⟨v,rfl⟩:=hd.form;have HFD:=oh hd;clear hd;go_wp2_with fail;go_ret;rw[HZ.out];exact HFD.out.pre N10.out
    | false =>
     have HLC:=oh (inner_ok HR.out HGS.out H10.out.1 (WkInvK.ofSee HK1.out) n HRT.out hlf a (by have:=HD.out;omega) ea ka ia ec kc ic (hsk.ext m10) (hsi.ext m10));have HZ:Hid (nodeW G gen (f+1) a st=kidsW (nodeW G gen f) n a n.kids 0 st1):=oh (by
      rw[nodeW,HSW.out];simp only[HYW.out,HDW.out,hlf,Bool.false_eq_true,if_false])
     have d0:=Blk.new w9 #[.bool false,.slice ea n.entries.length ec,.slice ka n.keys.length kc,.slice ia n.kids.length ic] 118;have HD0:=oh d0;rw[hlf] at HLC H10 N10 p0 p1 p2 p3;have d0:=HD0.out.cell (o:=0) (v:=.bool false) rfl;have d1:=HD0.out.cell (o:=1) (v:=.slice ea n.entries.length ec) rfl;have d2:=HD0.out.cell (o:=2) (v:=.slice ka n.keys.length kc) rfl;have d3:=HD0.out.cell (o:=3) (v:=.slice ia n.kids.length ic) rfl;clear hse hsk hsi hrt hdw hlf m10 HPB10;go_wp2_with fail;refine (HLC.out).mono ?_;rintro y w11 hd;obtain⟨v,rfl⟩:=hd.form;have HFD:=oh hd;clear hd;go_wp2_with fail;go_ret;rw[HZ.out];exact HFD.out.pre N10.out
theorem node_ok{ad:Nat→Addr}{base c s gen kb mb:Nat}{G:GA}{l:List Nat}(hb:G.blocks≤256)(ht:G.total)(hG:Short G):∀f,NodeC ad base c s gen kb mb G l f
 | 0=>node_zero ad base c s gen kb mb G l
 | f+1=>node_succ hb ht hG (node_ok hb ht hG f)
end
def WalkRes(F:Nat→Prop)(ad:Nat→Addr)(w':World)(r:WkS ⊕ Err)(e:Ending):Prop :=
 match r with
 | .inl st=>∃pv kv,e=.returned (.tuple #[.agg #[pv,kv,.int .i64 (st.depth:Int)],.nilIface])∧Sl F w' 1 encI pv st.pages∧Sl F w' 1 encS kv st.keys
 | .inr (l,k)=>∃f,e=.returned (.tuple #[.agg #[.slice none 0 0,.slice none 0 0,.int .i64 0],faultV f])∧ErrC F ad w' (faultV f) l k
section
variable {F P P' F' P1 F1:Nat→Prop}{ad:Nat→Addr}{w w' wr w0:World}{base c s gen kb mb:Nat}{G:GA}{l:List Nat}{pv kv pv' kv':Value}{st st':WkS}
theorem wk_own{k:Nat}(h:wkQ P kb mb (.slice none 0 0) (.slice none 0 0) k):P k∨k=kb∨k=mb:=by
 rcases h with hp|e|e|e|e
 ·exact .inl hp
 ·exact .inr (.inl e)
 ·exact .inr (.inr e)
 ·simp[Value.ownBlock] at e
 ·simp[Value.ownBlock] at e
theorem walk_end{Q P6 F6:Nat→Prop}{w2 w6 w7:World}{R:Nat}(hP:∀k,P k→F k)(hQ:∀k,Q k→w.heap.size≤k)(n2:Nxt P P F (λk=>F k∨Q k) ad w w2)
  (n6:Nxt (wkQ P kb mb (.slice none 0 0) (.slice none 0 0)) (wkQ P6 kb mb pv kv) (λk=>F k∨Q k) F6 ad w2 w6) (h6:WkI F6 P6 ad w6 base c s gen kb mb G l pv kv st) (m7:Mods (λk=>k=R) w6 w7) (hRQ:Q R) (hR:¬ P6 R) (hkb:Q kb) (hmb:Q mb) :
  PgR (λk=>F k∨P6 k) w7 P6 c s G l∧Nxt P P6 F (λk=>F k∨P6 k) ad w w7:=by
 have hRF:F6 R:=n6.grow R (.inr hRQ);have hsub:∀k,F k∨P6 k→F6 k:=λk hk=>hk.elim (λh=>n6.grow k (.inl h)) (h6.sub k)
 have hnew:∀i,i<w.heap.size→wkQ P kb mb (.slice none 0 0) (.slice none 0 0) i→P i:=λi hi hq=>by
  rcases wk_own hq with h|rfl|rfl
  ·exact h
  ·have:=hQ _ hkb;omega
  ·have:=hQ _ hmb;omega
 have hold:∀k,k<w.heap.size→P6 k→P k:=λk hk hp=>hnew k hk (n6.stp.old k (Nat.lt_of_lt_of_le hk n2.size) (.inl hp))
 refine⟨(h6.pg.res m7 hR hRF).anti hsub,⟨⟨(n2.stp.mods.trans' n6.stp.mods hnew).trans' m7 (λi hi e=>by subst e;have:=hQ _ hRQ;omega),hold,h6.pg.bd.mods m7⟩,λk hk=>.inr hk,λk hk=>.inl hk,λk hk hf=>hf.elim id (λhp=>hP k (hold k hk hp)),(h6.env.mods (m7.mono (λk e=>e ▸ hRF))).anti hsub⟩⟩
theorem Tryz.repSizeW:(Tryz.prog.info? 52).map (·.size)=some 3:=by kernel_rfl
theorem lookWalk_any(hL:Env F ad w)(hP:∀k,P k→F k)(h:PgR F w P c s G l)(gen:Nat)(root:Int)(hroot:IntOk root)(hb:G.blocks≤256)(ht:G.total) :
  Calls Tryz.prog 17 #[pgV c s gen,.int .i64 root] w (PgDone F P ad w c s G l (λF' w' e=>WalkRes F' ad w' (walkW G gen root) e)):=by
 have m0:Ext w ((w.alloc (.cells #[.pointer (some ⟨c,0,none⟩),.pointer (some ⟨s,0,none⟩),.int .u64 (gen:Int)] 31)).alloc (.cells #[.slice none 0 0,.slice none 0 0,.int .i64 0] 52)):=((Mods.refl _ w).alloc _).alloc _;have HB0:=oh ((Blk.new w #[.pointer (some ⟨c,0,none⟩),.pointer (some ⟨s,0,none⟩),.int .u64 (gen:Int)] 31).alloc (.cells #[.slice none 0 0,.slice none 0 0,.int .i64 0] 52));have HR0:Hid (Blk ((w.alloc (.cells #[.pointer (some ⟨c,0,none⟩),.pointer (some ⟨s,0,none⟩),.int .u64 (gen:Int)] 31)).alloc (.cells #[.slice none 0 0,.slice none 0 0,.int .i64 0] 52)) (w.heap.size+1) #[.slice none 0 0,.slice none 0 0,.int .i64 0] 52):=oh (heap_at (by simp));have HM0:=oh m0;have HL:=oh hL;have HP:=oh hP;have HG:=oh h;have HT:=oh ht;have HBL:=oh hb;have HOK:=oh hroot;have hmm:=@run_makeMap Tryz.prog;have HSH:Hid (Short G):=oh (λid p hp=>(h.got hp).2.2);clear hL hP h m0 ht hb hroot;have HRY:=λop w'=>ready_ok (c:=c) (s:=s) (w:=w') op gen
 unfold pgV at HRY ⊢
 go_enter Tryz.func17, Tryz.ntmps17
 go_wp2_with fail;refine (HRY _ _).mono ?_;rintro e w1 ⟨rfl,hm1⟩;have HM1:=oh (HM0.out.trans hm1);have hB1:=HB0.out.ext hm1;have b0:=hB1.cell (o:=0) (v:=.pointer (some ⟨c,0,none⟩)) rfl;have b1:=hB1.cell (o:=1) (v:=.pointer (some ⟨s,0,none⟩)) rfl;have b2:=hB1.cell (o:=2) (v:=.int .u64 (gen:Int)) rfl;have hR1:=HR0.out.ext hm1;have HR1:=oh hR1;have r0:=hR1.cell (o:=0) (v:=.slice none 0 0) rfl;have r1:=hR1.cell (o:=1) (v:=.slice none 0 0) rfl;have r2:=hR1.cell (o:=2) (v:=.int .i64 0) rfl;have rf:=hR1.frozen;clear hm1 hB1 HRY hR1;by_cases hr:root=0
 ·have hrb:(root == 0)=true:=beq_iff_eq.2 hr;have HV:Hid (walkW G gen root=.inl wk0):=oh (by unfold walkW;rw[if_pos hr]);have HRB:=oh (HR1.out.set3 (.slice none 0 0) (.slice none 0 0) (.int .i64 0));have HMX:=oh (Mods.set3 HM1.out (R:=w.heap.size+1) (.inl (by omega)) (.slice none 0 0) (.slice none 0 0) (.int .i64 0));clear hr;go_wp2_with fail;refine bodyPost_ret (results_row_tmp rfl _ _ (w.heap.size+1) 52 #[.slice none 0 0,.slice none 0 0,.int .i64 0] _ rfl HRB.out Tryz.underlying52 rfl Tryz.repSizeW) rfl ?_;refine⟨P,F,HG.out.at HMX.out,Nxt.ext HL.out HP.out HMX.out,?_⟩;rw[HV.out];exact⟨_,_,rfl,Sl.nil _ _ _ _,Sl.nil _ _ _ _⟩
 ·have hrb:(root == 0)=false:=beq_eq_false_iff_ne.2 hr;have HV:Hid (walkW G gen root=match nodeW G gen 16 ⟨root,1,e0,e0⟩ wk0 with | .inr (l,k)=>.inr (-1 :: l,k) | .inl s=>.inl s):=oh (by unfold walkW;rw[if_neg hr];rfl);obtain⟨Q,hQ⟩:∃Q:Nat→Prop,Q=λk=>k=w.heap.size+1∨k=w1.heap.size∨k=w1.heap.size+1:=⟨_,rfl⟩
  have hs1:w.heap.size+2≤w1.heap.size:=by have:=HR1.out.lt;omega
  have m2:Ext w1 ((w1.alloc (.map #[] 0)).alloc (.cells #[.pointer (some ⟨c,0,none⟩),.pointer (some ⟨s,0,none⟩),.int .u64 (gen:Int),.map (some w1.heap.size),.slice none 0 0,.slice none 0 0,.int .i64 0,.string ⟨#[]⟩] 102)):=((Mods.refl _ w1).alloc _).alloc _;have HN2:Hid (Nxt P P F (λk=>F k∨Q k) ad w ((w1.alloc (.map #[] 0)).alloc (.cells #[.pointer (some ⟨c,0,none⟩),.pointer (some ⟨s,0,none⟩),.int .u64 (gen:Int),.map (some w1.heap.size),.slice none 0 0,.slice none 0 0,.int .i64 0,.string ⟨#[]⟩] 102))):=oh (Nxt.new HL.out HP.out (Q:=Q) (HM1.out.trans m2) (λk hk=>by subst hQ;rcases hk with e|e|e <;> omega) (λk hk=>by subst hQ;rcases hk with e|e|e <;> (simp;omega)));have HG2:=oh (HG.out.plusNew HP.out (Q:=Q) (HM1.out.trans m2) (λk hk=>by subst hQ;rcases hk with e|e|e <;> omega));have hPb:∀k,P k→k<w.heap.size:=λk hk=>HG.out.bd k hk
  have HW2:Hid (WkI (λk=>F k∨Q k) P ad ((w1.alloc (.map #[] 0)).alloc (.cells #[.pointer (some ⟨c,0,none⟩),.pointer (some ⟨s,0,none⟩),.int .u64 (gen:Int),.map (some w1.heap.size),.slice none 0 0,.slice none 0 0,.int .i64 0,.string ⟨#[]⟩] 102)) (w1.heap.size+2) c s gen (w1.heap.size+1) w1.heap.size G l (.slice none 0 0) (.slice none 0 0) wk0):=oh
   ⟨HN2.out.env,HN2.out.sub,HG2.out,⟨heap_at (by simp),(SeenM.made w1).mods ((Mods.refl (λ_=>False) _).alloc _) (λf=>f),Own.nil _ _ _ _ _ _,Own.nil _ _ _ _ _ _,λk hk=>by
    have hk':k=w1.heap.size+1∨k=w1.heap.size:=by
     rcases hk with e|e|e|e
     ·exact .inl e
     ·exact .inr e
     ·simp[Value.ownBlock] at e
     ·simp[Value.ownBlock] at e
    have hq:Q k:=by subst hQ;exact hk'.elim (λe=>.inr (.inr e)) (λe=>.inr (.inl e))
    refine⟨.inr hq,λhp=>by have:=hPb k hp;omega⟩,by simp[wk0]⟩,by simp⟩
  have HNC:Hid (Calls Tryz.prog 48 #[.pointer (some ⟨w1.heap.size+1,0,none⟩),.agg #[.int .i64 root,.int .i64 1,.string ⟨#[]⟩,.string ⟨#[]⟩]] ((w1.alloc (.map #[] 0)).alloc (.cells #[.pointer (some ⟨c,0,none⟩),.pointer (some ⟨s,0,none⟩),.int .u64 (gen:Int),.map (some w1.heap.size),.slice none 0 0,.slice none 0 0,.int .i64 0,.string ⟨#[]⟩] 102)) (WkD (λk=>F k∨Q k) P ad ((w1.alloc (.map #[] 0)).alloc (.cells #[.pointer (some ⟨c,0,none⟩),.pointer (some ⟨s,0,none⟩),.int .u64 (gen:Int),.map (some w1.heap.size),.slice none 0 0,.slice none 0 0,.int .i64 0,.string ⟨#[]⟩] 102)) (w1.heap.size+2) c s gen (w1.heap.size+1) w1.heap.size G l (.slice none 0 0) (.slice none 0 0) (nodeW G gen 16 ⟨root,1,e0,e0⟩ wk0))):=oh
   (node_ok HBL.out HT.out HSH.out 16 _ _ _ _ _ _ ⟨root,1,e0,e0⟩ HW2.out ⟨⟨List.nodup_nil,λi hi=>by simp[wk0] at hi⟩,by simp[wk0]⟩ rfl HOK.out)
  have HQR:Hid (Q (w.heap.size+1)):=oh (by subst hQ;exact .inl rfl);have HRP:Hid (¬ wkQ P (w1.heap.size+1) w1.heap.size (.slice none 0 0) (.slice none 0 0) (w.heap.size+1)):=oh (by
   rintro (hp|e|e|e|e)
   ·have:=hPb _ hp;omega
   ·omega
   ·omega
   ·simp[Value.ownBlock] at e
   ·simp[Value.ownBlock] at e)
  have HS1:=oh hs1;have HPB:=oh hPb;have HQ:=oh hQ;have HR2:=oh (HR1.out.ext m2);clear hr hQ hs1 m2 hPb r0 r1 r2 rf;go_wp2_with fail;refine (HNC.out).mono ?_;rintro e w6 hd;cases hnw:nodeW G gen 16 ⟨root,1,e0,e0⟩ wk0 with
  | inr er =>
   obtain⟨el,ek⟩:=er;rw[hnw] at hd HV;obtain⟨P6,F6,pv6,kv6,st6,h6,n6,f6,rfl,hE⟩:=hd;have HWR:=oh (λop=>wrap_any h6.env op _ _ _ hE);have H6:=oh h6;have N6:=oh n6;have HR6:=oh (n6.blk HR2.out HRP.out);have HRP6:=oh (n6.not HR2.out.lt HRP.out);clear h6 n6 hE hnw;go_wp2_with fail;refine (HWR.out _).mono ?_;rintro e w7 ⟨f7,rfl,hE7,hm7⟩;have hR7:=HR6.out.ext hm7;have r0:=hR7.cell (o:=0) (v:=.slice none 0 0) rfl;have r1:=hR7.cell (o:=1) (v:=.slice none 0 0) rfl;have r2:=hR7.cell (o:=2) (v:=.int .i64 0) rfl;have rf:=hR7.frozen;have HE7:=oh hE7;have HM7:=oh hm7;have HRB:=oh (hR7.set3 (.slice none 0 0) (.slice none 0 0) (.int .i64 0));have HMR:=oh (Mods.set3 (F:=λk=>k=w.heap.size+1) (Mods.refl _ w7) (R:=w.heap.size+1) (.inr rfl) (.slice none 0 0) (.slice none 0 0) (.int .i64 0));clear hE7 hm7 hR7;go_wp2_with fail;refine bodyPost_ret (results_row_tmp rfl _ _ (w.heap.size+1) 52 #[.slice none 0 0,.slice none 0 0,.int .i64 0] _ rfl HRB.out Tryz.underlying52 rfl Tryz.repSizeW) rfl ?_;have hQR:=HQR.out;obtain⟨e1,e2⟩:=walk_end HP.out (λk hk=>by have:=HS1.out;have hh:=HQ.out;subst hh;rcases hk with e|e|e <;> omega) HN2.out N6.out H6.out (HM7.out.ext.trans HMR.out) hQR (λhp=>HRP6.out (.inl hp)) (by have hh:=HQ.out;subst hh;exact .inr (.inr rfl)) (by have hh:=HQ.out;subst hh;exact .inr (.inl rfl));refine⟨P6,_,e1,e2,?_⟩;rw[HV.out];have hRF:F6 (w.heap.size+1):=N6.out.grow _ (.inr hQR);exact⟨f7,rfl,(HE7.out.mods (HMR.out.mono (λk e=>e ▸ hRF))).step (Mods.refl _ _) (λk _ hn hk=>hn (hk.elim (λh=>N6.out.grow k (.inl h)) (H6.out.sub k)))⟩
  | inl s1 =>
   rw[hnw] at hd HV;obtain⟨P6,F6,pv6,kv6,st6,h6,n6,rfl,rfl⟩:=hd;have H6:=oh h6;have N6:=oh n6;have hR6:=n6.blk HR2.out HRP.out;have HRP6:=oh (n6.not HR2.out.lt HRP.out);obtain⟨pa,pc,rfl,_,_⟩:=_root_.id h6.wk.rp.form;obtain⟨ka,kc,rfl,_,_⟩:=_root_.id h6.wk.rk.form;have k4:=h6.wk.blk.cell (o:=4) (v:=.slice pa st6.pages.length pc) rfl;have k5:=h6.wk.blk.cell (o:=5) (v:=.slice ka st6.keys.length kc) rfl;have k6:=h6.wk.blk.cell (o:=6) (v:=.int .i64 (st6.depth:Int)) rfl;have r0:=hR6.cell (o:=0) (v:=.slice none 0 0) rfl;have r1:=hR6.cell (o:=1) (v:=.slice none 0 0) rfl;have r2:=hR6.cell (o:=2) (v:=.int .i64 0) rfl;have rf:=hR6.frozen;have HRB:=oh (hR6.set3 (.slice pa st6.pages.length pc) (.slice ka st6.keys.length kc) (.int .i64 (st6.depth:Int)));have HMR:=oh (Mods.set3 (F:=λk=>k=w.heap.size+1) (Mods.refl _ w6) (R:=w.heap.size+1) (.inr rfl) (.slice pa st6.pages.length pc) (.slice ka st6.keys.length kc) (.int .i64 (st6.depth:Int)));have HR6:=oh hR6;clear h6 n6 hnw hR6;go_wp2_with fail;refine bodyPost_ret (results_row_tmp rfl _ _ (w.heap.size+1) 52 #[.slice pa st6.pages.length pc,.slice ka st6.keys.length kc,.int .i64 (st6.depth:Int)] _ rfl HRB.out Tryz.underlying52 rfl Tryz.repSizeW) rfl ?_;have hQR:=HQR.out;obtain⟨e1,e2⟩:=walk_end HP.out (λk hk=>by have:=HS1.out;have hh:=HQ.out;subst hh;rcases hk with e|e|e <;> omega) HN2.out N6.out H6.out HMR.out hQR (λhp=>HRP6.out (.inl hp)) (by have hh:=HQ.out;subst hh;exact .inr (.inr rfl)) (by have hh:=HQ.out;subst hh;exact .inr (.inl rfl));refine⟨P6,_,e1,e2,?_⟩;rw[HV.out];have hnp:=λg (hg:(Value.slice pa st6.pages.length pc).ownBlock=some g)=>(H6.out.wk.nP g (.inr (.inr (.inl hg)))).2
   have hnk:=λg (hg:(Value.slice ka st6.keys.length kc).ownBlock=some g)=>(H6.out.wk.nP g (.inr (.inr (.inr hg)))).2
   have hlF:=λg (hf:F g)=>HL.out.lt g hf
   have hs1:=HS1.out;refine⟨_,_,rfl,((H6.out.wk.rp.mods HMR.out (λg hg e=>by have:=(H6.out.wk.rp.lt g hg).1;omega)).blocks (λg hg hq=>?_)).sl encI_ok.len (by have:=H6.out.wk.few;omega),((H6.out.wk.rk.mods HMR.out (λg hg e=>by have:=(H6.out.wk.rk.lt g hg).1;omega)).blocks (λg hg hq=>?_)).sl encS_ok.len (by have:=H6.out.wk.few;omega)⟩
   ·rcases hq with hq|hq
    ·have:=(H6.out.wk.rp.lt g hg).1;have:=hlF g hq;omega
    ·exact hnp g hg hq
   ·rcases hq with hq|hq
    ·have:=(H6.out.wk.rk.lt g hg).1;have:=hlF g hq;omega
    ·exact hnk g hg hq
end
end Go.Proofs.YtchklfmggpconaaGreatDoor
