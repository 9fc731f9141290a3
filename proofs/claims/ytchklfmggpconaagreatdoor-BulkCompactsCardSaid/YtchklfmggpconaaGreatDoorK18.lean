import Derived.Test.YtchklfmggpconaaGreatDoorK17
import Derived.Laws.IdiomStrings
import Derived.IntWalk
import Derived.Test.YtchklfmggpconaaGreatDoorK08
namespace Go.Proofs.YtchklfmggpconaaGreatDoor
open Lib renaming hid->oh
set_option maxHeartbeats 2000000
set_option maxRecDepth 100000
section
open Go.RowKit
theorem zGD:∀{l:List ByteArray},(l.Pairwise λa b=>qJ a b=true)->jS l=true
 | [],_=>rfl
 | [_],_=>rfl
 | a :: b :: l,h=>by
  have h1:=wV.1 h;simp only[jS,uK];exact⟨h1.1 b uF,zGD h1.2⟩
def zA6(l:List zE):Prop:=∀x∈l,qC x.1=true/\x.2.size<=4096
theorem zBx(s:ByteArray):(vH s).length=1+s.size:=by
 unfold vH;rw[uC,zO,rE];rfl
theorem zMS{e:zI}(h:yC e=true):(jT e).length<=59:=by
 unfold yC at h;simp only[uK] at h;have hk:=(vC e.key).1 h.1;have h2:=h.2;unfold jT;rw[uC,zBx];by_cases hc:e.chain=0
 .rw[if_pos hc] at h2 ⊢;simp only[uK,uQ] at h2;rw[uC,zO,zBx];omega
 .rw[if_neg hc];simp only[uC,zO];omega
theorem zHX{α:Type}(g:α->List UInt8)(M:Nat):∀(l:List α),(∀x∈l,(g x).length<=M)->(l.flatMap g).length<=M * l.length
 | [],_=>by simp
 | x :: l,h=>by
  have h1:=zHX g M l (λy hy=>h y (uI _ hy));have h2:=h x uF;rw[wI,uC,uD,Nat.mul_succ];omega
theorem zMT{p:ByteArray × Int}(h:qC p.1=true):(zAh p).length<=37:=by
 have hk:=(vC p.1).1 h;unfold zAh;rw[uC,zBx,zO];omega
structure RdR(F:Nat->Prop)(w:World)(B:Nat)(bv:Value)(b:List UInt8)(r:RdA):Prop where
 own:zL w B #[bv,.int .i64 r.at_,.bool r.bad] 257
 sl:Sl F w 1 yE bv b
 mem:F B
section
variable {F:Nat->Prop}{ad:Nat->Addr}{w w':World}{B:Nat}{bv:Value}{b:List UInt8}{r:RdA}
theorem zEA(b:List UInt8)(p:Int)(W:Nat)(hW:W=1\/W=2\/W=4):(jW b p W).1<4294967296:=by
 unfold jW;split
 .simp
 .split
  .simp
  .have:=zEU ((b.drop p.toNat).take W);have h2:((b.drop p.toNat).take W).length<=4:=uM (List.length_take_le _ _) (by omega);have h3:(256:Nat) ^ ((b.drop p.toNat).take W).length<=256 ^ 4:=tT (by omega) h2;simp only;omega
theorem RdR.turn(h:RdR F w B bv b r)(r':RdA)(m:zA (λk=>k=B) w w')(hB:zL w' B #[bv,.int .i64 r'.at_,.bool r'.bad] 257):RdR F w' B bv b r' :=
 ⟨hB,h.sl.mods (m.mono (λk e=>by subst e;exact h.mem)),h.mem⟩
theorem zOY(hL:yW F ad w)(h:RdR F w B bv b r)(W:Nat)(hW:W=1\/W=2\/W=4)(h0:0<=r.at_)(h1:r.at_<=1000000000000) :
  Calls Tryz.prog 163 #[.pointer (some ⟨B,0,none⟩),.int .i64 (W:Int)] w λe w'=>e=.returned (.int .i64 ((vI b r W).1:Nat))/\RdR F w' B bv b (vI b r W).2/\zA (λk=>k=B) w w':=by
 obtain⟨a,bd⟩:=r;simp only at h0 h1;have hsm:=zEA b a W hW;obtain⟨sa,cap,rfl,hz,_,_,_⟩:=_root_.id h.sl;obtain⟨n,hn⟩:∃n,n=(jW b a W).1:=⟨_,rfl⟩;rw[<- hn] at hsm;have HN:=oh hn;have HH:=oh h;have HLd:=oh (hL.mods (zA.refl _ w).drew);have HSd:=oh (h.sl.mods (zA.refl _ w).drew);have HW:=oh hW;have hW4:W<=4:=by omega
 have c0:=h.own.cell (o:=0) (v:=.slice sa b.length cap) rfl;have c1:=h.own.cell (o:=1) (v:=.int .i64 a) rfl;have c2:=h.own.cell (o:=2) (v:=.bool bd) rfl;clear h hL hW hn
 go_enter Tryz.func163, Tryz.ntmps163
 go_wp2_with fail;go_region_held3 (λw'=>w'.cell? ⟨B,0,none⟩=some (.slice sa b.length cap)/\w'.cell? ⟨B,1,none⟩=some (.int .i64 a))
  (first|(with_reducible exact⟨x0,x1⟩)|go_keep)
  (first
   | (go_at_call 185;refine (zHK HLd.out _ b HSd.out a W (by have:=HW.out;omega)).mono ?_;rintro e w1 ⟨ev,rfl,hE,hm⟩;rw[<- HN.out];have x0:=zC hm c0;have x1:=zC hm c1))
 have x2:=zC hm c2;have HB:=oh ((HH.out.own.drew).ext hm);have f1:=HB.out.frozen 1;have f2:=HB.out.frozen 2;have HM:=oh (hm.ofDrew);have HM2:Hid (∀x:Bool,zA (λk=>k=B) w ((w1.setCell ⟨B,2,none⟩ (.bool x)).setCell ⟨B,1,none⟩ (.int .i64 (a+W)))) :=
  oh λx=>HM.out.ext.trans ((zA.at (λk=>k=B) w1 B 2 _ rfl).trans (zA.at (λk=>k=B) _ B 1 _ rfl))
 clear c0 c1 c2 hm;cases hT:(jW b a W).2 with
 | none =>
  rw[hT] at hE;cases hE
  have HR:Hid (vI b ⟨a,bd⟩ W=(n,⟨a+W,bd⟩)):=oh (by unfold vI;simp only[hT,<- HN.out];simp);clear hT;cases bd
  all_goals
   go_wp2_with fail;go_ret;exact⟨by rw[HR.out];rfl,by rw[HR.out];exact HH.out.turn _ (HM2.out _) ((HB.out.set 2 _).set 1 _),HM2.out _⟩
 | some er =>
  rw[hT] at hE;obtain⟨el,ek⟩:=er;obtain⟨f,rfl,hE⟩:=hE;have HR:Hid (vI b ⟨a,bd⟩ W=(n,⟨a+W,true⟩)):=oh (by unfold vI;simp only[hT,<- HN.out];simp);clear hT hE;cases bd
  all_goals
   go_wp2_with fail;go_ret;exact⟨by rw[HR.out];rfl,by rw[HR.out];exact HH.out.turn _ (HM2.out _) ((HB.out.set 2 _).set 1 _),HM2.out _⟩
end
theorem zRz{C:CaA}(hI:vP C){id:Nat}(hid:id<C.disk.blocks){p:yN}(h:C.vw id=.inl p):p.id=(id:Int)/\zJW p C.disk.size:=by
 unfold CaA.vw at h;split at h
 .rename_i s hs;injection h with h;subst h;have hm:=List.mem_of_find?_eq_some hs;have hh:=List.find?_some hs;obtain⟨i,hi,e⟩:=wQ hm;have hi2:C.slots[i]? = some s:=by rw[<- e];exact uA hi
  have hf:s.full=true/\s.page.id=(id:Int):=by
   cases hfl:s.full with
   | false=>rw[zG9 (.inl hfl)] at hh;cases hh
   | true =>
    by_cases e:s.page.id=(id:Int)
    .exact⟨rfl,e⟩
    .rw[zG9 (.inr e)] at hh;cases hh
  exact⟨hf.2,(hI.page i s hi2 hf.1).2.2⟩
 .have hl:=hI.len id hid;unfold jB at h;split at h
  .cases h
  .rename_i h1;split at h
   .cases h
   .rename_i h2;injection h with h;subst h;simp only[ne_eq,Decidable.not_not] at h2;unfold zDC at h1;simp only[pV,uK,uQ] at h1;refine⟨h2,?_,zF5 _⟩;rw[<- hl];exact h1.1
section
variable {P F:Nat->Prop}{ad:Nat->Addr}{w:World}{c s:Nat}{G:GA}{l:List Nat}
theorem yS.page(h:yS F w P c s G l){id:Nat}(hid:id<G.blocks){p:yN}(hv:G.view id=some (.inl p)):p.id=(id:Int)/\zJW p G.size:=by
 obtain⟨d,sb,bvs,Pd,b2,C,h1,h2,h3,h4,h5,h6,h7⟩:=h;have:=zRz h2 (by rw[h3.blocks];exact hid) (h3.view id _ hv);rw[h3.size] at this;exact this
theorem yS.got(h:yS F w P c s G l){id:Int}{p:yN}(hv:G.get id=.inl p):p.id=id/\zJW p G.size/\p.body.length<=1000:=by
 unfold GA.get at hv;split at hv
 .cases hv
 .rename_i hc;unfold GA.check at hc;split at hc
  .cases hc
  .rename_i hr;split at hv
   .rename_i q hq;injection hv with hv;subst hv;obtain⟨k1,k2⟩:=h.page (id:=id.toNat) (by omega) hq;have:=(jA k2.1).2.2.2.2.2;have:=h.lim;exact⟨by omega,k2,by omega⟩
   .cases hv
   .cases hv
end
abbrev e0:ByteArray:=⟨#[]⟩
def zFh(acc:List zE)(x:zE):List zE:=if qC x.1=true/\x.2.size<=4096 then qL x.1 x.2 false acc else acc
def zAH(l:List zE):List zE:=l.foldl zFh []
theorem zKr(l:List zE)(x:zE):zAH (l++[x])=zFh (zAH l) x:=by
 unfold zAH;rw[List.foldl_append];rfl
theorem zGE(key value:ByteArray)(over:Bool):∀l:List zE,(qL key value over l).length<=l.length+1
 | []=>by simp[qL]
 | x :: l=>by
  have:=zGE key value over l;unfold qL;split
  .simp only[uD];omega
  .split
   .split <;> simp
   .simp
theorem zQq{acc:List zE}{x:zE}(h1:yZ acc)(h2:zA6 acc):yZ (zFh acc x)/\zA6 (zFh acc x)/\(zFh acc x).length<=acc.length+1:=by
 unfold zFh;split
 .rename_i hc;refine⟨zCY h1,λy hy=>?_,zGE _ _ _ _⟩;rcases zDE hy with rfl|hy
  .exact hc
  .exact h2 y hy
 .exact⟨h1,h2,by omega⟩
theorem zKs:∀(l acc:List zE),yZ acc->zA6 acc->yZ (l.foldl zFh acc)/\zA6 (l.foldl zFh acc)/\(l.foldl zFh acc).length<=acc.length+l.length
 | [],acc,h1,h2=>⟨h1,h2,by simp⟩
 | x :: l,acc,h1,h2=>by
  obtain⟨k1,k2,k3⟩:=zQq (x:=x) h1 h2;obtain⟨j1,j2,j3⟩:=zKs l (zFh acc x) k1 k2;exact⟨j1,j2,by simp only[uD] at j3 ⊢;rw[List.foldl_cons];omega⟩
theorem zGF(l:List zE):yZ (zAH l)/\zA6 (zAH l)/\(zAH l).length<=l.length:=by
 obtain⟨h1,h2,h3⟩:=zKs l [] List.Pairwise.nil (λx h=>by simp at h);exact⟨h1,h2,by simpa[zAH] using h3⟩
def zOZ(n:Nat)(v:ByteArray):ByteArray:=v.extract 0 (min v.size n)
theorem zIp(n:Nat)(v:ByteArray):(zOZ n v).size=min v.size n:=by unfold zOZ;rw[ByteArray.size_extract];omega
def zE7(n:Nat)(l:List zE):List zE:=l.map λx=>(x.1,zOZ n x.2)
theorem zQr{n:Nat}{l:List zE}(h1:yZ l)(h2:zA6 l):yZ (zE7 n l)/\zA6 (zE7 n l)/\(zE7 n l).length=l.length/\∀x∈zE7 n l,x.2.size<=n:=by
 refine⟨?_,λx hx=>?_,by simp[zE7],λx hx=>?_⟩
 .unfold yZ zE7;rw[wW];exact h1
 .obtain⟨y,hy,rfl⟩:=wY.1 hx;have:=h2 y hy;exact⟨this.1,by simp only;rw[zIp];omega⟩
 .obtain⟨y,hy,rfl⟩:=wY.1 hx;simp only;rw[zIp];omega
def zKt(n:Nat)(l:List zE):List zE:=zE7 n (zAH (l.take 24))
structure zSG(n:Nat)(l:List zE):Prop where
 sorted:yZ l
 ok:zA6 l
 len:l.length<=24
 small:∀x∈l,x.2.size<=n
theorem zPv(n:Nat)(l:List zE):zSG n (zKt n l):=by
 obtain⟨h1,h2,h3⟩:=zGF (l.take 24);obtain⟨k1,k2,k3,k4⟩:=zQr (n:=n) h1 h2;exact⟨k1,k2,by unfold zKt;rw[k3];rw[uP] at h3;omega,k4⟩
end
section
open Go.RowKit
attribute [local go_sem ↓] Go.wp_at_zero Go.wp_at_succ
def zGz(x:Nat):Bool:=x == 1 || x == 2
def zBd(l:List Nat)(k:Nat):List Int:=((List.range k).filter (λi=>zGz (l.getD i 0))).map (λ(i:Nat)=>(i:Int))
theorem zKu(l:List Nat)(k:Nat):zBd l (k+1)=zBd l k++if zGz (l.getD k 0)=true then [(k:Int)] else []:=by
 unfold zBd;rw[List.range_succ,List.filter_append,wF];congr 1
 by_cases h:zGz (l.getD k 0)=true
 .rw[if_pos h,List.filter_cons_of_pos (p:=λi=>zGz (l.getD i 0)) h];rfl
 .rw[if_neg h,List.filter_cons_of_neg (p:=λi=>zGz (l.getD i 0)) h];rfl
theorem zMU(l:List Nat)(k:Nat):(zBd l k).length<=k:=by
 unfold zBd;rw[uU];exact uM (List.length_filter_le _ _) (by simp)
theorem zPw(w:World)(b b2:Nat)(l:List Nat)(h:SpR w b b2 l) :
  Calls Tryz.prog 24 #[.pointer (some ⟨b,0,none⟩)] w λe w'=>∃uv,e=.returned uv/\zU (λ_=>False) w' w.heap.size 3 1 yB uv (zBd l l.length)/\zJ w w':=by
 have c0:=h.own.cell (o:=0) (v:=.slice (some ⟨b2,0,none⟩) l.length l.length) rfl;have hl:=h.len;have hl2:=h.len2;have HS:=oh h;clear h
 go_enter Tryz.func24, Tryz.ntmps24
 go_wp2_with fail;go_loopg [3,13] l.length (λm v3 v13 wr=>∃(k:Nat) (uv:Value),k+m=l.length/\uv=v3/\v13=.int .i64 (k:Int)/\Hid (zU (λ_=>False) wr w.heap.size 3 1 yB uv (zBd l k)/\zJ w wr))
 case atStart=>exact⟨0,_,by omega,rfl,rfl,oh ⟨zU.nil _ _ _ _ _ _,zA.refl _ _⟩⟩
 case round =>
  obtain⟨k,v3,hk,rfl,rfl,HR⟩:=hrel;by_cases hlt:k<l.length
  .obtain⟨x,hx⟩:∃x,x=l[k]:=⟨_,rfl⟩;have hx2:l[k]? = some x:=by rw[hx];simp[hlt]
   have hc:=(HS.out.row.ext HR.out.2).cell (zDU l k x hx2);have hgd:l.getD k 0=x:=by simp[List.getD,hx2]
   obtain⟨n,hn⟩:∃n,n=(zBd l k).length:=⟨_,rfl⟩;have hn2:n<=k:=by rw[hn];exact zMU l k
   obtain⟨pa,pc,hv, -, -⟩:=_root_.id HR.out.1.form;rw[<- hn] at hv;have HU:=oh (zKu l k);rw[hgd] at HU;by_cases hi:zGz x=true
   .rw[if_pos hi] at HU;have HLN:=oh hn.symm;have HOW:=oh (HR.out.1.ext ((zA.refl _ wr).alloc (.cells #[.int .i64 (k:Int)] 3)));have HSZ:=oh HR.out.2.size;have hx12:x=1\/x=2:=by unfold zGz at hi;simpa using hi
    subst hv;clear hx hx2 hi hn hgd;rcases hx12 with rfl|rfl
    all_goals
     go_wp2_with (first
      | (at_builtin;refine yH Tryz.elI yG rfl _ _ rfl w.heap.size (.slice pa n pc) (.slice (some ⟨wr.heap.size,0,none⟩) 1 1) (zBd l k) [(k:Int)] rfl rfl HOW.out (Sl.one (F:=λ_=>False) (x:=(k:Int)) (t := 3) (fz:=(0,0)) (zK rfl) (λf=>f)) (by rw[HLN.out];simp only[uD,uE];omega) (uM HSZ.out (by simp)) (λf=>f) ?_;intro a' c' w4 hown4 hmod4 hat4;rw[HLN.out] at hown4 ⊢;simp only[uD,uE,uR] at hown4 ⊢;have HO4:=oh hown4;have HM4:=oh hmod4;have HA4:=oh HR.out.1.lt;clear hown4 hmod4 hat4)
      | fail)
     go_roundg (gk-1)
     case measure=>omega
     case rel =>
      refine⟨k+1,_,by omega,rfl,by go_num,oh ⟨by rw[HU.out];exact HO4.out,(HR.out.2.alloc (.cells #[.int .i64 (k:Int)] 3)).trans' HM4.out (λi hi hg=>?_)⟩⟩;have:=(HA4.out i hg).1;omega
   .rw[if_neg hi] at HU;have h1:((x:Int) == 1)=false:=by rw[uV];intro e;exact hi (by unfold zGz;simp;omega)
    have h2:((x:Int) == 2)=false:=by rw[uV];intro e;exact hi (by unfold zGz;simp;omega)
    have HRR:Hid (zU (λ_=>False) wr w.heap.size 3 1 yB v3 (zBd l (k+1))/\zJ w wr):=oh (by rw[HU.out,wR];exact HR.out);clear hx hx2 hi hn hgd hv;go_wp2_with fail;go_roundg (gk-1)
    case measure=>omega
    case rel=>exact⟨k+1,_,by omega,rfl,by go_num,HRR⟩
  .have hkq:k=l.length:=by omega
   have HF:Hid (zU (λ_=>False) wr w.heap.size 3 1 yB v3 (zBd l l.length)):=oh (by have:=HR.out.1;rw[hkq] at this;exact this);have HM:=oh HR.out.2;clear hkq;go_wp2_with fail;go_ret;exact⟨_,rfl,HF.out,HM.out⟩
section
variable {P F:Nat->Prop}{w:World}{c s:Nat}{G:GA}{l:List Nat}
theorem zRU(h:yS F w P c s G l) : Calls Tryz.prog 24 #[.pointer (some ⟨s,0,none⟩)] w λe w'=>∃uv,e=.returned uv/\zU (λ_=>False) w' w.heap.size 3 1 yB uv (zBd l l.length)/\zJ w w':=by
 obtain⟨d,sb,bvs,Pd,b2,C,_,_,_,_,hs,_,_⟩:=h;exact zPw w s b2 l hs
end
def zBe(pgs:List Int)(n:Nat):List Int:=((List.range n).filter (λ(i:Nat)=>decide (i<2) || pgs.contains (i:Int))).map (λ(i:Nat)=>(i:Int))
theorem zMV(pgs:List Int)(k:Nat):zBe pgs (k+1)=zBe pgs k++if (decide (k<2) || pgs.contains (k:Int))=true then [(k:Int)] else []:=by
 unfold zBe;rw[List.range_succ,List.filter_append,wF];congr 1
 by_cases h:(decide (k<2) || pgs.contains (k:Int))=true
 .rw[if_pos h,List.filter_cons_of_pos (p:=λi:Nat=>decide (i<2) || pgs.contains (i:Int)) h];rfl
 .rw[if_neg h,List.filter_cons_of_neg (p:=λi:Nat=>decide (i<2) || pgs.contains (i:Int)) h];rfl
theorem zGG(pgs:List Int)(k:Nat):(zBe pgs k).length<=k:=by
 unfold zBe;rw[uU];exact uM (List.length_filter_le _ _) (by simp)
theorem zIQ(pgs:List Int)(k:Nat)(z:Int)(x:Int)(h:pgs[k]? = some x):(pgs.take (k+1)).contains z=((pgs.take k).contains z || (x == z)):=by
 rw[yJ pgs k x h,Bool.eq_iff_iff];simp only[List.contains_iff_mem,rR,uG,wS,tU];exact or_congr rZ eq_comm
theorem zMW{F:Nat->Prop}{w:World}(pgs:List Int)(pv:Value)(hp:Sl F w 1 yB pv pgs)(n:Nat)(hn:n<=256) :
  Calls Tryz.prog 25 #[pv,.int .i64 (n:Int)] w λe w'=>∃uv,e=.returned uv/\zU (λ_=>False) w' w.heap.size 3 1 yB uv (zBe pgs n)/\zJ w w':=by
 have HP:=oh hp;obtain⟨qa,qc,rfl,b1,b2,b3, -⟩:=hp;unfold maxLen at b2;have HO0:Hid (zU (λ_=>False) (w.alloc (.cells #[] 3)) w.heap.size 3 1 yB (.slice (some ⟨w.heap.size,0,none⟩) 0 0) (zBe pgs 0)):=oh (zU.empty (λk f=>f.elim) _ _ _ yG.len);have HM0:Hid (zJ w (w.alloc (.cells #[] 3))):=oh ((zA.refl _ w).alloc _)
 go_enter Tryz.func25, Tryz.ntmps25
 go_wp2_with fail;go_loopg [5,6] n (λm v5 v6 wr=>∃(k:Nat) (uv:Value),k+m=n/\uv=v5/\v6=.int .i64 (k:Int)/\Hid (zU (λ_=>False) wr w.heap.size 3 1 yB uv (zBe pgs k)/\zJ w wr))
 case atStart=>exact⟨0,_,by omega,rfl,rfl,oh ⟨HO0.out,HM0.out⟩⟩
 case round =>
  obtain⟨k,v3,hk,rfl,rfl,HR⟩:=hrel;obtain⟨wo,rfl⟩:∃wo:World,wo=wr:=⟨_,rfl⟩;obtain⟨go,rfl⟩:∃go:Nat,go=gk:=⟨_,rfl⟩;by_cases hlt:k<n
  .go_wp2_with fail;go_loopg [7,8] pgs.length (λm v7 v8 wr=>∃(j:Nat) (bz:Bool),wr=wo/\j+m=pgs.length/\v7=.bool bz/\v8=.int .i64 (j:Int)/\Hid (bz=(decide (k<2) || (pgs.take j).contains (k:Int))))
   case atStart=>exact⟨0,_,rfl,by omega,rfl,rfl,oh (by simp;omega)⟩
   case round =>
    obtain⟨j,bz,rfl,hj,rfl,rfl,HB⟩:=hrel;by_cases hlj:j<pgs.length
    .obtain⟨x,hx⟩:∃x,x=pgs[j]:=⟨_,rfl⟩;have hx2:pgs[j]? = some x:=by rw[hx];simp[hlj]
     obtain⟨qb,qoff,hqa,hc⟩:=HP.out.elem hlj HR.out.2;have d0:=hc 0 (.int .i64 x) (by rw[hx];rfl);simp only[uO,wK] at d0;subst hqa;have HT:=oh (zIQ pgs j (k:Int) x hx2);have i1:(0:Int)<=(j:Int):=by omega
     have i2:(j:Int)<(pgs.length:Int):=by omega
     clear hc hx hx2;cases bz with
     | true =>
      go_wp2_with fail;go_roundg (gk-1)
      case measure=>omega
      case rel=>exact⟨j+1,true,rfl,by omega,rfl,by go_num,oh (by rw[HT.out,<- Bool.or_assoc,<- HB.out];rfl)⟩
     | false =>
      go_wp2_with fail;go_roundg (gk-1)
      case measure=>omega
      case rel=>exact⟨j+1,(x == (k:Int)),rfl,by omega,rfl,by go_num,oh (by rw[HT.out,<- Bool.or_assoc,<- HB.out];simp)⟩
    .have hjq:j=pgs.length:=by omega
     have HBB:Hid (bz=(decide (k<2) || pgs.contains (k:Int))):=oh (by have:=HB.out;rw[hjq,wU] at this;exact this);have HU:=oh (zMV pgs k);obtain⟨q,hq⟩:∃q,q=(zBe pgs k).length:=⟨_,rfl⟩;have hq2:q<=k:=by rw[hq];exact zGG pgs k
     obtain⟨pa,pc,hv, -, -⟩:=_root_.id HR.out.1.form;rw[<- hq] at hv;clear hjq;cases bz with
     | true =>
      have HU2:Hid (zBe pgs (k+1)=zBe pgs k++[(k:Int)]):=oh (by rw[HU.out,if_pos HBB.out.symm]);have HLN:=oh hq.symm;have HOW:=oh (HR.out.1.ext ((zA.refl _ wr).alloc (.cells #[.int .i64 (k:Int)] 3)));have HSZ:=oh HR.out.2.size;subst hv;clear hq;go_wp2_with (first
       | (at_builtin;refine yH Tryz.elI yG rfl _ _ rfl w.heap.size (.slice pa q pc) (.slice (some ⟨wr.heap.size,0,none⟩) 1 1) (zBe pgs k) [(k:Int)] rfl rfl HOW.out (Sl.one (F:=λ_=>False) (x:=(k:Int)) (t := 3) (fz:=(0,0)) (zK rfl) (λf=>f)) (by rw[HLN.out];simp only[uD,uE];omega) (uM HSZ.out (by simp)) (λf=>f) ?_;intro a' c' w4 hown4 hmod4 hat4;rw[HLN.out] at hown4 ⊢;simp only[uD,uE,uR] at hown4 ⊢;have HO4:=oh hown4;have HM4:=oh hmod4;have HA4:=oh HR.out.1.lt;clear hown4 hmod4 hat4)
       | fail)
      go_roundg (go-1)
      case measure=>omega
      case rel =>
       refine⟨k+1,_,by omega,rfl,by go_num,oh ⟨by rw[HU2.out];exact HO4.out,(HR.out.2.alloc (.cells #[.int .i64 (k:Int)] 3)).trans' HM4.out (λi hi hg=>?_)⟩⟩;have:=(HA4.out i hg).1;omega
     | false =>
      have HRR:Hid (zU (λ_=>False) wr w.heap.size 3 1 yB v3 (zBe pgs (k+1))/\zJ w wr):=oh (by rw[HU.out,if_neg (by rw[<- HBB.out];simp),wR];exact HR.out);clear hq hv;go_wp2_with fail;go_roundg (go-1)
      case measure=>omega
      case rel=>exact⟨k+1,_,by omega,rfl,by go_num,HRR⟩
  .have hkq:k=n:=by omega
   have HF:Hid (zU (λ_=>False) wo w.heap.size 3 1 yB v3 (zBe pgs n)):=oh (by have:=HR.out.1;rw[hkq] at this;exact this);have HM:=oh HR.out.2;clear hkq;go_wp2_with fail;go_ret;exact⟨_,rfl,HF.out,HM.out⟩
end
section
open Go.RowKit
def zRV(ad:Nat->Addr)(w:World)(n g:Nat)(e:Ending)(w':World):Prop :=
 ∃(c s:Nat) (P F:Nat->Prop),e=.returned (.tuple #[qR c s g,.bool true])/\yS F w' P c s (G0 n) (zDu n)/\zR NoB P NoB F ad w w'
theorem zGm{ad:Nat->Addr}{w:World}(hL:yW NoB ad w) : Calls Tryz.prog 10 #[] w (zRV ad w 250 5):=by
 have m0:zJ w (w.alloc (.cells #[.pointer none,.pointer none,.int .u64 0] 31)):=(zA.refl _ w).alloc _;have HL:=oh (hL.withR m0 (by simp));have HB0:=oh (zL.new w #[.pointer none,.pointer none,.int .u64 0] 31);have HL0:=oh hL;have HM0:=oh m0;clear hL m0
 go_enter Tryz.func10, Tryz.ntmps10
 go_wp2_with fail;refine (zPp 250 256 (by omega) (by omega) (by omega) (by omega)).mono ?_;rintro e w1 ⟨d,Pd,rfl,hD,hn,hm⟩;have HN1:=oh (zR.of (P:=NoB) (P':=Pd) HL.out (λ_ h=>h.elim) ⟨hm,λk hk h=>by have:=hn k h;omega,hD.bd⟩);have HD:=oh hD;have HB1:=oh (HB0.out.ext hm);have hrl:=HB1.out.lt;clear hD hn hm;go_wp2_with fail;refine (zPn HN1.out.env (λ_ h=>.inr h) HD.out 5 (by omega) (by omega)).mono ?_;rintro e w2 ⟨c,sb,bvs,F2,rfl,hC,hN2⟩;have HC:=oh hC;have HN2:=oh (HN1.out.trans hN2);have hrl2:=uH hrl hN2.size;clear hC hN2;go_wp2_with fail;refine (zOJ 250 (by omega) (by omega)).mono ?_;rintro e w3 ⟨s,b2,rfl,hS,h1,h2,hm3⟩;obtain⟨P,F,hG,hN⟩:=yS.made (s:=s) (b2:=b2) (n:=250) (by omega) (by omega) (q:=5) (by omega) (by omega) HC.out HN2.out hS hm3 h1 h2;have rb:=hN.blk HB0.out (λf=>f);have r0:=rb.cell (o:=0) rfl;have r1:=rb.cell (o:=1) rfl;have r2:=rb.cell (o:=2) rfl;have rf:=rb.frozen;have hR:∀k,P k->k≠w.heap.size:=λk hk e=>by
  subst e;exact hN.stp.old _ (by simp) hk
 have mR:zA (λk=>k=w.heap.size) w3 (((w3.setCell ⟨w.heap.size,0,none⟩ (.pointer (some ⟨c,0,none⟩))).setCell ⟨w.heap.size,1,none⟩ (.pointer (some ⟨s,0,none⟩))).setCell ⟨w.heap.size,2,none⟩ (.int .u64 5)):=zA.set3 (F:=λk=>k=w.heap.size) (zA.refl _ w3) (.inr rfl) _ _ _;have hG4:=hG.plus (F':=F) mR hR (λk hk=>hN.grow k (.inr hk)) (λ_ _ h=>h);have HG:=oh hG4;have HN:Hid (zR NoB P NoB F ad w _):=oh ⟨⟨(zA.set3 (HM0.out.trans hN.stp.mods) (.inl (uJ w.heap.size)) (.pointer (some ⟨c,0,none⟩)) (.pointer (some ⟨s,0,none⟩)) (.int .u64 5)),λk hk hp=>hN.stp.old k (uH hk HM0.out.size) hp,λk hk=>uH (hN.stp.bd k hk) mR.size⟩,
  hN.sub,λ_ h=>h.elim,λk hk hf=>(hN.oldF k (uH hk HM0.out.size) hf).elim id (λe=>by omega),hN.env.mods (mR.mono (λk hk=>hN.grow k (.inr hk)))⟩
 have HBR:=oh (zL.set3 rb (.pointer (some ⟨c,0,none⟩)) (.pointer (some ⟨s,0,none⟩)) (.int .u64 5));clear hS h1 h2 hm3 hG hN hG4 mR hR rb;go_wp2_with fail;refine bodyPost_ret (zG rfl _ _ w.heap.size 31 #[.pointer (some ⟨c,0,none⟩),.pointer (some ⟨s,0,none⟩),.int .u64 5] _ rfl HBR.out Tryz.underlying31 rfl Tryz.pagerSize) rfl ?_;exact⟨c,s,P,F,rfl,HG.out,HN.out⟩
def zE8(n k:Nat)(l:List zE):List zE:=zE7 n (l.take k)++l.drop k
theorem zOa(n:Nat)(l:List zE):zE8 n 0 l=l:=by simp[zE8,zE7]
theorem zPx(n:Nat)(l:List zE):zE8 n l.length l=zE7 n l:=by simp[zE8]
theorem zKv(n k:Nat)(l:List zE):(zE8 n k l).length=l.length:=by
 unfold zE8 zE7;rw[uC,uU,uP,u0];omega
theorem zNW{n k:Nat}{l:List zE}{x:zE}(hx:l[k]? = some x):(zE8 n k l)[k]? = some x:=by
 have hk:=(uB.1 hx).1;unfold zE8 zE7;rw[wJ (by rw[uU,uP];omega),uU,uP,rH];rw[show k+(k-min k l.length)=k by omega];exact hx
theorem zPy{n k:Nat}{l:List zE}{x:zE}(hx:l[k]? = some x):(zE8 n k l).set k (x.1,zOZ n x.2)=zE8 n (k+1) l:=by
 have hk:=(uB.1 hx).1;unfold zE8;have hl:(zE7 n (l.take k)).length=k:=by unfold zE7;rw[uU,uP];omega
 rw[List.set_append_right _ _ (by rw[hl];exact uJ _),hl,Nat.sub_self,zEX hx,nW,yJ l k x hx];unfold zE7;rw[wF];simp
end
end Go.Proofs.YtchklfmggpconaaGreatDoor
