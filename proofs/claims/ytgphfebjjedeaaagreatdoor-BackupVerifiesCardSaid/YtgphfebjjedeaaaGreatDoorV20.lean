import Derived.Test.YtgphfebjjedeaaaGreatDoorV19
import Derived.Laws.IdiomStrings
import Derived.IntWalk
import Derived.Test.YtgphfebjjedeaaaGreatDoorV08
import Derived.Test.YtgphfebjjedeaaaGreatDoorV01
namespace Go.Proofs.YtgphfebjjedeaaaGreatDoor
open Lib renaming hid->oh
set_option maxHeartbeats 4000000
set_option maxRecDepth 100000
section
open Go.RowKit
theorem zG4{P:Program}{w:World}{t u e:TypeId}(T:ElT P t e (.int .u8 0) 1 1)(hu:P.underlying u=some .string)
  {ops:Array Oper} {rest:List Oper} {o:Oper} {a:Act} {Q:Exit->Act->World->Prop} (hgd:o.guard=none) (sx x:Operand)
  (ho:o.op=.call { callee:=.builtin .append,args:=#[sx,x],argTypes:=#[t,u] })
  (base:Nat) (v:Value) (l:List UInt8) (s:ByteArray) (hv:a.eval sx=v) (hx:a.eval x=.string s) (hown:yA (λ_=>False) w base e 1 zO v l) (hb:l.length+s.size<=140737488355328) (hbase:base<=w.heap.size)
  (h:∀a' c' w',yA (λ_=>False) w' base e 1 zO (.slice a' (l.length+s.size) c') (l++s.data.toList)->w.grownBy w' v.ownBlock->wpList P ops Q rest (a.put o.dst (.slice a' (l.length+s.size) c')) w') :
  wpList P ops Q (o :: rest) a w:=by
 refine wpList_plain hgd λK hK=>?_
 obtain⟨i,hi,hz,hs1,hb1⟩:=zE8 T.info;obtain⟨v',w',hr,h2,h3,_⟩:=Go.Lib.run_append_own_string (P:=P) (w:=w) base t u o.type e i T.under hu hi hz hs1 hb1 v l.length _ hown.1 s (by simp only[maxLen];omega) hb hbase;have hO:yA (λ_=>False) w' base e 1 zO v' (l++s.data.toList):=⟨by
  rw[uC,yY,tB,<- zFy];exact h2,λ_ _ f=>f⟩
 obtain⟨a',c',hvv,_⟩:=hO.form;rw[uC,yY] at hvv;subst hvv;unfold Oper.wp execOp;simp only[ho,resolve,invoke,builtin,Sem.run_bind,Sem.run_pure,Result.andThen_ok,pM,wO,rZ,hv,hx,hr];exact hK _ _ (h a' c' w' hO h3)
structure WrR(base:Nat)(w:World)(B:Nat)(l:List UInt8):Prop where
 box:∃a c,zK w B #[.slice a l.length c,.nilIface] 474 /\ yA (λ_=>False) w base 5 1 zO (.slice a l.length c) l
 ge:base<=B
def WFr(B:Nat)(w w':World):Prop:=∀(b:Nat) (c:Array Value) (t:TypeId),b≠B->t ≠ 5 -> zK w b c t->zK w' b c t
section
variable {F:NP}{ad:Nat->Addr}{w w':World}{base B:Nat}{l:List UInt8}
theorem yA.notB{e t:TypeId}{α:Type}{F:NP}{enc:α->List Value}{sz:Nat}{v:Value}{x:List α}{B:Nat}{c:Array Value}(h:yA F w base e sz enc v x)(hB:zK w B c t)(ht:t≠e):∀g,v.ownBlock=some g->g≠B:=by
 intro g hg he;subst he;rcases h.1.2 with ⟨rfl,_⟩|⟨g',cap,cur,rfl,hbg,hg',_⟩
 .simp[Value.ownBlock] at hg
 .simp[Value.ownBlock] at hg;subst hg;unfold zK at hB;rw[hg'] at hB;injection hB with hB;injection hB with h1 h2;exact ht h2.symm
theorem zLT(hL:yE F ad w)(hF:∀k,F k->k<base)(h:WrR base w B l)(n W:Nat)(hW:W=1\/W=2\/W=4)(hn:n<256 ^ W)(hlen:l.length<=100000) :
  Calls Tryz.prog 338 #[.pointer (some ⟨B,0,none⟩),.int .i64 (n:Int),.int .i64 (W:Int)] w λe w'=>e=.returned (.tuple #[])/\WrR base w' B (l++zV W n)/\zA (λk=>base<=k) w w'/\WFr B w w':=by
 obtain⟨⟨a,c,hB,hO⟩,hge⟩:=h;have hn2:n<4294967296:=by
  rcases hW with rfl|rfl|rfl <;> simp at hn <;> omega
 have b0:=hB.d 0 (.slice a l.length c) rfl;have b1:=hB.d 1 .nilIface rfl;have HSL:Hid (Sl F w 1 zO (.slice a l.length c) l):=oh (yA.sl (F:=F) ⟨hO.1,λg hg f=>by have:=hO.lt g hg;have:=hF g f;omega⟩ yU.len (by omega));have HB:=oh hB;have HL:=oh hL;have HN:=oh hn;have HW:=oh hW;have HBL:=oh hB.lt;clear hB hO hL hF hn hW
 go_enter Tryz.func338, Tryz.ntmps338
 go_wp2_with fail;refine (zAt HL.out _ l HSL.out n W (by have:=HW.out;omega) HN.out (uT hlen (by omega))).mono ?_;rintro e w1 ⟨a1,c1,rfl,hO1,hm1⟩;have hB1:=HB.out.ext hm1;have f0:=hB1.frozen 0;have f1:=hB1.frozen 1;have z0:=hB1.k 0 rfl;have z1:=hB1.k 1 rfl;have HB1:=oh hB1;have hsz:=hm1.size;have HM:Hid (zA (λk=>base<=k) w ((w1.setCell ⟨B,0,none⟩ (.slice a1 (l.length+W) c1)).setCell ⟨B,1,none⟩ .nilIface)):=oh ((hm1.ext.setCell (p:=⟨B,0,none⟩) (.inr hge) _).setCell (p:=⟨B,1,none⟩) (.inr hge) _);have HO1:Hid (yA (λ_=>False) ((w1.setCell ⟨B,0,none⟩ (.slice a1 (l.length+W) c1)).setCell ⟨B,1,none⟩ .nilIface) base 5 1 zO (.slice a1 (l.length+W) c1) (l++zV W n)):=oh (by
  have h1:yA (λ_=>False) w1 base 5 1 zO (.slice a1 (l.length+W) c1) (l++zV W n):=yA.rebase ⟨hO1.1,λ_ _ f=>f⟩ (by have:=HBL.out;omega);exact h1.mods (((zA.refl (λk=>k=B) w1).setCell (F:=λk=>k=B) (p:=⟨B,0,none⟩) (.inr rfl) _).setCell (F:=λk=>k=B) (p:=⟨B,1,none⟩) (.inr rfl) _) (λg hg=>yA.notB h1 hB1 (by decide) g hg))
 have HFR:Hid (WFr B w ((w1.setCell ⟨B,0,none⟩ (.slice a1 (l.length+W) c1)).setCell ⟨B,1,none⟩ .nilIface)):=oh (λb c t h1 _ h3=>((h3.ext hm1).set_other (p:=⟨B,0,none⟩) h1 _).set_other (p:=⟨B,1,none⟩) h1 _);clear hm1 hB1 hO1;go_wp2_with fail;go_end0
 exact⟨rfl,⟨⟨a1,c1,by rw[uC,zC];exact (HB1.out.set 0 _).set 1 _,by rw[uC,zC];exact HO1.out⟩,hge⟩,HM.out,HFR.out⟩
theorem zO6(hL:yE F ad w)(hF:∀k,F k->k<base)(h:WrR base w B l)(s:ByteArray)(hs:s.size<256)(hlen:l.length<=100000) :
  Calls Tryz.prog 339 #[.pointer (some ⟨B,0,none⟩),.string s] w λe w'=>e=.returned (.tuple #[])/\WrR base w' B (l++vM s)/\zA (λk=>base<=k) w w'/\WFr B w w':=by
 have HL:=oh hL;have HF:=oh hF;have HH:=oh h;have HW0:=oh h.box;clear hL hF h
 go_enter Tryz.func339, Tryz.ntmps339
 go_wp2_with fail;refine (zLT HL.out HF.out HH.out s.size 1 (.inl rfl) (by simpa using hs) hlen).mono ?_;rintro e w1 ⟨rfl,hR,hm,hfr⟩;have HFR:=oh hfr;clear hfr;obtain⟨⟨a,c,hB,hO⟩,hge⟩:=hR;have hbb:=hB.lt;have hll:(l++zV 1 s.size).length=l.length+1:=by rw[uC,zC]
 have HB:=oh hB;have HO:=oh hO;have HM:=oh hm;have HLL:=oh hll;generalize hq:l++zV 1 s.size=q at *
 have HQ:=oh hq;clear hB hO hm hll hq;have b0:=HB.out.d 0 (.slice a q.length c) rfl;have f0:=HB.out.frozen 0;go_wp2_with (at_builtin;refine zG4 Tryz.elB Tryz.underlying9 rfl _ _ rfl base _ q s rfl rfl HO.out (by rw[HLL.out];omega) (by omega) ?_;intro a2 c2 w2 hO2 hg2;have hgm:=zA.of_grown hg2;have hB2:zK w2 B #[.slice a q.length c,.nilIface] 474:=HB.out.mods hgm (λe=>yA.notB HO.out HB.out (by decide) B e rfl);have z0:=hB2.d 0 (.slice a q.length c) rfl;have zf:=hB2.frozen 0);have HB2:=oh hB2;have HM2:Hid (zA (λk=>base<=k) w (w2.setCell ⟨B,0,none⟩ (.slice a2 (q.length+s.size) c2))):=oh (((HM.out.trans (hgm.mono (λk hk=>(HO.out.lt k hk).1)))).setCell (p:=⟨B,0,none⟩) (.inr hge) _);have HO2:Hid (yA (λ_=>False) (w2.setCell ⟨B,0,none⟩ (.slice a2 (q.length+s.size) c2)) base 5 1 zO (.slice a2 (q.length+s.size) c2) (q++s.data.toList)):=oh
  (hO2.mods ((zss w2).setCell (F:=λk=>k=B) (p:=⟨B,0,none⟩) (.inr rfl) _) (λg hg=>yA.notB hO2 hB2 (by decide) g hg))
 have HFR2:Hid (WFr B w (w2.setCell ⟨B,0,none⟩ (.slice a2 (q.length+s.size) c2))):=oh (λb c t h1 h2 h3=>((HFR.out b c t h1 h2 h3).mods hgm (λe=>yA.notB HO.out (HFR.out b c t h1 h2 h3) h2 b e rfl)).set_other (p:=⟨B,0,none⟩) h1 _);clear hB2 hO2 hg2 hgm;go_end0
 have e1:l++vM s=q++s.data.toList:=by rw[<- HQ.out];unfold vM;rw[uM]
 have e2:(q++s.data.toList).length=q.length+s.size:=by rw[uC,yY]
 exact⟨rfl,⟨⟨a2,c2,by rw[e1,e2];exact HB2.out.set 0 _,by rw[e1,e2];exact HO2.out⟩,hge⟩,HM2.out,HFR2.out⟩
end
theorem zGT:∀{l:List ByteArray},(l.Pairwise λa b=>qH a b=true)->jH l=true
 | [],_=>rfl
 | [_],_=>rfl
 | a :: b :: l,h=>by
  have h1:=wT.1 h;simp only[jH,uL];exact⟨h1.1 b uH,zGT h1.2⟩
def zDF(l:List zE):Prop:=∀x∈l,qP x.1=true/\x.2.size<=4096
theorem zCL(s:ByteArray):(vM s).length=1+s.size:=by
 unfold vM;rw[uC,zC,tP];rfl
theorem zND{e:zR}(h:qZ e=true):(zAJ e).length<=59:=by
 unfold qZ at h;simp only[uL] at h;have hk:=(jX e.key).1 h.1;have h2:=h.2;unfold zAJ;rw[uC,zCL];by_cases hc:e.chain=0
 .rw[if_pos hc] at h2 ⊢;simp only[uL,uR] at h2;rw[uC,zC,zCL];omega
 .rw[if_neg hc];simp only[uC,zC];omega
theorem zH2{α:Type}(g:α->List UInt8)(M:Nat):∀(l:List α),(∀x∈l,(g x).length<=M)->(l.flatMap g).length<=M * l.length
 | [],_=>by simp
 | x :: l,h=>by
  have h1:=zH2 g M l (λy hy=>h y (uI _ hy));have h2:=h x uH;rw[uZ,uC,uD,Nat.mul_succ];omega
theorem zNE{p:ByteArray × Int}(h:qP p.1=true):(zAu p).length<=37:=by
 have hk:=(jX p.1).1 h;unfold zAu;rw[uC,zCL,zC];omega
structure RdR(F:NP)(w:World)(B:Nat)(bv:Value)(b:List UInt8)(r:RdA):Prop where
 own:zK w B #[bv,.int .i64 r.at_,.bool r.bad] 458
 sl:Sl F w 1 zO bv b
 mem:F B
section
variable {F:NP}{ad:Nat->Addr}{w w':World}{B:Nat}{bv:Value}{b:List UInt8}{r:RdA}
theorem zG5(b:List UInt8)(p:Int)(W:Nat)(hW:W=1\/W=2\/W=4):(yO b p W).1<4294967296:=by
 unfold yO;split
 .simp
 .split
  .simp
  .have:=zC6 ((b.drop p.toNat).take W);have h2:((b.drop p.toNat).take W).length<=4:=uT (List.length_take_le _ _) (by omega);have h3:(256:Nat) ^ ((b.drop p.toNat).take W).length<=256 ^ 4:=wW (by omega) h2;simp only;omega
theorem RdR.turn(h:RdR F w B bv b r)(r':RdA)(m:zA (λk=>k=B) w w')(hB:zK w' B #[bv,.int .i64 r'.at_,.bool r'.bad] 458):RdR F w' B bv b r' :=
 ⟨hB,h.sl.mods (m.mono (λk e=>by subst e;exact h.mem)),h.mem⟩
theorem zO7(hL:yE F ad w)(h:RdR F w B bv b r)(W:Nat)(hW:W=1\/W=2\/W=4)(h0:0<=r.at_)(h1:r.at_<=1000000000000) :
  Calls Tryz.prog 317 #[.pointer (some ⟨B,0,none⟩),.int .i64 (W:Int)] w λe w'=>e=.returned (.int .i64 ((vK b r W).1:Nat))/\RdR F w' B bv b (vK b r W).2/\zA (λk=>k=B) w w':=by
 obtain⟨a,bd⟩:=r;simp only at h0 h1;have hsm:=zG5 b a W hW;obtain⟨sa,cap,rfl,hz,_,_,_⟩:=_root_.id h.sl;obtain⟨n,hn⟩:∃n,n=(yO b a W).1:=⟨_,rfl⟩;rw[<- hn] at hsm;have HN:=oh hn;have HH:=oh h;have HLd:=oh (hL.mods (zss w).drew);have HSd:=oh (h.sl.mods (zss w).drew);have HW:=oh hW;have hW4:W<=4:=by omega
 have c0:=h.own.d 0 (.slice sa b.length cap) rfl;have c1:=h.own.d 1 (.int .i64 a) rfl;have c2:=h.own.d 2 (.bool bd) rfl;clear h hL hW hn
 go_enter Tryz.func317, Tryz.ntmps317
 go_wp2_with fail;go_region_held3 (λw'=>w'.cell? ⟨B,0,none⟩=some (.slice sa b.length cap)/\w'.cell? ⟨B,1,none⟩=some (.int .i64 a))
  (first|(with_reducible exact⟨x0,x1⟩)|go_keep)
  (first
   | (go_at_call 209;refine (zDX HLd.out _ b HSd.out a W (by have:=HW.out;omega)).mono ?_;rintro e w1 ⟨ev,rfl,hE,hm⟩;rw[<- HN.out];have x0:=zD hm c0;have x1:=zD hm c1))
 have x2:=zD hm c2;have HB:=oh ((HH.out.own.drew).ext hm);have f1:=HB.out.frozen 1;have f2:=HB.out.frozen 2;have HM:=oh (hm.ofDrew);have HM2:Hid (∀x:Bool,zA (λk=>k=B) w ((w1.setCell ⟨B,2,none⟩ (.bool x)).setCell ⟨B,1,none⟩ (.int .i64 (a+W)))) :=
  oh λx=>HM.out.ext.trans ((zA.at (λk=>k=B) w1 B 2 _ rfl).trans (zA.at (λk=>k=B) _ B 1 _ rfl))
 clear c0 c1 c2 hm;cases hT:(yO b a W).2 with
 | none =>
  rw[hT] at hE;cases hE
  have HR:Hid (vK b ⟨a,bd⟩ W=(n,⟨a+W,bd⟩)):=oh (by unfold vK;simp only[hT,<- HN.out];simp);clear hT;cases bd
  all_goals
   go_wp2_with fail;go_ret;exact⟨by rw[HR.out];rfl,by rw[HR.out];exact HH.out.turn _ (HM2.out _) ((HB.out.set 2 _).set 1 _),HM2.out _⟩
 | some er =>
  rw[hT] at hE;obtain⟨el,ek⟩:=er;obtain⟨f,rfl,hE⟩:=hE;have HR:Hid (vK b ⟨a,bd⟩ W=(n,⟨a+W,true⟩)):=oh (by unfold vK;simp only[hT,<- HN.out];simp);clear hT hE;cases bd
  all_goals
   go_wp2_with fail;go_ret;exact⟨by rw[HR.out];rfl,by rw[HR.out];exact HH.out.turn _ (HM2.out _) ((HB.out.set 2 _).set 1 _),HM2.out _⟩
end
section
variable {P P' F F':NP}{ad:Nat->Addr}{w w':World}{c s:Nat}
theorem zLU(op:ByteArray)(gen:Nat) : Calls Tryz.prog 220 #[.string op,pgV c s gen] w λe w'=>e=.returned .nilIface/\zG w w':=by
 unfold pgV;have m0:zG w (w.alloc (gP c s gen)):=(zss w).alloc _;have M0:=oh m0;clear m0
 go_enter Tryz.func220, Tryz.ntmps220
 go_wp2_with fail;go_ret;exact⟨rfl,M0.out⟩
end
theorem zTA{C:CaA}(hI:vR C){id:Nat}(hid:id<C.disk.blocks){p:yF}(h:C.vw id=.inl p):p.id=(id:Int)/\zKA p C.disk.size:=by
 unfold CaA.vw at h;split at h
 .rename_i s hs;injection h with h;subst h;have hm:=List.mem_of_find?_eq_some hs;have hh:=List.find?_some hs;obtain⟨i,hi,e⟩:=wI hm;have hi2:C.slots[i]? = some s:=by rw[<- e];exact uA hi
  have hf:s.full=true/\s.page.id=(id:Int):=by
   cases hfl:s.full with
   | false=>rw[zHT (.inl hfl)] at hh;cases hh
   | true =>
    by_cases e:s.page.id=(id:Int)
    .exact⟨rfl,e⟩
    .rw[zHT (.inr e)] at hh;cases hh
  exact⟨hf.2,(hI.page i s hi2 hf.1).2.2⟩
 .have hl:=hI.len id hid;unfold yT at h;split at h
  .cases h
  .rename_i h1;split at h
   .cases h
   .rename_i h2;injection h with h;subst h;simp only[ne_eq,Decidable.not_not] at h2;unfold zDU at h1;simp only[pX,uL,uR] at h1;refine⟨h2,?_,zEr _⟩;rw[<- hl];exact h1.1
section
variable {P F:NP}{ad:Nat->Addr}{w:World}{c s:Nat}{G:GA}{l:List Nat}
theorem vJ.page(h:vJ F w P c s G l){id:Nat}(hid:id<G.blocks){p:yF}(hv:G.view id=some (.inl p)):p.id=(id:Int)/\zKA p G.size:=by
 obtain⟨d,sb,bvs,Pd,b2,C,h1,h2,h3,h4,h5,h6,h7⟩:=h;have:=zTA h2 (by rw[h3.blocks];exact hid) (h3.view id _ hv);rw[h3.size] at this;exact this
theorem vJ.got(h:vJ F w P c s G l){id:Int}{p:yF}(hv:G.get id=.inl p):p.id=id/\zKA p G.size/\p.body.length<=1000:=by
 unfold GA.get at hv;split at hv
 .cases hv
 .rename_i hc;unfold GA.check at hc;split at hc
  .cases hc
  .rename_i hr;split at hv
   .rename_i q hq;injection hv with hv;subst hv;obtain⟨k1,k2⟩:=h.page (id:=id.toNat) (by omega) hq;have:=(jE k2.1).2.2.2.2.2;have:=h.lim;exact⟨by omega,k2,by omega⟩
   .cases hv
   .cases hv
end
structure zE5(D:zT):Prop where
 off:D.off=false
 lit:D.lit=false
 wait:D.waiting=[]
 lenL:D.lasting.length=D.blocks
 len:∀id,id<D.blocks->(D.look id).length=D.size
 b8:8<=D.blocks
 b256:D.blocks<=256
 s256:256<=D.size
 s1024:D.size<=1024
structure zFX(D:zT):Prop where
 off:D.off=false
 lit:D.lit=false
 wait:∀p∈D.waiting,p.1<D.blocks
 lenL:D.lasting.length=D.blocks
 len:∀id,id<D.blocks->(D.look id).length=D.size
theorem zE5.wet{D:zT}(h:zE5 D):zFX D:=⟨h.off,h.lit,λp hp=>by rw[h.wait] at hp;simp at hp,h.lenL,h.len⟩
theorem zFX.wrote{D:zT}(h:zFX D){i:Nat}{b:List UInt8}(hi:i<D.blocks)(hb:b.length=D.size):zFX (D.wrote i b):=by
 refine⟨h.off,h.lit,λp hp=>?_,h.lenL,λid hid=>?_⟩
 .rcases uN.1 hp with hp|hp
  .exact h.wait p hp
  .rw[tD.1 hp];exact hi
 .rw[zCE];split
  .exact hb
  .exact h.len id hid
theorem zFX.flushed{D:zT}(h:zFX D):zFX D.flushed/\D.flushed.waiting=[]/\∀id,D.flushed.look id=D.look id:=by
 have hk:=λid=>zKC h.lenL h.wait id
 refine⟨⟨h.off,h.lit,λp hp=>(by cases hp),(by show (settle _ _).length=_;rw[zCQ];exact h.lenL),λid hid=>?_⟩,rfl,hk⟩;rw[hk];exact h.len id hid
theorem zE5.last{D:zT}(h:zE5 D)(id:Nat):D.lasting.getD id []=D.look id:=by
 unfold zT.look;rw[h.wait];rfl
structure zJR(D:zT)(s:jM)(m:zBQ):Prop where
 dry:zE5 D
 blk:s.blocks=D.blocks
 siz:s.size=D.size
 ok:zC9 s=true
 gen:s.gen<18446744073709551615
 sup0:D.look 0=zAT s 0
 sup1:D.look 1=zAT s 1
 mok:zCA m=true
 mgen:m.gen=s.gen
 mblk:m.blocks=s.blocks
 map0:D.look (place s.gen 0)=qM m (place s.gen 0) D.size
 map1:D.look (place s.gen 1)=qM m (place s.gen 1) D.size
theorem zJR.open0{D:zT}{s:jM}{m:zBQ}(h:zJR D s m):zBB (D.look 0) 0=some s:=by rw[h.sup0];exact zI8 h.ok (by have:=h.gen;omega) (by omega)
theorem zJR.open1{D:zT}{s:jM}{m:zBQ}(h:zJR D s m):zBB (D.look 1) 1=some s:=by rw[h.sup1];exact zI8 h.ok (by have:=h.gen;omega) (by omega)
def zAH(D:zT):jM:=⟨1,D.blocks,D.size,0,0⟩
def zCj(D:zT):zBQ:=⟨1,D.blocks,[0,1,2,3,4,5]⟩
def zEa(D:zT):zT :=
 ((((((D.wrote 4 (qM (zCj D) 4 D.size)).wrote 5 (qM (zCj D) 5 D.size)).flushed).wrote 1 (zAT (zAH D) 1)).flushed).wrote 0 (zAT (zAH D) 0)).flushed
theorem zGU{D:zT}(h:zE5 D):zJR (zEa D) (zAH D) (zCj D)/\∀id,6<=id->(zEa D).look id=D.look id:=by
 have hb8:=h.b8;have hok:zC9 (zAH D)=true:=(zCF _).2 ⟨h.b8,h.b256,h.s256,h.s1024,by show 0<=2147483647;omega,.inl rfl,λ_=>rfl⟩;have hmk:zCA (zCj D)=true:=(zAN _).2 ⟨h.b8,h.b256,by show 6<=6;omega,rfl,by show ([0,1,2,3,4,5]:List Nat).Pairwise (· < ·);decide,λn hn=>by
  have:n<6:=by
   have hn':n∈([0,1,2,3,4,5]:List Nat):=hn;simp at hn';omega
  show n<D.blocks;omega⟩
 have l4:(qM (zCj D) 4 D.size).length=D.size:=zAU hmk 4 h.s256;have l5:(qM (zCj D) 5 D.size).length=D.size:=zAU hmk 5 h.s256;have l1:(zAT (zAH D) 1).length=D.size:=zBa hok 1;have l0:(zAT (zAH D) 0).length=D.size:=zBa hok 0;have w1:=h.wet.wrote (i:=4) (by omega) l4;have w2:=w1.wrote (i:=5) (b:=qM (zCj D) 5 D.size) (by show 5<D.blocks;omega) l5;obtain⟨w3,q3,k3⟩:=w2.flushed;have w4:=w3.wrote (i:=1) (b:=zAT (zAH D) 1) (by show 1<D.blocks;omega) l1;obtain⟨w5,q5,k5⟩:=w4.flushed;have w6:=w5.wrote (i:=0) (b:=zAT (zAH D) 0) (by show 0<D.blocks;omega) l0;obtain⟨w7,q7,k7⟩:=w6.flushed;have hk:∀id,(zEa D).look id=if 0=id then zAT (zAH D) 0 else if 1=id then zAT (zAH D) 1 else if 5=id then qM (zCj D) 5 D.size else if 4=id then qM (zCj D) 4 D.size else D.look id:=by
  intro id;show (zT.flushed _).look id=_;rw[k7,zCE,k5,zCE,k3,zCE,zCE]
 have hp0:place (zAH D).gen 0=4:=rfl;have hp1:place (zAH D).gen 1=5:=rfl;refine⟨⟨⟨w7.off,w7.lit,q7,w7.lenL,w7.len,h.b8,h.b256,h.s256,h.s1024⟩,rfl,rfl,hok,by show 1<18446744073709551615;omega,?_,?_,hmk,rfl,rfl,?_,?_⟩,λid hid=>?_⟩
 .rw[hk,if_pos rfl]
 .rw[hk,if_neg (by omega),if_pos rfl]
 .rw[hp0,hk,if_neg (by omega),if_neg (by omega),if_neg (by omega),if_pos rfl];rfl
 .rw[hp1,hk,if_neg (by omega),if_neg (by omega),if_pos rfl];rfl
 .rw[hk,if_neg (by omega),if_neg (by omega),if_neg (by omega),if_neg (by omega)]
def zDO(D:zT):GA:=⟨D.blocks,D.size,λid=>if id<D.blocks then some (yT (D.look id) id) else none,λid=>if id<D.blocks then some (D.look id) else none,λid=>if id<D.blocks then some (D.look id) else none,0⟩
theorem zO8{D:zT}(h:zE5 D)(q:Nat)(h3:3<=q)(h64:q<=64):vR ⟨D,List.replicate q qS,0⟩/\zB9 ⟨D,List.replicate q qS,0⟩ (zDO D):=by
 have si:∀{α:Type} {p:Prop} [Decidable p] {x y:α},(if p then some x else none)=some y->x=y:=λ{α p _ x y} h=>by
  by_cases hp:p
  .rw[if_pos hp] at h;exact Option.some.inj h
  .rw[if_neg hp] at h;cases h
 refine⟨zOi D q h3 h64 h.s256 h.s1024 h.b8 h.b256 h.lenL h.len h.off h.lit,zOk D q (zDO D) rfl rfl (λid r hr=>si hr) (λid b hb=>si hb) (λid b hb=>⟨?_,λp hp=>by rw[h.wait] at hp;simp at hp⟩) (by rw[h.wait];exact uJ 0)⟩;rw[h.last];exact si hb
def zAW(n:Nat)(used:List Nat):List Nat:=(List.range n).map λi=>if i∈used then 1 else 0
theorem zBg(n:Nat)(u:List Nat):(zAW n u).length=n:=by simp[zAW]
theorem zAX{n:Nat}(u:List Nat){i:Nat}(h:i<n):(zAW n u)[i]? = some (if i∈u then 1 else 0):=by
 simp[zAW,h]
theorem zNF{n i:Nat}{u:List Nat}(h2:2<=i)(hn:i<n)(hi:i ∉ u):zEO (zAW n u) (i:Int)=(zAW n (u++[i]),none):=by
 have hg:=zAX (n:=n) u hn;rw[if_neg hi] at hg;have hc:vL (zAW n u) (i:Int)=none:=by
  unfold vL;rw[zBg,if_neg (by omega)]
 unfold zEO;rw[hc];simp only;rw[uK,if_pos hg];congr 1
 refine List.ext_getElem? (λj=>?_);rw[p4];by_cases e:i=j
 .subst e;rw[if_pos rfl,if_pos (by rw[zBg];exact hn),zAX _ hn,if_pos (by simp)]
 .rw[if_neg e];by_cases hj:j<n
  .rw[zAX _ hj,zAX _ hj];congr 1
   have:j∈u++[i] ↔ j∈u:=by
    rw[uN,tD];exact⟨λh=>h.elim id (λh=>absurd h.symm e),.inl⟩
   by_cases hm:j∈u
   .rw[if_pos hm,if_pos (this.2 hm)]
   .rw[if_neg hm,if_neg (λh=>hm (this.1 h))]
  .rw[tI (by rw[zBg];omega),tI (by rw[zBg];omega)]
theorem zH3{F:NP}{ad:Nat->Addr}{w:World}(hL:yE F ad w)(m:zBQ)(hm:zCA m=true)(hg:m.gen<18446744073709551616)(uv:Value)(hu:Sl F w 1 yL uv (yP m))(i z:Nat)(hi:zBR m.gen i=true)(h1:256<=z)(h2:z<=1024) :
  Calls Tryz.prog 156 #[zCq m uv,.int .i64 (i:Int),.int .i64 (z:Int)] w λe w'=>∃a c,e=.returned (.tuple #[.slice a z c,.nilIface])/\yA F w' w.heap.size 5 1 zO (.slice a z c) (qM m i z)/\zG w w':=by
 obtain⟨o1,o2,o3,o4,o5,o6⟩:=(zAN m).1 hm;have hlen:m.used.length<=m.blocks:=zER m.used 0 m.blocks o5 (λn hn=>⟨tQ _,o6 n hn⟩) (tQ _);have hi6:i<6:=by
  unfold zBR at hi;simp only[pC,uR] at hi;unfold place at hi;omega
 have HU:Hid (∀w',zG w w'->Sl F w' 1 yL uv (yP m)):=oh (λw' k=>hu.ext k);have HL:Hid (∀w',zG w w'->yE F ad w'):=oh (λw' k=>hL.mods k.ext);have HF:Hid (∀w',zG w w'->Bd F w'):=oh (λw' k x hx=>(HL.out w' k).lt x hx);have HCK:Hid (∀w',zG w w' -> Calls Tryz.prog 233 #[zCq m uv] w' λe w''=>e=.returned .nilIface/\zG w' w''):=oh (λw' k=>zK6 m hm uv (HU.out w' k));have HBI:Hid (∀w',zG w w' -> Calls Tryz.prog 236 #[zCq m uv] w' λe w''=>∃v,e=.returned v/\Sl F w'' 1 zO v (zCf m.blocks m.used)/\(zCf m.blocks m.used).length=(m.blocks+7) / 8/\zG w' w''):=oh (λw' k=>zQV (HF.out w' k) m hm uv (HU.out w' k));have HON:Hid (∀w',Calls Tryz.prog 234 #[.int .u64 (m.gen:Int),.int .i64 (i:Int)] w' λe w''=>e=.returned (.bool true)/\zG w' w''):=oh (λw'=>(zN7 m.gen hg i (by omega) w').mono (λe w'' h=>⟨by rw[h.1,hi],h.2⟩));have HPC:=oh (zGw hm hi6 h1 h2);have HBY:Hid (zV 4 m.blocks++zV 4 m.used.length++zCf m.blocks m.used=qW m):=oh rfl;have HBK:Hid (zA5 (zCB m i) z=qM m i z):=oh rfl;have HPB:Hid ((zCB m i).body=qW m):=oh rfl;have HPG:Hid (∀v,Value.agg #[.int .i64 5,.int .i64 (i:Int),.int .u64 (m.gen:Int),v]=qF (zCB m i) v):=oh (λ_=>rfl);have HG2:Hid ((zCB m i).gen<18446744073709551616):=oh hg;have HML:=oh (zBC m);have hul:(yP m).length=m.used.length:=by unfold yP;rw[wP]
 obtain⟨ua,uc,rfl,i1,i2,i3, -⟩:=hu;unfold maxLen at i2;have HMV:Hid (zCq m (.slice ua (yP m).length uc)=.agg #[.int .u64 (m.gen:Int),.int .i64 (m.blocks:Int),.slice ua (yP m).length uc]):=oh rfl;rw[HMV.out];rw[hul] at HU HCK HBI HMV i1 i3 ⊢;obtain⟨g,hgg⟩:∃g,g=m.gen:=⟨_,rfl⟩;obtain⟨b,hb⟩:∃b,b=m.blocks:=⟨_,rfl⟩;obtain⟨n,hn⟩:∃n,n=m.used.length:=⟨_,rfl⟩;rw[<- hgg,<- hb,<- hn] at HMV ⊢;rw[<- hgg] at HON HPG hg;rw[<- hb,<- hn] at hlen HBY;rw[<- hb] at o1 o2;rw[<- hb] at HBI HML;rw[<- hn] at HBI HCK HU i1 i3 o3;clear hL hm hi o4 o5 o6 hul hgg hb hn;obtain⟨W0,hW0⟩:∃W0,W0=w.alloc (.cells #[.int .u64 (g:Int),.int .i64 (b:Int),.slice ua n uc] 173):=⟨_,rfl⟩;have hM0:zG w W0:=by rw[hW0];exact (zss w).alloc _
 have hB0:zK W0 w.heap.size #[.int .u64 (g:Int),.int .i64 (b:Int),.slice ua n uc] 173:=by rw[hW0];exact zK.new w _ _
 have HM0:=oh hM0;have HX0:=oh hB0;clear hM0 hB0
 go_enter Tryz.func156, Tryz.ntmps156
 go_wp2_with fail;rw[<- hW0,<- HMV.out];refine (HCK.out _ HM0.out).mono ?_;rintro e w1 ⟨rfl,m1⟩;have HM1:=oh (HM0.out.trans m1);have HX1:=oh (HX0.out.ext m1);clear m1 hW0;have x0:=HX1.out.k 0 rfl;go_wp2_with fail;refine (HON.out _).mono ?_;rintro e w2 ⟨rfl,m2⟩;have HM2:=oh (HM1.out.trans m2);have HX2:=oh (HX1.out.ext m2);clear m2 x0;have x1:=HX2.out.k 1 rfl;have e1:decide ((z:Int)<256)=false:=by simp;omega
 have e2:decide (1024<(z:Int))=false:=by simp;omega
 go_wp2_with fail;have PA:=zAt (HL.out _ HM2.out) (.slice none 0 0) [] (Sl.nil _ _ _ _) b 4 (by decide) (by show b<4294967296;omega) (by decide);simp only[uF,uV,wN] at PA;refine PA.mono ?_;rintro e w3 ⟨a3,c3,rfl,hO3,m3⟩;have HS3:=oh (hO3.sl (λ_=>rfl) (by rw[zC];decide));have HM3:=oh (HM2.out.trans m3);have HX3:=oh (HX2.out.ext m3);clear hO3 m3 x1 PA;have x2:=HX3.out.k 2 rfl;go_wp2_with fail;have PA:=zAt (HL.out _ HM3.out) _ (zV 4 b) HS3.out n 4 (by decide) (by show n<4294967296;omega) (by rw[zC];decide);rw[zC] at PA;refine PA.mono ?_;rintro e w4 ⟨a4,c4,rfl,hO4,m4⟩;have HO4:=oh hO4;have HM4:=oh (HM3.out.trans m4);have HX4:=oh (HX3.out.ext m4);have HM34:=oh m4;clear hO4 m4 x2 PA;obtain⟨X,hX⟩:∃X,X=w.heap.size:=⟨_,rfl⟩;have HSX:Hid (∀W,zG w3 W->W.cell? ⟨X,0,none⟩=some (.int .u64 (g:Int))/\W.cell? ⟨X,1,none⟩=some (.int .i64 (b:Int))/\W.cell? ⟨X,2,none⟩=some (.slice ua n uc)):=oh (λW k=>by rw[hX];exact⟨(HX3.out.ext k).cell rfl,(HX3.out.ext k).cell rfl,(HX3.out.ext k).cell rfl⟩);go_wp2_with fail;rw[<- hX];clear hX;refine wp_region_held_drew (S:=(λw'=>w'.cell? ⟨X,0,none⟩=some (.int .u64 (g:Int))/\w'.cell? ⟨X,1,none⟩=some (.int .i64 (b:Int))/\w'.cell? ⟨X,2,none⟩=some (.slice ua n uc))) (by kernel_rfl) (HSX.out _ HM34.out.drew) (λhHeld=>?_);obtain⟨Wd,hWd⟩:∃W,W=w4.drew:=⟨_,rfl⟩;rw[<- hWd] at hHeld ⊢;have xE:zG w4 Wd:=by rw[hWd];exact zr.drew
 have xWd:zG w3 Wd:=HM34.out.trans xE;clear hWd;refine tkH 0 ⟨some 56,_,_,_,_,_⟩ ?_;try go_frame
 refine tkH 1 ⟨some 57,_,_,_,_,_⟩ ?_;try go_frame
 refine tkH 2 ⟨some 58,_,_,_,_,_⟩ ?_;try go_frame
 refine tkH 3 ⟨some 59,_,_,_,_,_⟩ ?_;try go_frame
 refine tkH 4 ⟨some 60,_,_,_,_,_⟩ ?_;try go_frame
 refine tkH 8 ⟨some 64,_,_,_,_,_⟩ ?_;try go_frame
 refine wpAnyH_ready (rs:=[5]) (by kernel_rfl) (by simp) ?_;refine AllReadyH.cons (o:=⟨some 61,_,_,_,_,_⟩) rfl (λK hK=>?_) AllReadyH.nil;go_simp;go_at_call 236
 rw[<- HMV.out]
 (with_reducible refine (HBI.out _ (HM3.out.trans xWd)).mono ?_)
 rintro e W5 ⟨v5,rfl,s5,l5,m5⟩;have xW5:=xWd.trans m5;refine hK.out _ _ (by first|exact HSX.out _ xW5|go_keep) (λhHeld=>?_);clear hK;try go_frame
 refine wpAnyH_ready (rs:=[6]) (by kernel_rfl) (by simp) ?_;refine AllReadyH.cons (o:=⟨some 62,_,_,_,_,_⟩) rfl (λK hK=>?_) AllReadyH.nil;have hO5:=HO4.out.ext (xE.trans m5);refine zHq (F:=F) (G:=F) Tryz.elB yU (by rfl) (.tmp 59) (.tmp 61) (by rfl) w3.heap.size (.slice a4 (4+4) c4) v5 (zV 4 b++zV 4 n) (zCf b m.used) (by rfl) (by rfl) hO5 s5 (by rw[l5,uC,zC,zC];omega) xW5.size (λf=>pD _ ((HF.out _ (HM3.out.trans xW5)) _ f)) ?_;intro a6 c6 W6 hO6 hg6 hat6;have xW6:zG w3 W6:=zA.grown xW5 hg6 (λk hk=>.inl (hO5.lt k hk).1);have s6:=hO6.sl (λ_=>rfl) (by rw[uC,uC,l5,zC,zC];omega);rw[HBY.out,<- HPB.out] at s6;have S6:=oh s6;have zN:(zV 4 b++zV 4 n).length+(zCf b m.used).length=8+(b+7) / 8:=by rw[l5,uC,zC,zC]
 rw[zN] at S6 ⊢;refine hK.out _ _ (by first|exact HSX.out _ xW6|go_keep) (λhHeld=>?_);clear hK;try go_frame
 refine tkH 7 ⟨some 63,_,_,_,_,_⟩ ?_;try go_frame
 refine wpAnyH_ready (rs:=[9]) (by kernel_rfl) (by simp) ?_;refine AllReadyH.cons (o:=⟨some 65,_,_,_,_,_⟩) rfl (λK hK=>?_) AllReadyH.nil;go_simp;go_at_call 235
 rw[HPG.out]
 (with_reducible refine (zHS (HL.out _ (HM3.out.trans xW6)) (zCB m i) _ S6.out z HG2.out HPC.out).mono ?_)
 rintro e W9 ⟨a9,c9,rfl,hO9,m9⟩;have xW9:=xW6.trans m9;refine hK.out _ _ (by first|exact HSX.out _ xW9|go_keep) (λhHeld=>?_);clear hK;try go_frame
 refine tkH 10 ⟨some 55,_,_,_,_,_⟩ ?_;try go_frame
 refine tkH 11 ⟨some 66,_,_,_,_,_⟩ ?_;try go_frame
 refine tkH 12 ⟨some 67,_,_,_,_,_⟩ ?_;try go_frame
 refine tkH 13 ⟨some 11,_,_,_,_,_⟩ ?_;try go_frame
 refine tkH 14 ⟨some 10,_,_,_,_,_⟩ ?_;try go_frame
 refine wpAnyH_done (by kernel_rfl) ?_ _;have HO9:=oh (hO9.rebase (HM3.out.trans xW6).size);have HM9:=oh (HM3.out.trans xW9);clear hO9 m9 xW9 xW6 xW5 xWd xE m5 s5 l5 hO5 hO6 hg6 hat6 s6 zN;go_wp2_with fail;refine (wrap_nil _ _).mono ?_;rintro e w5 ⟨rfl,rfl⟩;go_wp2_with fail;go_ret2
 exact⟨a9,c9,rfl,by rw[<- HBK.out];exact HO9.out,HM9.out⟩
end
section
open Go.RowKit
attribute [local go_sem ↓] Go.wp_at_zero Go.wp_at_succ
def zFz(b:List UInt8)(i:Nat):Bool:=decide (8+i / 8<b.length) && (b.getD (8+i / 8) 0).toNat.testBit (i % 8)
def zF0(b:List UInt8)(k:Nat):List Int:=((List.range k).filter (λi=>zFz b i)).map (λ(i:Nat)=>(i:Int))
theorem zNG(b:List UInt8)(k:Nat):zF0 b (k+1)=zF0 b k++if zFz b k=true then [(k:Int)] else []:=by
 unfold zF0;rw[List.range_succ,List.filter_append,pS];congr 1
 by_cases h:zFz b k=true
 .rw[if_pos h,List.filter_cons_of_pos (p:=λi=>zFz b i) h];rfl
 .rw[if_neg h,List.filter_cons_of_neg (p:=λi=>zFz b i) h];rfl
theorem zJS(b:List UInt8)(k:Nat):(zF0 b k).length<=k:=by
 unfold zF0;rw[wP];exact uT (List.length_filter_le _ _) (by simp)
theorem zRr(y r:Nat):y.testBit r=decide (y / 2 ^ r % 2=1):=by
 rw[Nat.testBit_eq_decide_div_mod_eq]
theorem zTY(y r:Nat)(hy:y<256):bits .and .u8 ((y:Int) / 2 ^ r) 1=((y / 2 ^ r % 2:Nat):Int):=by
 have h:=u8_and_nat (y / 2 ^ r) 1 (Nat.lt_of_le_of_lt (Nat.div_le_self _ _) hy) (by decide);rw[nat_mask1] at h;rw[<- h,Int.natCast_ediv,Int.natCast_pow];rfl
theorem Tryz.elI5:ElT Tryz.prog 78 3 (.int .i64 0) 1 8:=⟨Tryz.underlying78,by kernel_rfl,rfl,by decide,by decide⟩
theorem Tryz.mapSize:(Tryz.prog.info? 173).map (·.size)=some 3:=by kernel_rfl
theorem zLV{F:NP}{ad:Nat->Addr}{w:World}(hL:yE F ad w)(p:yF)(bv:Value)(hb:Sl F w 1 zO bv p.body)(h1:4<=p.body.length)(h2:zZ p.body 0 4<=256)(h3:p.body.length<=100000)(_hg:p.gen<18446744073709551616) :
  Calls Tryz.prog 296 #[qF p bv] w λe w'=>∃uv,e=.returned (zCq (zGx p) uv)/\yA (λ_=>False) w' w.heap.size 3 1 yL uv (yP (zGx p))/\(yP (zGx p)).length<=256/\zG w w':=by
 have HB:Hid (∀w',zG w w'->Sl F w' 1 zO bv p.body):=oh (λw' m=>hb.ext m);have HL:Hid (∀w',zG w w'->yE F ad w'):=oh (λw' m=>hL.mods m.ext);clear hL;have HT:Hid (yO p.body ((0:Nat):Int) 4=(zZ p.body 0 4,none)):=oh (zDq _ _ _ (by omega));have HSM:=oh (zI9 p h1 h2);have HUI:Hid (yP (zGx p)=zF0 p.body (zZ p.body 0 4)):=oh (by rw[HSM.out];rfl);have HMV:Hid (∀uv,zCq (zGx p) uv=.agg #[.int .u64 (p.gen:Int),.int .i64 (zZ p.body 0 4:Int),uv]):=oh (λuv=>by rw[HSM.out];rfl);obtain⟨pa,pc,rfl,i1,i2,i3, -⟩:=hb;unfold maxLen at i2;have HP:Hid (∀bv,qF p bv=.agg #[.int .i64 p.kind,.int .i64 p.id,.int .u64 (p.gen:Int),bv]):=oh (λbv=>rfl);rw[HP.out];obtain⟨bl,hbl⟩:∃n,n=p.body.length:=⟨_,rfl⟩;obtain⟨K,hK⟩:∃I,I=p.kind:=⟨_,rfl⟩;obtain⟨I,hI⟩:∃I,I=p.id:=⟨_,rfl⟩;obtain⟨g,hgg⟩:∃g,g=p.gen:=⟨_,rfl⟩;obtain⟨n,hn⟩:∃n,n=zZ p.body 0 4:=⟨_,rfl⟩;have HBL:=oh hbl;rw[<- hbl,<- hK,<- hI,<- hgg];rw[<- hbl] at HB h1 h3 i1 i3;rw[<- hgg] at HMV;rw[<- hn] at HT HUI HMV h2;clear hbl hK hI hgg hn HP HSM;obtain⟨W0,hW0⟩:∃W0,W0=(w.alloc (.cells #[.int .i64 K,.int .i64 I,.int .u64 (g:Int),.slice pa bl pc] 272)).alloc (.cells #[.int .u64 0,.int .i64 0,.slice none 0 0] 173):=⟨_,rfl⟩;have hM0:zG w W0:=by rw[hW0];exact ((zss w).alloc _).alloc _
 have hBX:zK W0 w.heap.size #[.int .i64 K,.int .i64 I,.int .u64 (g:Int),.slice pa bl pc] 272:=by rw[hW0];exact (zK.new w _ _).alloc _
 have hBR:zK W0 (w.heap.size+1) #[.int .u64 0,.int .i64 0,.slice none 0 0] 173:=by rw[hW0];exact zM (by simp)
 have hsz:W0.heap.size=w.heap.size+2:=by rw[hW0];simp
 have TA:=zDr (HL.out _ hM0) _ p.body (HB.out _ hM0) 0 4 n (by decide) HT.out;rw[show ((0:Nat):Int)=0 from rfl,show ((4:Nat):Int)=4 from rfl] at TA;have TA:=oh TA;have HM0:=oh hM0;have HX0:=oh hBX;have HR0:=oh hBR;clear hM0 hBX hBR
 go_enter Tryz.func296, Tryz.ntmps296
 go_wp2_with fail;rw[<- hW0];refine TA.out.mono ?_;rintro e w1 ⟨rfl,m1⟩;have hX1:=HX0.out.ext m1;have hR1:=HR0.out.ext m1;have hM1:=HM0.out.trans m1;have hs1:w.heap.size+2<=w1.heap.size:=by have:=m1.size;omega
 have x2:=hX1.k 2 rfl;have HX1:=oh hX1;have HR1:=oh hR1;have HM1:=oh hM1;have hgt:¬ (256:Int)<(n:Int):=by omega
 clear hX1 hR1 hM1 m1 hW0 TA;go_wp2_with fail;obtain⟨W2,hW2⟩:∃W,W=w1.alloc (.cells #[.int .u64 (g:Int),.int .i64 (n:Int),.slice none 0 0] 173):=⟨_,rfl⟩;have m2:zG w1 W2:=by rw[hW2];exact (zss w1).alloc _
 have hY2:zK W2 w1.heap.size #[.int .u64 (g:Int),.int .i64 (n:Int),.slice none 0 0] 173:=by rw[hW2];exact zK.new w1 _ _
 have hs2:W2.heap.size=w1.heap.size+1:=by rw[hW2];simp
 rw[<- hW2];obtain⟨Y,hY⟩:∃Y,Y=w1.heap.size:=⟨_,rfl⟩;rw[<- hY] at hY2 hs1 hs2 ⊢;have HX2:=oh (HX1.out.ext m2);have HR2:=oh (HR1.out.ext m2);have HM2:=oh (HM1.out.trans m2);have HY2:=oh hY2;have hXY:w.heap.size<Y:=by omega
 have hRY:w.heap.size+1<Y:=by omega
 have HXY:=oh hXY;have HS2:=oh hs2;have HS1:=oh hs1;clear hW2 m2 hY2 hY x2 HX1 HR1 HM1 HX0 HR0 HM0 hsz hs2;go_loopg [28] n (λr v28 wr=>∃(k:Nat) (uv:Value),k+r=n/\v28=.int .i64 k/\Hid (zG w wr/\zK wr w.heap.size #[.int .i64 K,.int .i64 I,.int .u64 (g:Int),.slice pa bl pc] 272 /\ zK wr (w.heap.size+1) #[.int .u64 0,.int .i64 0,.slice none 0 0] 173 /\ zK wr Y #[.int .u64 (g:Int),.int .i64 (n:Int),uv] 173 /\ yA (λ_=>False) wr (Y+1) 3 1 yL uv (zF0 p.body k)))
 case atStart=>exact⟨0,_,by omega,rfl,oh ⟨HM2.out,HX2.out,HR2.out,HY2.out,yA.nil _ _ _ _ _ _⟩⟩
 case round =>
  clear HX2 HR2 HM2 HY2;obtain⟨k,uv,hk,rfl,HW⟩:=hrel;obtain⟨hM,hX,hR,hY,hO⟩:=HW.out;have y2:=hY.k 2 rfl;have x3:=hX.k 3 rfl;have yf:=hY.frozen;have hz:=hY.lt;obtain⟨ua,uc,huv, -, -⟩:=_root_.id hO.form;obtain⟨ul,hul⟩:∃ul,ul=(zF0 p.body k).length:=⟨_,rfl⟩;have HUL:=oh hul;have hulk:ul<=k:=by rw[hul];exact zJS _ _
  rw[<- hul] at huv;have HU:=oh (zNG p.body k);by_cases hlt:k<n
  .obtain⟨q,hq⟩:∃q,q=k / 8:=⟨_,rfl⟩;obtain⟨r,hr⟩:∃r,r=k % 8:=⟨_,rfl⟩;have t1:(k:Int) / 8=(q:Int):=by omega
   have t2:(k:Int).tdiv 8=(q:Int):=by rw[rN (by omega)];exact t1
   have t3:(k:Int) % 8=(r:Int):=by omega
   have t4:(k:Int).tmod 8=(r:Int):=by rw[rA (by omega)];exact t3
   have hr8:r<8:=by omega
   have HBI:Hid (zFz p.body k=(decide (8+q<bl) && (p.body.getD (8+q) 0).toNat.testBit r)):=oh (by unfold zFz;rw[<- hq,<- hr,<- HBL.out]);by_cases hin:8+q<bl
   .have hinI:8+(q:Int)<(bl:Int):=by omega
    have i8:(0:Int)<=8+(q:Int):=by omega
    obtain⟨y,hy⟩:∃y,p.body[8+q]? = some y:=⟨_,uA (by rw[<- HBL.out];exact hin)⟩;have hyD:p.body.getD (8+q) 0=y:=by simp[List.getD,hy]
    obtain⟨qb,qoff,hqa,hc⟩:=(HB.out _ hM).elemF (k:=8+q) (by rw[<- HBL.out];exact hin);have d0:=hc.2 0 (.int .u8 (y.toNat:Int)) (by
     obtain⟨e1,e2⟩:=uB.1 hy;rw[e2];rfl)
    simp only[uO,uY] at d0;have hy8:=y.toNat_lt;have ha1:=zTY y.toNat r hy8;obtain⟨bz,hbz⟩:∃z,z=y.toNat / 2 ^ r % 2:=⟨_,rfl⟩;have hbz2:bz=0\/bz=1:=by omega
    rw[<- hbz] at ha1;have HBT:Hid (zFz p.body k=decide (bz=1)):=oh (by rw[HBI.out,hyD,zRr,<- hbz];simp[hin]);subst hqa;clear hc hyD hy hq hr hbz HBI;rcases hbz2 with rfl|rfl
    .go_wp2_with fail;go_roundg (gk-1)
     case measure=>omega
     case rel=>exact⟨k+1,uv,by omega,by go_num,oh (by rw[HU.out,if_neg (by rw[HBT.out];simp),wJ];exact HW.out)⟩
    .subst huv;have HOW:=oh (hO.ext ((zss wr).alloc (.cells #[.int .i64 (k:Int)] 3)));have HOL:=oh hO.lt;have hsz:Y+1<=wr.heap.size:=by omega
     have HSZ:=oh hsz;clear hO hul;go_wp2_with (first
      | (at_builtin;refine yC Tryz.elI5 jR rfl _ _ rfl (Y+1) (.slice ua ul uc) (.slice (some ⟨wr.heap.size,0,none⟩) 1 1) (zF0 p.body k) [(k:Int)] rfl rfl HOW.out (Sl.one (F:=λ_=>False) (x:=(k:Int)) (t := 3) (fz:=(0,0)) (zM rfl) (λf=>f)) (by rw[<- HUL.out];simp only[uD,uF];omega) (uT HSZ.out (by simp)) (λf=>f) ?_;intro a' c' w4 hown4 hmod4 hat4;rw[<- HUL.out] at hown4 ⊢;simp only[uD,uF,uV] at hown4 ⊢;have HO4:=oh hown4;have HM4:=oh (zA.mono hmod4 (λj hj=>(HOL.out j hj).1));clear hown4 hmod4 hat4;have hY4:=(((HW.out.2.2.2.1).alloc (.cells #[.int .i64 (k:Int)] 3)).mods HM4.out (by omega));have y4:=hY4.d 2 (.slice ua ul uc) rfl;have yf4:=hY4.frozen;have HY4:=oh hY4;clear hY4)
      | fail)
     go_roundg (gk-1)
     case measure=>omega
     case rel =>
      have HMS:zA (λj=>j=Y) w4 (w4.setCell ⟨Y,2,none⟩ (.slice a' (ul+1) c')):=zA.setCell (F:=λj=>j=Y) (zss w4) (p:=⟨Y,2,none⟩) (.inr rfl) _;refine⟨k+1,.slice a' (ul+1) c',by omega,by go_num,oh ⟨?_,?_,?_,?_,?_⟩⟩
      .exact ((HW.out.1.alloc _).trans' HM4.out (λi hi h=>by have h':Y+1<=i:=h;have:=HXY.out;omega)).setCell (.inl (show w.heap.size<=Y by omega)) _
      .exact ((HW.out.2.1.alloc _).mods HM4.out (by omega)).set_other (by simp;omega) _
      .exact ((HW.out.2.2.1.alloc _).mods HM4.out (by omega)).set_other (by simp;omega) _
      .simpa using HY4.out.set 2 (.slice a' (ul+1) c')
      .rw[HU.out,if_pos (by rw[HBT.out];simp)];exact HO4.out.mods HMS (λj hj h=>by have:=(HO4.out.lt j hj).1;omega)
   .have hinI:¬ 8+(q:Int)<(bl:Int):=by omega
    have HBT:Hid (zFz p.body k=false):=oh (by rw[HBI.out];simp[hin]);clear hq hr HBI;go_wp2_with fail;go_roundg (gk-1)
    case measure=>omega
    case rel=>exact⟨k+1,uv,by omega,by go_num,oh (by rw[HU.out,if_neg (by rw[HBT.out];simp),wJ];exact HW.out)⟩
  .obtain rfl:k=n:=by omega
   subst huv;have y0:=hY.k 0 rfl;have y1:=hY.k 1 rfl;have r0:=hR.k 0 rfl;have r1:=hR.k 1 rfl;have r2:=hR.k 2 rfl;have rf:=hR.frozen;clear hO hM hX x3 hul;go_wp2_with fail;have HRB:Hid (zK (((wr.setCell ⟨w.heap.size+1,0,none⟩ (.int .u64 (g:Int))).setCell ⟨w.heap.size+1,1,none⟩ (.int .i64 (k:Int))).setCell ⟨w.heap.size+1,2,none⟩ (.slice ua ul uc)) (w.heap.size+1) #[.int .u64 (g:Int),.int .i64 (k:Int),.slice ua ul uc] 173):=oh (by simpa using ((hR.set 0 (.int .u64 (g:Int))).set 1 (.int .i64 (k:Int))).set 2 (.slice ua ul uc));have hMR:zA (λj=>j=w.heap.size+1) wr (((wr.setCell ⟨w.heap.size+1,0,none⟩ (.int .u64 (g:Int))).setCell ⟨w.heap.size+1,1,none⟩ (.int .i64 (k:Int))).setCell ⟨w.heap.size+1,2,none⟩ (.slice ua ul uc)):=zA.setCell (F:=λj=>j=w.heap.size+1) (zA.setCell (F:=λj=>j=w.heap.size+1) (zA.setCell (F:=λj=>j=w.heap.size+1) (zss wr) (p:=⟨w.heap.size+1,0,none⟩) (.inr rfl) _) (p:=⟨w.heap.size+1,1,none⟩) (.inr rfl) _) (p:=⟨w.heap.size+1,2,none⟩) (.inr rfl) _;have HMR:=oh hMR;refine bodyPost_ret (results_cell_row rfl _ _ (w.heap.size+1) 173 #[.int .u64 (g:Int),.int .i64 (k:Int),.slice ua ul uc] (0,0) _ rfl HRB.out Tryz.underlying173 rfl Tryz.mapSize) rfl ?_;have hO:=HW.out.2.2.2.2;refine⟨.slice ua ul uc,by rw[HMV.out],?_,by rw[HUI.out];have:=zJS p.body k;omega,HW.out.1.trans' HMR.out (λi hi h=>by omega)⟩;rw[HUI.out];exact (hO.mods HMR.out (λj hj h=>by have:=(hO.lt j hj).1;omega)).rebase (by omega)
end
section
open Go.RowKit
def jS(l:List Nat)(id:Int):Bool:=decide (0<=id) && decide (l[id.toNat]? = some 2)
theorem zO9(w:World)(b b2:Nat)(l:List Nat)(h:SpR w b b2 l)(id:Int) :
  Calls Tryz.prog 342 #[.pointer (some ⟨b,0,none⟩),.int .i64 id] w λe w'=>e=.returned (.bool (jS l id))/\w=w':=by
 have c0:=h.own.d 0 (.slice (some ⟨b2,0,none⟩) l.length l.length) rfl;have hl:=h.len;have hl2:=h.len2;by_cases h0:0<=id
 .obtain⟨i,rfl⟩:∃i:Nat,id=i:=⟨id.toNat,by omega⟩;by_cases h1:i<l.length
  .obtain⟨x,hx⟩:∃x,l[i]? = some x:=⟨_,uA h1⟩;have c1:=h.row.cell (zDn l i x hx);have HR:Hid (jS l (i:Int)=decide (x=2)):=oh (by
    unfold jS;rw[uU (by omega),uK,hx];simp)
   have h2:(i:Int)<(l.length:Int):=by omega
   clear h hx h0 h1;by_cases hx2:x=2
   .subst hx2
    go_enter Tryz.func342, Tryz.ntmps342
    go_wp2
    go_ret;exact⟨by rw[HR.out];rfl,rfl⟩
   .rw[uX hx2] at HR;have hx3:¬ (x:Int)=2:=by omega
    clear hx2
    go_enter Tryz.func342, Tryz.ntmps342
    go_wp2
    go_ret;exact⟨by rw[HR.out];simp[hx3],rfl⟩
  .have HR:Hid (jS l (i:Int)=false):=oh (by
    unfold jS;rw[uK,List.getElem?_eq_none_iff.2 (by omega)];simp)
   have h2:¬ (i:Int)<(l.length:Int):=by omega
   clear h h0 h1
   go_enter Tryz.func342, Tryz.ntmps342
   go_wp2
   go_ret;exact⟨by rw[HR.out];rfl,rfl⟩
 .have HR:Hid (jS l id=false):=oh (by unfold jS;rw[uX h0];rfl);clear h
  go_enter Tryz.func342, Tryz.ntmps342
  go_wp2
  go_ret;exact⟨by rw[HR.out];rfl,rfl⟩
section
variable {P F:NP}{w:World}{c s:Nat}{G:GA}{l:List Nat}
theorem zRs(h:vJ F w P c s G l)(id:Int) : Calls Tryz.prog 342 #[.pointer (some ⟨s,0,none⟩),.int .i64 id] w λe w'=>e=.returned (.bool (jS l id))/\w=w':=by
 obtain⟨d,sb,bvs,Pd,b2,C,h1,h2,h3,h4,h5,h6,h7⟩:=h;exact zO9 w s b2 l h5 id
end
abbrev e0:ByteArray:=⟨#[]⟩
def zF1(acc:List zE)(x:zE):List zE:=if qP x.1=true/\x.2.size<=4096 then yM x.1 x.2 false acc else acc
def zAM(l:List zE):List zE:=l.foldl zF1 []
theorem zLW(l:List zE)(x:zE):zAM (l++[x])=zF1 (zAM l) x:=by
 unfold zAM;rw[pZ];rfl
theorem zGV(key value:ByteArray)(over:Bool):∀l:List zE,(yM key value over l).length<=l.length+1
 | []=>by simp[yM]
 | x :: l=>by
  have:=zGV key value over l;unfold yM;split
  .simp only[uD];omega
  .split
   .split <;> simp
   .simp
theorem zRt{acc:List zE}{x:zE}(h1:yK acc)(h2:zDF acc):yK (zF1 acc x)/\zDF (zF1 acc x)/\(zF1 acc x).length<=acc.length+1:=by
 unfold zF1;split
 .rename_i hc;refine⟨zBP h1,λy hy=>?_,zGV _ _ _ _⟩;rcases zEt hy with rfl|hy
  .exact hc
  .exact h2 y hy
 .exact⟨h1,h2,by omega⟩
theorem zLX:∀(l acc:List zE),yK acc->zDF acc->yK (l.foldl zF1 acc)/\zDF (l.foldl zF1 acc)/\(l.foldl zF1 acc).length<=acc.length+l.length
 | [],acc,h1,h2=>⟨h1,h2,by simp⟩
 | x :: l,acc,h1,h2=>by
  obtain⟨k1,k2,k3⟩:=zRt (x:=x) h1 h2;obtain⟨j1,j2,j3⟩:=zLX l (zF1 acc x) k1 k2;exact⟨j1,j2,by simp only[uD] at j3 ⊢;rw[nQ];omega⟩
theorem zGW(l:List zE):yK (zAM l)/\zDF (zAM l)/\(zAM l).length<=l.length:=by
 obtain⟨h1,h2,h3⟩:=zLX l [] List.Pairwise.nil (λx h=>by simp at h);exact⟨h1,h2,by simpa[zAM] using h3⟩
def zPA(n:Nat)(v:ByteArray):ByteArray:=v.extract 0 (min v.size n)
theorem zJT(n:Nat)(v:ByteArray):(zPA n v).size=min v.size n:=by unfold zPA;rw[ByteArray.size_extract];omega
def zFY(n:Nat)(l:List zE):List zE:=l.map λx=>(x.1,zPA n x.2)
theorem zRu{n:Nat}{l:List zE}(h1:yK l)(h2:zDF l):yK (zFY n l)/\zDF (zFY n l)/\(zFY n l).length=l.length/\∀x∈zFY n l,x.2.size<=n:=by
 refine⟨?_,λx hx=>?_,by simp[zFY],λx hx=>?_⟩
 .unfold yK zFY;rw[tK];exact h1
 .obtain⟨y,hy,rfl⟩:=rK.1 hx;have:=h2 y hy;exact⟨this.1,by simp only;rw[zJT];omega⟩
 .obtain⟨y,hy,rfl⟩:=rK.1 hx;simp only;rw[zJT];omega
end
end Go.Proofs.YtgphfebjjedeaaaGreatDoor
