import Derived.Test.YtchklfmggpconaaGreatDoorK45
namespace Go.Proofs.YtchklfmggpconaaGreatDoor
open Lib renaming hid->oh
set_option maxHeartbeats 4000000
set_option maxRecDepth 100000
open Go.RowKit
attribute [local go_sem ↓] Go.wp_at_zero Go.wp_at_succ
section
variable {F P P' F' P1 F1:Nat->Prop}{ad:Nat->Addr}{w w' w0 w1:World}{base c s gen kb:Nat}{root:Int}{G G':GA}{l l':List Nat}{sv sv':Value}{st st':List vZ}{x:vZ}
def zRo(F P:Nat->Prop)(ad:Nat->Addr)(w:World)(c s gen:Nat)(root:Int)(G:GA)(l:List Nat)(e:Ending)(w':World):Prop :=
 ∃kb base F',e=.returned (.tuple #[.pointer (some ⟨kb,0,none⟩),.nilIface])/\CuI F' P ad w' base c s gen kb root G l (.slice none 0 0) []/\zR P (cuQ P kb (.slice none 0 0)) F F' ad w w'
theorem zQ6(hL:yW F ad w)(hP:∀k,P k->F k)(h:yS F w P c s G l)(gen:Nat)(root:Int) :
  Calls Tryz.prog 72 #[qR c s gen,.int .i64 root] w (zRo F P ad w c s gen root G l):=by
 have m0:zJ w (w.alloc (gP c s gen)):=(zA.refl _ w).alloc _;have HN0:=oh (zR.ext hL hP m0);have HS:=oh (CuI.start HN0.out.env hP (h.at m0) gen root);clear hL hP h m0;unfold qR
 go_enter Tryz.func72, Tryz.ntmps72
 go_wp2_with fail;refine bodyPost_ret (v:=.tuple #[.pointer (some ⟨w.heap.size+1,0,none⟩),.nilIface]) (by simp[results,Tryz.results72,go_sem]) rfl ?_;have hz:(w.alloc (gP c s gen)).heap.size=w.heap.size+1:=by simp
 have h1:=HS.out.1;have h2:=HN0.out.trans HS.out.2;rw[hz] at h1 h2;exact⟨_,_,_,rfl,h1,h2⟩
end
section
variable {F P P' F' P1 F1:Nat->Prop}{ad:Nat->Addr}{w w' w0 w1:World}{base c s gen kb:Nat}{root:Int}{G G':GA}{l l':List Nat}{sv sv':Value}{st st':List vZ}{x:vZ}
def zG3(a b:ByteArray)(most:Int):Bool:=zB2 a && zB2 b && decide (0<=most) && decide (most<=65535)
def zR9(F P:Nat->Prop)(ad:Nat->Addr)(w:World)(c s gen:Nat)(root:Int)(G:GA)(l:List Nat)(ok:Bool)(e:Ending)(w':World):Prop :=
 (ok=true/\zRo F P ad w c s gen root G l e w')\/(ok=false/\∃b F',e=.returned (.tuple #[.pointer none,zQ b])/\yS F' w' P c s G l/\zR P P F F' ad w w'/\qQ F' ad w' (zQ b) [-1] 2)
theorem zQZ(hL:yW F ad w)(hP:∀k,P k->F k)(h:yS F w P c s G l)(gen:Nat)(root:Int)(op from_ to_:ByteArray)(most:Int) :
  Calls Tryz.prog 83 #[.string op,qR c s gen,.int .i64 root,.string from_,.string to_,.int .i64 most] w (zR9 F P ad w c s gen root G l (zG3 from_ to_ most)):=by
 have m0:zJ w (w.alloc (gP c s gen)):=(zA.refl _ w).alloc _;have HN0:=oh (zR.ext hL hP m0);have HNW:=oh (zQ6 HN0.out.env hP (h.at m0) gen root);have HB1:=oh (zGX from_);have HB2:=oh (zGX to_);clear hL hP h m0;unfold qR at HNW ⊢
 go_enter Tryz.func83, Tryz.ntmps83
 go_wp2_with fail;refine (HNW.out).mono ?_;rintro e w1 ⟨kb,base,F1,rfl,h1,n1⟩;have H1:=oh h1;have N1:=oh (HN0.out.trans n1);have c2:=h1.env.c2;clear h1 n1;obtain⟨q1,hq1⟩:∃q,zB2 from_=q:=⟨_,rfl⟩;obtain⟨q2,hq2⟩:∃q,zB2 to_=q:=⟨_,rfl⟩;obtain⟨q3,hq3⟩:∃q,decide (most<0)=q:=⟨_,rfl⟩;obtain⟨q4,hq4⟩:∃q,decide (most > 65535)=q:=⟨_,rfl⟩;rw[hq1] at HB1;rw[hq2] at HB2;have HA:Hid (zG3 from_ to_ most=(q1 && q2 && !q3 && !q4)):=oh (by
  unfold zG3;rw[hq1,hq2,<- hq3,<- hq4];congr 1
  .congr 1
   by_cases h:most<0
   .rw[wC h,uX (by omega)];rfl
   .rw[uX h,wC (by omega)];rfl
  .by_cases h:most > 65535
   .rw[wC h,uX (by omega)];rfl
   .rw[uX h,wC (by omega)];rfl)
 clear hq1 hq2;cases q1 with
 | false =>
  have HV:Hid (zG3 from_ to_ most=false):=oh (by rw[HA.out];rfl);go_wp2_with fail;refine (HB1.out _).mono ?_;rintro e w2 ⟨rfl,rfl⟩;go_wp2_with fail;refine (qG H1.out.env _ _ [] 2 (.sent 2 (by decide) (by decide))).mono ?_;rintro e w2 ⟨b,rfl,hE,hm⟩;have HE:=oh hE;have H2:=oh (H1.out.ext hm);clear hE hm;go_wp2_with fail;refine bodyPost_ret (v:=.tuple #[.pointer none,zQ b]) (by simp[results,Tryz.results83,go_sem]) rfl ?_;rw[HV.out];exact .inr ⟨rfl,b,F1,rfl,H2.out.1.pg,(N1.out.trans H2.out.2).shrink (λk hk=>.inl hk),HE.out⟩
 | true =>
  cases q2 with
  | false =>
   have HV:Hid (zG3 from_ to_ most=false):=oh (by rw[HA.out];rfl);go_wp2_with fail;refine (HB1.out _).mono ?_;rintro e w2 ⟨rfl,rfl⟩;go_wp2_with fail;refine (HB2.out _).mono ?_;rintro e w2 ⟨rfl,rfl⟩;go_wp2_with fail;refine (qG H1.out.env _ _ [] 2 (.sent 2 (by decide) (by decide))).mono ?_;rintro e w2 ⟨b,rfl,hE,hm⟩;have HE:=oh hE;have H2:=oh (H1.out.ext hm);clear hE hm;go_wp2_with fail;refine bodyPost_ret (v:=.tuple #[.pointer none,zQ b]) (by simp[results,Tryz.results83,go_sem]) rfl ?_;rw[HV.out];exact .inr ⟨rfl,b,F1,rfl,H2.out.1.pg,(N1.out.trans H2.out.2).shrink (λk hk=>.inl hk),HE.out⟩
  | true =>
   cases q3 with
   | true =>
    have HV:Hid (zG3 from_ to_ most=false):=oh (by rw[HA.out];rfl);have h3:=rU hq3;clear hq3 hq4;go_wp2_with fail;refine (HB1.out _).mono ?_;rintro e w2 ⟨rfl,rfl⟩;go_wp2_with fail;refine (HB2.out _).mono ?_;rintro e w2 ⟨rfl,rfl⟩;go_wp2_with fail;refine (qG H1.out.env _ _ [] 2 (.sent 2 (by decide) (by decide))).mono ?_;rintro e w2 ⟨b,rfl,hE,hm⟩;have HE:=oh hE;have H2:=oh (H1.out.ext hm);clear hE hm;go_wp2_with fail;refine bodyPost_ret (v:=.tuple #[.pointer none,zQ b]) (by simp[results,Tryz.results83,go_sem]) rfl ?_;rw[HV.out];exact .inr ⟨rfl,b,F1,rfl,H2.out.1.pg,(N1.out.trans H2.out.2).shrink (λk hk=>.inl hk),HE.out⟩
   | false =>
    have h3:=of_decide_eq_false hq3;cases q4 with
    | true =>
     have HV:Hid (zG3 from_ to_ most=false):=oh (by rw[HA.out];rfl);have h4:=rU hq4;clear hq3 hq4;go_wp2_with fail;refine (HB1.out _).mono ?_;rintro e w2 ⟨rfl,rfl⟩;go_wp2_with fail;refine (HB2.out _).mono ?_;rintro e w2 ⟨rfl,rfl⟩;go_wp2_with fail;refine (qG H1.out.env _ _ [] 2 (.sent 2 (by decide) (by decide))).mono ?_;rintro e w2 ⟨b,rfl,hE,hm⟩;have HE:=oh hE;have H2:=oh (H1.out.ext hm);clear hE hm;go_wp2_with fail;refine bodyPost_ret (v:=.tuple #[.pointer none,zQ b]) (by simp[results,Tryz.results83,go_sem]) rfl ?_;rw[HV.out];exact .inr ⟨rfl,b,F1,rfl,H2.out.1.pg,(N1.out.trans H2.out.2).shrink (λk hk=>.inl hk),HE.out⟩
    | false =>
     have HV:Hid (zG3 from_ to_ most=true):=oh (by rw[HA.out];rfl);have h4:=of_decide_eq_false hq4;clear hq3 hq4;go_wp2_with fail;refine (HB1.out _).mono ?_;rintro e w2 ⟨rfl,rfl⟩;go_wp2_with fail;refine (HB2.out _).mono ?_;rintro e w2 ⟨rfl,rfl⟩;go_wp2_with fail;refine bodyPost_ret (v:=.tuple #[.pointer (some ⟨kb,0,none⟩),.nilIface]) (by simp[results,Tryz.results83,go_sem]) rfl ?_;rw[HV.out];exact .inl ⟨rfl,kb,base,F1,rfl,H1.out,N1.out⟩
end
section
variable {F:Nat->Prop}{w w':World}
def onI(n:Nat)(i:Int):Bool:=decide (0<=i/\i<(n:Int))
def zLy(n:Nat)(i by_:Int):Int:=if onI n i=true then i+by_ else -1
end
section
variable {ad:Nat->Addr}{w0 w w':World}{kb root D:Nat}{G:GA}{L:List zE}{i:Int}
theorem zDI.le{st:StC}(h:zDI G L D st i):(onI L.length i=true/\∃k:Nat,i=(k:Int)/\zCR G L D st k)\/(onI L.length i=false/\st=[]):=by
 rcases h with ⟨h1,h2,h3⟩|⟨h1,h2⟩
 .exact .inl ⟨wC ⟨h1,h2⟩,i.toNat,by omega,h3⟩
 .exact .inr ⟨uX (by omega),h2⟩
theorem zQa{st:List vZ}(h:zDI G L D (st.map vZ.pl) i):zER st:=λx hx=>by
 have:=h.small x.pl (tK hx);simp only[vZ.pl] at this;omega
theorem zQb(hD:D<=16){st:StC}(h:zDI G L D st i)(b:Int)(hb:b=1\/b = -1):∃st',qN G b st=.inl st'/\zDI G L D st' (zLy L.length i b):=by
 unfold zLy;rcases h.le with ⟨h1,k,rfl,h2⟩|⟨h1,rfl⟩
 .rw[if_pos h1];rcases hb with rfl|rfl
  .exact zP8 hD h2
  .exact zP9 hD h2
 .rw[if_neg (by rw[h1];simp)];exact⟨[],rfl,.inr ⟨.inl (by omega),rfl⟩⟩
end
section
variable {α:Type}{F P P' F' P1 F1 P0 F0:Nat->Prop}{ad:Nat->Addr}{w w' w0 w1 wr:World}{base c s gen kb:Nat}{root D:Nat}{G G':GA}{l l':List Nat}{L:List zE}{sv sv' v v':Value}{st st':List vZ}{x x':List α}{i:Int}{e:TypeId}{sz:Nat}{enc:α->List Value}
theorem CuI.app{r:Int}(h:CuI F P ad w base c s gen kb r G l sv st)(hr:zBI w0 F (cuQ P kb sv) w e sz enc v x)(n:zR P0 (cuQ P kb sv) F0 F ad w0 w)(ho:zU (λ_=>False) w' w0.heap.size e sz enc v' x')(m:zA (λk=>v.ownBlock=some k) w w'){K:Nat}(hat:v'.ownBlock=v.ownBlock\/v'.ownBlock=some K)(hK:w.heap.size<=K) :
  CuI (zAA F v') P ad w' base c s gen kb r G l sv st:=by
 have hnew:∀k,k<w.heap.size->¬ F k->¬ zAA F v' k:=λk hk hn hf=>by
  rcases hf with hf|hf
  .exact hn hf
  .rcases hat with e|e
   .exact hn (hr.2 k (e ▸ hf)).1
   .rw[e] at hf;injection hf with hf;omega
 exact⟨(zBI.app n hr ho m hat hK).1.env,λk hk=>.inl (h.sub k hk),h.pg.plus m (λk hk e=>(hr.2 k e).2 (.inl hk)) (λk hk=>(hr.2 k hk).1) hnew,
  ⟨h.cu.blk.mods m (λe=>(hr.2 kb e).2 (.inr (.inl rfl))),h.cu.row.mods m (λg hg e=>(hr.2 g e).2 (.inr (.inr hg))),λy hy=>(h.cu.fr y hy).step (m.mono (λk hk=>(hr.2 k hk).1)) hnew,λk hk=>⟨.inl (h.cu.nP k hk).1,(h.cu.nP k hk).2⟩,h.cu.ok⟩,uM h.bl m.size⟩
def BkS(F0 P0:Nat->Prop)(ad:Nat->Addr)(w0:World)(c s gen kb root:Nat)(G:GA)(l:List Nat)(L:List zE)(D:Nat)(i:Int)(e:TypeId)(sz:Nat)(enc:α->List Value)(v:Value)(x:List α)(wr:World):Prop :=
 ∃(F P:Nat->Prop) (base:Nat) (sv:Value) (st:List vZ),CuI F P ad wr base c s gen kb (root:Int) G l sv st/\zR P0 (cuQ P kb sv) F0 F ad w0 wr/\zDI G L D (st.map vZ.pl) i/\zBI w0 F (cuQ P kb sv) wr e sz enc v x
theorem BkS.ext(h:BkS F0 P0 ad w0 c s gen kb root G l L D i e sz enc v x w)(m:zJ w w'):BkS F0 P0 ad w0 c s gen kb root G l L D i e sz enc v x w':=by
 obtain⟨F,P,base,sv,st,h1,h2,h3,h4⟩:=h;have h5:=h1.ext m;exact⟨F,P,base,sv,st,h5.1,h2.trans h5.2,h3,h4.ext m⟩
theorem BkS.ext0(h:BkS F0 P0 ad w0 c s gen kb root G l L D i e sz enc v x w):w0.heap.size<=w.heap.size:=by
 obtain⟨F,P,base,sv,st,h1,h2,h3,h4⟩:=h;exact h2.stp.mods.size
theorem BkS.own(h:BkS F0 P0 ad w0 c s gen kb root G l L D i e sz enc v x w):zU (λ_=>False) w w0.heap.size e sz enc v x:=by
 obtain⟨F,P,base,sv,st,h1,h2,h3,h4⟩:=h;exact h4.1
theorem BkS.app(h:BkS F0 P0 ad w0 c s gen kb root G l L D i e sz enc v x w)(ho:zU (λ_=>False) w' w0.heap.size e sz enc v' x')(m:zA (λk=>v.ownBlock=some k) w w'){K:Nat}(hat:v'.ownBlock=v.ownBlock\/v'.ownBlock=some K)(hK:w.heap.size<=K) :
  BkS F0 P0 ad w0 c s gen kb root G l L D i e sz enc v' x' w':=by
 obtain⟨F,P,base,sv,st,h1,h2,h3,h4⟩:=h;obtain⟨j1,j2⟩:=zBI.app h2 h4 ho m hat hK;exact⟨zAA F v',P,base,sv,st,h1.app h4 h2 ho m hat hK,j1,h3,j2⟩
theorem BkS.done(hL:yW F0 ad w0)(h:BkS F0 P0 ad w0 c s gen kb root G l L D i e sz enc v x w)(henc:∀y,(enc y).length=sz)(hl:x.length<=140737488355328) :
  ∃P',yS (λk=>F0 k\/P' k) w P' c s G l/\zR P0 P' F0 (λk=>F0 k\/P' k) ad w0 w/\Sl (λk=>F0 k\/P' k) w sz enc v x:=by
 obtain⟨F,P,base,sv,st,h1,h2,h3,h4⟩:=h;have n:=(h2.shrink (P2:=P) (λk hk=>.inl hk));refine⟨P,h1.pg.anti (λk hk=>hk.elim (h2.grow k) (h1.sub k)),n.least,?_⟩;exact zU.sl (F:=λk=>F0 k\/P k) ⟨h4.1.1,λg hg hf=>hf.elim (λhf=>by have h1:=(h4.1.lt g hg).1;have h2:=hL.lt g hf;omega) (λhp=>(h4.2 g hg).2 (.inl hp))⟩ henc hl
theorem zN6(h:BkS F0 P0 ad w0 c s gen kb root G l L D i e sz enc v x w)(ht:G.total)(hD:D<=16) : Calls Tryz.prog 85 #[.pointer (some ⟨kb,0,none⟩)] w λen w'=>en=.returned .nilIface/\BkS F0 P0 ad w0 c s gen kb root G l L D (zLy L.length i 1) e sz enc v x w':=by
 obtain⟨F,P,base,sv,st,h1,h2,h3,h4⟩:=h;obtain⟨st',e1,e2⟩:=zQb hD h3 1 (.inl rfl);refine (zQX h1 (zQa h3) ht).mono ?_;rintro e w' ⟨P1,F1,sv1,st1,k1,k2,k3⟩;rw[e1] at k3;exact⟨k3.1,F1,P1,base,sv1,st1,k1,h2.trans k2,by rw[k3.2];exact e2,h4.nxt k2⟩
theorem zQ7(h:BkS F0 P0 ad w0 c s gen kb root G l L D i e sz enc v x w)(ht:G.total)(hT:zLB G root D L)(key:ByteArray)(hb:zB2 key=true) : Calls Tryz.prog 84 #[.pointer (some ⟨kb,0,none⟩),.string key] w λen w'=>en=.returned .nilIface/\BkS F0 P0 ad w0 c s gen kb root G l L D (zFl key L:Int) e sz enc v x w':=by
 obtain⟨F,P,base,sv,st,h1,h2,h3,h4⟩:=h;obtain⟨st',e1,e2⟩:=zQA key hT;refine (zPL key h1 ht).mono ?_;rintro e w' ⟨P1,F1,sv1,st1,k1,k2,k3⟩;have e3:zIC G (root:Int) key=.inl st':=by unfold zIC;rw[if_pos hb,e1]
 rw[e3] at k3;exact⟨k3.1,F1,P1,base,sv1,st1,k1,h2.trans k2,by rw[k3.2];exact e2,h4.nxt k2⟩
theorem zSA(h:BkS F0 P0 ad w0 c s gen kb root G l L D i e sz enc v x w) : Calls Tryz.prog 42 #[.pointer (some ⟨kb,0,none⟩)] w λen w'=>en=.returned (.bool (onI L.length i))/\w=w':=by
 obtain⟨F,P,base,sv,st,h1,h2,h3,h4⟩:=h;have:(!st.isEmpty)=onI L.length i:=by
  rcases h3.le with ⟨h4,k,rfl,n,a,r,pre,p,suf,lo,hi,e,_⟩|⟨h4,h5⟩
  .rw[h4];cases st with
   | nil=>simp at e
   | cons x r=>rfl
  .rw[h4];rw[List.map_eq_nil_iff] at h5;rw[h5];rfl
 rw[<- this];exact zNK h1
theorem zKG(h:BkS F0 P0 ad w0 c s gen kb root G l L D i e sz enc v x w){k:Nat}{y:zE}(hi:i=(k:Int))(hx:L[k]? = some y) : Calls Tryz.prog 75 #[.pointer (some ⟨kb,0,none⟩)] w λen w'=>en=.returned (.string y.1)/\∃q,w'=w.drewN q:=by
 obtain⟨F,P,base,sv,st,h1,h2,h3,_⟩:=h;subst hi;have hk:=(uB.1 hx).1;rcases h3 with ⟨_,_,h4⟩|⟨h4,_⟩
 .rw[uL] at h4;obtain⟨n,a,r,e,z,e1,e2,e3,e4,e5,e6,e7,e8⟩:=h4.pair;rw[hx] at e3;injection e3 with e3;subst e3;cases st with
  | nil=>simp at e1
  | cons z st =>
   rw[uW] at e1;injection e1 with e1 _;have ha:=congrArg Prod.snd e1;have hn:=congrArg Prod.fst e1;rw[<- e4];exact zRn h1 ha (by rw[show z.node=n from hn];exact e2)
 .omega
end
theorem zLz{n k:Nat}(h:k<n)(b:Int):zLy n (k:Int) b=(k:Int)+b:=by
 unfold zLy;exact if_pos (wC ⟨by omega,by omega⟩)
theorem zQ8{n:Nat}{i:Int}(h:i<0\/(n:Int)<=i):onI n i=false:=uX (by omega)
def zFR(to_ k:ByteArray):Bool:=decide (to_=⟨#[]⟩) || qJ k to_
def upP(to_:ByteArray):List zE->Nat->List zE
 | [],_=>[]
 | _,0=>[]
 | x :: r,m+1=>if zFR to_ x.1=true then x :: upP to_ r m else []
def zNL(F P:Nat->Prop)(ad:Nat->Addr)(w:World)(c s:Nat)(G:GA)(l:List Nat)(o:List zE)(e:Ending)(w':World):Prop :=
 jL F P ad w c s G l (λF' w' e=>∃v,e=.returned (.tuple #[v,.nilIface])/\Sl F' w' 2 zAL v o) e w'
section
variable {α:Type}{F P P' F' P1 F1 P0 F0:Nat->Prop}{ad:Nat->Addr}{w w' w0 w1 wr:World}{base c s gen kb:Nat}{root D:Nat}{G G':GA}{l l':List Nat}{L:List zE}{sv sv' v v':Value}{st st':List vZ}{x x':List α}{i:Int}{e:TypeId}{sz:Nat}{enc:α->List Value}
theorem zL0(h:BkS F0 P0 ad w0 c s gen kb root G l L D i e sz enc v x w){k:Nat}{y:zE}(hi:i=(k:Int))(hx:L[k]? = some y) : Calls Tryz.prog 86 #[.pointer (some ⟨kb,0,none⟩)] w λen w'=>en=.returned (.tuple #[.string y.2,.nilIface])/\BkS F0 P0 ad w0 c s gen kb root G l L D i e sz enc v x w':=by
 obtain⟨F,P,base,sv,st,h1,h2,h3,h9⟩:=h;subst hi;have hk:=(uB.1 hx).1;have h30:=h3;rcases h3 with ⟨_,_,h4⟩|⟨h4,_⟩
 .rw[uL] at h4;obtain⟨n,a,r,e,z,e1,e2,e3,e4,e5,e6,e7,e8⟩:=h4.pair;rw[hx] at e3;injection e3 with e3;subst e3;cases st with
  | nil=>simp at e1
  | cons z st =>
   rw[uW] at e1;injection e1 with e1 _;have ha:=congrArg Prod.snd e1;have hn:=congrArg Prod.fst e1;have hRG : -9223372036854775808<=e.chain/\e.chain<=9223372036854775807:=by
    have h3:=zED e8 e7 e2;unfold yC at h3;simp only[uK] at h3;have h4:=h3.2;split at h4
    .omega
    .simp only[uK,uQ,zCL] at h4;omega
   refine (zQY h1 ha (by rw[show z.node=n from hn];exact e2) e5 e6 hRG).mono ?_;rintro en w' ⟨rfl,P',F',k1,k2⟩;exact⟨rfl,F',P',base,sv,z :: st,k1,h2.trans k2,h30,h9.nxt k2⟩
 .omega
theorem zNM{to_ k:ByteArray}(h:zFR to_ k=true):(to_.toList.isEmpty=true)\/(to_.toList.isEmpty=false/\Op.bytesLess k.toList to_.toList=true):=by
 cases hfe:to_.toList.isEmpty with
 | true=>exact .inl rfl
 | false =>
  refine .inr ⟨rfl,?_⟩;unfold zFR at h;have hne:to_ ≠ ⟨#[]⟩:=λe=>by rw[e] at hfe;simp[ByteArray.toList_eq] at hfe
  rw[uX hne,Bool.false_or] at h;exact h
theorem zPM{to_ k:ByteArray}(h:zFR to_ k=false):to_.toList.isEmpty=false/\Op.bytesLess k.toList to_.toList=false:=by
 unfold zFR at h;rw[Bool.or_eq_false_iff] at h;refine⟨?_,h.2⟩;cases hfe:to_.toList.isEmpty with
 | false=>rfl
 | true =>
  have he:to_=⟨#[]⟩:=toList_inj (by rw[wX.1 hfe];simp[ByteArray.toList_eq]);rw[wC he] at h;cases h.1
end
section
variable {F P P' F' P1 F1:Nat->Prop}{ad:Nat->Addr}{w w' w0 w1:World}{c s gen:Nat}{root D:Nat}{G:GA}{l:List Nat}{L:List zE}
theorem zPN(hL:yW F ad w)(hP:∀k,P k->F k)(h:yS F w P c s G l)(hlen:L.length<=1000)(ht:G.total)(hD:D<=16)(hT:zLB G root D L)(gen:Nat)(from_ to_:ByteArray)(most:Int)(hm:zG3 from_ to_ most=true) :
  Calls Tryz.prog 49 #[qR c s gen,.int .i64 (root:Int),.string from_,.string to_,.int .i64 most] w (zNL F P ad w c s G l (upP to_ (L.drop (zFl from_ L)) most.toNat)):=by
 have m0:zJ w (w.alloc (gP c s gen)):=(zA.refl _ w).alloc _;have HN0:=oh (zR.ext hL hP m0);have HL0:=oh hL;have hOP:=λop=>zQZ HN0.out.env hP (h.at m0) gen (root:Int) op from_ to_ most
 rw[hm] at hOP;have HOP:=oh hOP;have hbq:zB2 from_=true:=by unfold zG3 at hm;simp only[uK] at hm;exact hm.1.1.1
 have hm1:0<=most/\most<=65535:=by unfold zG3 at hm;simp only[uK,uQ] at hm;omega
 obtain⟨N,rfl⟩:∃N:Nat,most=(N:Int):=⟨most.toNat,by omega⟩;rw[uL];have HB:=oh hbq;have HG:=oh ht;have HT:=oh hT;have HD:=oh hD;obtain⟨z,hz⟩:∃z,z=zFl from_ L:=⟨_,rfl⟩;have hzl:z<=L.length:=by rw[hz];exact rD
 have HZ:=oh hz;obtain⟨R,hR⟩:∃R,R=upP to_ (L.drop z) N:=⟨_,rfl⟩;have HR:=oh hR;rw[<- hz,<- hR];clear hL hP h m0 hOP hm hm1 hbq ht hD hT hz hR;unfold qR at HOP ⊢
 go_enter Tryz.func49, Tryz.ntmps49
 go_wp2_with fail;refine (HOP.out _).mono ?_;rintro e w1 hd;obtain⟨kb,base,F1,rfl,h1,n1⟩:zRo F P ad (w.alloc (gP c s gen)) c s gen (root:Int) G l e w1:=by
  rcases hd with ⟨_,h⟩|⟨h,_⟩
  .exact h
  .cases h
 have hS1:BkS F P ad w c s gen kb root G l L D (-1) 25 2 zAL (.slice none 0 0) [] w1:=⟨F1,P,base,_,[],h1,HN0.out.trans n1,.inr ⟨.inl (by omega),rfl⟩,zBI.nil _ _ _ _ _ _ _⟩;have hsk:=zQ7 hS1 HG.out HT.out from_ HB.out;rw[<- HZ.out] at hsk;have HSK:=oh hsk;clear hd h1 n1 hS1 hsk;go_wp2_with fail;refine (HSK.out).mono ?_;rintro e w2 ⟨rfl,hS⟩;have HS2:=oh hS;clear hS;go_wp2_with fail;go_loopg [13,14] (L.length-z) (λm v13 v14 wr=>∃(k:Nat) (o:List zE),k+m=L.length/\v13=.nilIface/\o.length<=N/\o.length<=k/\Hid (BkS F P ad w c s gen kb root G l L D (k:Int) 25 2 zAL v14 o wr/\o++upP to_ (L.drop k) (N-o.length)=R))
 case atStart=>exact⟨z,[],by omega,rfl,pS _,pS _,oh ⟨HS2.out,by rw[HR.out];simp⟩⟩
 case round =>
  obtain⟨k,o,hkm,rfl,hoN,hok,HC⟩:=hrel;obtain⟨va,vc,rfl,vq1,vq2⟩:=HC.out.1.own.form;have hon:=zSA HC.out.1;have HOK:=oh (And.intro hoN hok);by_cases hlt:k<L.length
  .have hof:onI L.length (k:Int)=true:=wC ⟨by omega,by omega⟩;rw[hof] at hon;have HON:=oh hon;obtain⟨y,hy⟩:∃y,L[k]? = some y:=⟨_,uA hlt⟩;have HY:=oh hy;have HLT:=oh hlt;have hdr:L.drop k=y :: L.drop (k+1):=by rw[wO hlt];rw[uA hlt] at hy;injection hy with hy;rw[hy]
   by_cases hoo:o.length<N
   .have i1:(o.length:Int)<(N:Int):=by omega
    obtain⟨r,hr⟩:∃r,N-o.length=r+1:=⟨N-o.length-1,by omega⟩;have HRR:=oh hr;have hres:=HC.out.2;rw[hdr,hr,upP] at hres;cases hbl:zFR to_ y.1 with
    | true =>
     rw[if_pos hbl] at hres;have HRS:Hid (o++[y]++upP to_ (L.drop (k+1)) r=R):=oh (by rw[<- hres];simp);have hway:=zNM hbl;clear hon hof hy hdr hr hres hbl hlt hoo vq1 vq2;have HKY:=oh (zKG HC.out.1 rfl HY.out);have hgo:∀(q:Nat),Hid (BkS F P ad w c s gen kb root G l L D (k:Int) 25 2 zAL (.slice va o.length vc) o (wr.drewN q)):=λq=>oh (HC.out.1.ext ((zA.refl _ wr).drewN q))
     have HGO:=oh hgo;clear hgo;rcases hway with hfe|⟨hfe,hle⟩
     .go_wp2_with fail;refine (HON.out).mono ?_;rintro e w3 ⟨rfl,rfl⟩;go_wp2_with fail;have HV:=oh (zL0 HC.out.1 rfl HY.out);refine (HV.out).mono ?_;rintro e w4 ⟨rfl,hS⟩;have HK4:=oh (zKG hS rfl HY.out);have HS4:=oh hS;clear hS;go_wp2_with fail;refine (HK4.out).mono ?_;rintro e w5 ⟨rfl,k5,rfl⟩;have HS5:=oh ((HS4.out.ext ((zA.refl _ w4).drewN k5)).ext ((zA.refl _ _).alloc (.cells #[.string y.1,.string y.2] 25)));go_wp2_with (at_builtin;refine yH Tryz.elP zAX rfl _ _ rfl w.heap.size _ _ o [y] rfl rfl HS5.out.own (Sl.one (F:=λ_=>False) (zK (by simp)) (λf=>f)) (by have:=HOK.out.2;have:=HLT.out;simp only[uD,uE];omega) HS5.out.ext0 (λf=>f) ?_;simp only[uD,uE,uR];intro a6 c6 w6 hO6 hm6 hat6);have HS6:=oh (HS5.out.app hO6 hm6 hat6 (uJ _));have hnx:=zN6 HS6.out HG.out HD.out;rw[zLz HLT.out] at hnx;have HNX:=oh hnx;clear hO6 hm6 hat6 hnx;go_wp2_with fail;refine (HNX.out).mono ?_;rintro e w7 ⟨rfl,hS7⟩;have HS7:=oh hS7;clear hS7;go_wp2_with fail;go_roundg (gk-1)
      case measure=>have:=HLT.out;omega
      case rel=>exact⟨k+1,o++[y],by have:=HLT.out;omega,rfl,by have:=HRR.out;simp;omega,by have:=HOK.out.2;simp;omega,oh ⟨by simpa using HS7.out,by
       have hr2:N-(o++[y]).length=r:=by have:=HRR.out;simp;omega
       rw[hr2];exact HRS.out⟩⟩
     .go_wp2_with fail;refine (HON.out).mono ?_;rintro e w3 ⟨rfl,rfl⟩;go_wp2_with fail;refine (HKY.out).mono ?_;rintro e w3 ⟨rfl,k3,rfl⟩;have HV:=oh (zL0 (HGO.out k3).out rfl HY.out);go_wp2_with fail;refine (HV.out).mono ?_;rintro e w4 ⟨rfl,hS⟩;have HK4:=oh (zKG hS rfl HY.out);have HS4:=oh hS;clear hS;go_wp2_with fail;refine (HK4.out).mono ?_;rintro e w5 ⟨rfl,k5,rfl⟩;have HS5:=oh ((HS4.out.ext ((zA.refl _ w4).drewN k5)).ext ((zA.refl _ _).alloc (.cells #[.string y.1,.string y.2] 25)));go_wp2_with (at_builtin;refine yH Tryz.elP zAX rfl _ _ rfl w.heap.size _ _ o [y] rfl rfl HS5.out.own (Sl.one (F:=λ_=>False) (zK (by simp)) (λf=>f)) (by have:=HOK.out.2;have:=HLT.out;simp only[uD,uE];omega) HS5.out.ext0 (λf=>f) ?_;simp only[uD,uE,uR];intro a6 c6 w6 hO6 hm6 hat6);have HS6:=oh (HS5.out.app hO6 hm6 hat6 (uJ _));have hnx:=zN6 HS6.out HG.out HD.out;rw[zLz HLT.out] at hnx;have HNX:=oh hnx;clear hO6 hm6 hat6 hnx;go_wp2_with fail;refine (HNX.out).mono ?_;rintro e w7 ⟨rfl,hS7⟩;have HS7:=oh hS7;clear hS7;go_wp2_with fail;go_roundg (gk-1)
      case measure=>have:=HLT.out;omega
      case rel=>exact⟨k+1,o++[y],by have:=HLT.out;omega,rfl,by have:=HRR.out;simp;omega,by have:=HOK.out.2;simp;omega,oh ⟨by simpa using HS7.out,by
       have hr2:N-(o++[y]).length=r:=by have:=HRR.out;simp;omega
       rw[hr2];exact HRS.out⟩⟩
    | false =>
     rw[if_neg (by rw[hbl];simp)] at hres;have HCN:Hid (o=R):=oh (by simpa using hres);have HKY:=oh (zKG HC.out.1 rfl HY.out);obtain⟨hfe,hle⟩:=zPM hbl;clear hon hof hy hdr hr hres hbl hlt hoo vq1 vq2;go_wp2_with fail;refine (HON.out).mono ?_;rintro e w3 ⟨rfl,rfl⟩;go_wp2_with fail;refine (HKY.out).mono ?_;rintro e w3 ⟨rfl,k3,rfl⟩;go_wp2_with fail;refine bodyPost_ret (v:=.tuple #[.slice va o.length vc,.nilIface]) (by simp[results,Tryz.results49,go_sem]) rfl ?_;obtain⟨P9,g1,g2,g3⟩:=(HC.out.1.ext ((zA.refl _ wr).drewN k3)).done HL0.out zAX.len (by have:=HOK.out.2;have:=HLT.out;omega);exact⟨P9,_,g1,g2,_,rfl,by rw[<- HCN.out];exact g3⟩
   .have i1:¬ (o.length:Int)<(N:Int):=by omega
    have HCN:Hid (o=R):=oh (by
     have:=HC.out.2;rw[show N-o.length=0 by omega] at this;rw[<- this,hdr];simp[upP])
    clear hon hof hy hdr hlt hoo vq1 vq2;go_wp2_with fail;refine (HON.out).mono ?_;rintro e w3 ⟨rfl,rfl⟩;go_wp2_with fail;refine bodyPost_ret (v:=.tuple #[.slice va o.length vc,.nilIface]) (by simp[results,Tryz.results49,go_sem]) rfl ?_;obtain⟨P9,g1,g2,g3⟩:=HC.out.1.done HL0.out zAX.len (by have:=HOK.out.2;have:=HLT.out;omega);exact⟨P9,_,g1,g2,_,rfl,by rw[<- HCN.out];exact g3⟩
  .have hof:onI L.length (k:Int)=false:=zQ8 (.inr (by omega));rw[hof] at hon;have HON:=oh hon;have HLN:Hid (k<=L.length/\L.length<=1000):=oh ⟨by omega,hlen⟩;have HCN:Hid (o=R):=oh (by have:=HC.out.2;rw[tG (by omega)] at this;simpa[upP] using this);clear hon hof hlt vq1 vq2;go_wp2_with fail;refine (HON.out).mono ?_;rintro e w3 ⟨rfl,rfl⟩;go_wp2_with fail;refine bodyPost_ret (v:=.tuple #[.slice va o.length vc,.nilIface]) (by simp[results,Tryz.results49,go_sem]) rfl ?_;obtain⟨P9,g1,g2,g3⟩:=HC.out.1.done HL0.out zAX.len (by have:=HOK.out.2;have:=HLN.out;omega);exact⟨P9,_,g1,g2,_,rfl,by rw[<- HCN.out];exact g3⟩
end
theorem zL1{F Q:Nat->Prop}{w:World}(L:List zE)(av bv:Value)(ha:Sl F w 2 zAL av L)(hb:Sl Q w 2 zAL bv L)(hlen:L.length<=1000) :
  Calls Tryz.prog 21 #[av,bv] w λe w'=>e=.returned (.bool true)/\zJ w w':=by
 have HA:=oh ha;have HB:=oh hb;obtain⟨aa,ac,rfl,a1,a2,a3, -⟩:=ha;obtain⟨ba,bc,rfl,b1,b2,b3, -⟩:=hb;unfold maxLen at a2 b2
 go_enter Tryz.func21, Tryz.ntmps21
 go_wp2_with fail;go_loopg [5] L.length (λm v5 wr=>∃(k:Nat),k+m=L.length/\v5=.int .i64 (k:Int)/\Hid (zJ w wr))
 case atStart=>exact⟨0,by omega,rfl,oh (zA.refl _ w)⟩
 case round =>
  obtain⟨k,hkm,rfl,HX⟩:=hrel;by_cases hlt:k<L.length
  .obtain⟨y,hy⟩:∃y,y=L[k]:=⟨_,rfl⟩;obtain⟨qb,qoff,hqa,hc⟩:=HA.out.elem hlt HX.out;obtain⟨rb,roff,hra,hd⟩:=HB.out.elem hlt HX.out;have c0:=hc 0 (.string y.1) (by rw[hy];rfl);have c1:=hc 1 (.string y.2) (by rw[hy];rfl);have d0:=hd 0 (.string y.1) (by rw[hy];rfl);have d1:=hd 1 (.string y.2) (by rw[hy];rfl);simp only[uO] at c0 d0;subst hqa hra;have i2:(0:Int)<=(k:Int):=by omega
   have i3:(k:Int)<(L.length:Int):=by omega
   have HLT:=oh hlt;clear hc hd hy hlt;go_wp2_with fail;go_quiet (fail)
   go_wp2_with fail;go_roundg (gk-1)
   case measure=>have:=HLT.out;omega
   case rel=>exact⟨k+1,by have:=HLT.out;omega,by go_num,oh (HX.out.trans ((zA.refl _ wr).drewN _))⟩
  .have i3:¬ (k:Int)<(L.length:Int):=by omega
   clear hlt;go_wp2_with fail;go_ret;exact⟨rfl,HX.out⟩
end Go.Proofs.YtchklfmggpconaaGreatDoor
