import Derived.Test.YtgphfebjjedeaaaGreatDoorV38
import Derived.Test.YtgphfebjjedeaaaGreatDoorV37
namespace Go.Proofs.YtgphfebjjedeaaaGreatDoor
open Lib renaming hid->oh
set_option maxHeartbeats 4000000
set_option maxRecDepth 100000
section
open Go.RowKit
attribute [local go_sem ↓] Go.wp_at_zero Go.wp_at_succ
section
variable {F:NP}{w w':World}
def onI(n:Nat)(i:Int):Bool:=decide (0<=i/\i<(n:Int))
def zMW(n:Nat)(i by_:Int):Int:=if onI n i=true then i+by_ else -1
end
section
variable {ad:Nat->Addr}{w0 w w':World}{kb root D:Nat}{G:GA}{L:List zE}{i:Int}
theorem zDc.le{st:StC}(h:zDc G L D st i):(onI L.length i=true/\∃k:Nat,i=(k:Int)/\zCk G L D st k)\/(onI L.length i=false/\st=[]):=by
 rcases h with ⟨h1,h2,h3⟩|⟨h1,h2⟩
 .exact .inl ⟨uU ⟨h1,h2⟩,i.toNat,by omega,h3⟩
 .exact .inr ⟨uX (by omega),h2⟩
theorem zRW{st:List jC}(h:zDc G L D (st.map jC.pl) i):zEm st:=λx hx=>by
 have:=h.small x.pl (List.mem_map_of_mem hx);simp only[jC.pl] at this;omega
theorem zRX(hD:D<=16){st:StC}(h:zDc G L D st i)(b:Int)(hb:b=1\/b = -1):∃st',qI G b st=.inl st'/\zDc G L D st' (zMW L.length i b):=by
 unfold zMW;rcases h.le with ⟨h1,k,rfl,h2⟩|⟨h1,rfl⟩
 .rw[if_pos h1];rcases hb with rfl|rfl
  .exact zQ0 hD h2
  .exact zQ1 hD h2
 .rw[if_neg (by rw[h1];simp)];exact⟨[],rfl,.inr ⟨.inl (by omega),rfl⟩⟩
end
section
variable {α:Type}{F P P' F' P1 F1 P0 F0:NP}{ad:Nat->Addr}{w w' w0 w1 wr:World}{base c s gen kb:Nat}{root D:Nat}{G G':GA}{l l':List Nat}{L:List zE}{sv sv' v v':Value}{st st':List jC}{x x':List α}{i:Int}{e:TypeId}{sz:Nat}{enc:α->List Value}
theorem CuI.app{r:Int}(h:CuI F P ad w base c s gen kb r G l sv st)(hr:zCy w0 F (cuQ P kb sv) w e sz enc v x)(n:zU P0 (cuQ P kb sv) F0 F ad w0 w)(ho:yA (λ_=>False) w' w0.heap.size e sz enc v' x')(m:zA (λk=>v.ownBlock=some k) w w'){K:Nat}(Al:v'.ownBlock=v.ownBlock\/v'.ownBlock=some K)(hK:w.heap.size<=K) :
  CuI (zDY F v') P ad w' base c s gen kb r G l sv st:=by
 have A2:∀k,k<w.heap.size->¬ F k->¬ zDY F v' k:=λk hk hn hf=>by
  rcases hf with hf|hf
  .exact hn hf
  .rcases Al with e|e
   .exact hn (hr.2 k (e ▸ hf)).1
   .rw[e] at hf;injection hf with hf;omega
 exact⟨(zCy.app n hr ho m Al hK).1.env,λk hk=>.inl (h.sub k hk),h.pg.plus m (λk hk e=>(hr.2 k e).2 (.inl hk)) (λk hk=>(hr.2 k hk).1) A2,
  ⟨h.cu.blk.mods m (λe=>(hr.2 kb e).2 (.inr (.inl rfl))),h.cu.row.mods m (λg hg e=>(hr.2 g e).2 (.inr (.inr hg))),λy hy=>(h.cu.fr y hy).step (m.mono (λk hk=>(hr.2 k hk).1)) A2,λk hk=>⟨.inl (h.cu.nP k hk).1,(h.cu.nP k hk).2⟩,h.cu.ok⟩,uT h.bl m.size⟩
def BkS(F0 P0:NP)(ad:Nat->Addr)(w0:World)(c s gen kb root:Nat)(G:GA)(l:List Nat)(L:List zE)(D:Nat)(i:Int)(e:TypeId)(sz:Nat)(enc:α->List Value)(v:Value)(x:List α)(wr:World):Prop :=
 ∃(F P:NP) (base:Nat) (sv:Value) (st:List jC),CuI F P ad wr base c s gen kb (root:Int) G l sv st/\zU P0 (cuQ P kb sv) F0 F ad w0 wr/\zDc G L D (st.map jC.pl) i/\zCy w0 F (cuQ P kb sv) wr e sz enc v x
theorem BkS.ext(h:BkS F0 P0 ad w0 c s gen kb root G l L D i e sz enc v x w)(m:zG w w'):BkS F0 P0 ad w0 c s gen kb root G l L D i e sz enc v x w':=by
 obtain⟨F,P,base,sv,st,h1,h2,h3,h4⟩:=h;have h5:=h1.ext m;exact⟨F,P,base,sv,st,h5.1,h2.trans h5.2,h3,h4.ext m⟩
theorem BkS.ext0(h:BkS F0 P0 ad w0 c s gen kb root G l L D i e sz enc v x w):w0.heap.size<=w.heap.size:=by
 obtain⟨F,P,base,sv,st,h1,h2,h3,h4⟩:=h;exact h2.stp.mods.size
theorem BkS.own(h:BkS F0 P0 ad w0 c s gen kb root G l L D i e sz enc v x w):yA (λ_=>False) w w0.heap.size e sz enc v x:=by
 obtain⟨F,P,base,sv,st,h1,h2,h3,h4⟩:=h;exact h4.1
theorem BkS.app(h:BkS F0 P0 ad w0 c s gen kb root G l L D i e sz enc v x w)(ho:yA (λ_=>False) w' w0.heap.size e sz enc v' x')(m:zA (λk=>v.ownBlock=some k) w w'){K:Nat}(Al:v'.ownBlock=v.ownBlock\/v'.ownBlock=some K)(hK:w.heap.size<=K) :
  BkS F0 P0 ad w0 c s gen kb root G l L D i e sz enc v' x' w':=by
 obtain⟨F,P,base,sv,st,h1,h2,h3,h4⟩:=h;obtain⟨j1,j2⟩:=zCy.app h2 h4 ho m Al hK;exact⟨zDY F v',P,base,sv,st,h1.app h4 h2 ho m Al hK,j1,h3,j2⟩
theorem BkS.done(hL:yE F0 ad w0)(h:BkS F0 P0 ad w0 c s gen kb root G l L D i e sz enc v x w)(B4:∀y,(enc y).length=sz)(hl:x.length<=140737488355328) :
  ∃P',vJ (λk=>F0 k\/P' k) w P' c s G l/\zU P0 P' F0 (λk=>F0 k\/P' k) ad w0 w/\Sl (λk=>F0 k\/P' k) w sz enc v x:=by
 obtain⟨F,P,base,sv,st,h1,h2,h3,h4⟩:=h;have n:=(h2.shrink (P2:=P) (λk hk=>.inl hk));refine⟨P,h1.pg.anti (λk hk=>hk.elim (h2.grow k) (h1.sub k)),n.least,?_⟩;exact yA.sl (F:=λk=>F0 k\/P k) ⟨h4.1.1,λg hg hf=>hf.elim (λhf=>by have h1:=(h4.1.lt g hg).1;have h2:=hL.lt g hf;omega) (λhp=>(h4.2 g hg).2 (.inl hp))⟩ B4 hl
theorem zOZ(h:BkS F0 P0 ad w0 c s gen kb root G l L D i e sz enc v x w)(ht:G.total)(hD:D<=16) : Calls Tryz.prog 136 #[.pointer (some ⟨kb,0,none⟩)] w λen w'=>en=.returned .nilIface/\BkS F0 P0 ad w0 c s gen kb root G l L D (zMW L.length i 1) e sz enc v x w':=by
 obtain⟨F,P,base,sv,st,h1,h2,h3,h4⟩:=h;obtain⟨st',e1,e2⟩:=zRX hD h3 1 (.inl rfl);refine (zRT h1 (zRW h3) ht).mono ?_;rintro e w' ⟨P1,F1,sv1,st1,k1,k2,k3⟩;rw[e1] at k3;exact⟨k3.1,F1,P1,base,sv1,st1,k1,h2.trans k2,by rw[k3.2];exact e2,h4.nxt k2⟩
theorem zSF(h:BkS F0 P0 ad w0 c s gen kb root G l L D i e sz enc v x w)(ht:G.total)(hT:zJj G root D L)(key:ByteArray)(hb:zB4 key=true) : Calls Tryz.prog 133 #[.pointer (some ⟨kb,0,none⟩),.string key] w λen w'=>en=.returned .nilIface/\BkS F0 P0 ad w0 c s gen kb root G l L D (zEC key L:Int) e sz enc v x w':=by
 obtain⟨F,P,base,sv,st,h1,h2,h3,h4⟩:=h;obtain⟨st',e1,e2⟩:=zQ2 key hT;refine (zPq key h1 ht).mono ?_;rintro e w' ⟨P1,F1,sv1,st1,k1,k2,k3⟩;have e3:zIa G (root:Int) key=.inl st':=by unfold zIa;rw[if_pos hb,e1]
 rw[e3] at k3;exact⟨k3.1,F1,P1,base,sv1,st1,k1,h2.trans k2,by rw[k3.2];exact e2,h4.nxt k2⟩
theorem zTP(h:BkS F0 P0 ad w0 c s gen kb root G l L D i e sz enc v x w) : Calls Tryz.prog 134 #[.pointer (some ⟨kb,0,none⟩)] w λen w'=>en=.returned (.bool (onI L.length i))/\w=w':=by
 obtain⟨F,P,base,sv,st,h1,h2,h3,h4⟩:=h;have:(!st.isEmpty)=onI L.length i:=by
  rcases h3.le with ⟨h4,k,rfl,n,a,r,pre,p,suf,lo,hi,e,_⟩|⟨h4,h5⟩
  .rw[h4];cases st with
   | nil=>simp at e
   | cons x r=>rfl
  .rw[h4];rw[List.map_eq_nil_iff] at h5;rw[h5];rfl
 rw[<- this];exact zNl h1
theorem zKr(h:BkS F0 P0 ad w0 c s gen kb root G l L D i e sz enc v x w){k:Nat}{y:zE}(hi:i=(k:Int))(hx:L[k]? = some y) : Calls Tryz.prog 135 #[.pointer (some ⟨kb,0,none⟩)] w λen w'=>en=.returned (.string y.1)/\∃q,w'=w.drewN q:=by
 obtain⟨F,P,base,sv,st,h1,h2,h3,_⟩:=h;subst hi;have hk:=(uB.1 hx).1;rcases h3 with ⟨_,_,h4⟩|⟨h4,_⟩
 .rw[uK] at h4;obtain⟨n,a,r,e,z,e1,e2,e3,e4,e5,e6,e7,e8⟩:=h4.pair;rw[hx] at e3;injection e3 with e3;subst e3;cases st with
  | nil=>simp at e1
  | cons z st =>
   rw[wO] at e1;injection e1 with e1 _;have ha:=congrArg Prod.snd e1;have hn:=congrArg Prod.fst e1;rw[<- e4];exact zSx h1 ha (by rw[show z.node=n from hn];exact e2)
 .omega
end
theorem zMX{n k:Nat}(h:k<n)(b:Int):zMW n (k:Int) b=(k:Int)+b:=by
 unfold zMW;exact if_pos (uU ⟨by omega,by omega⟩)
theorem zSG{n:Nat}{i:Int}(h:i<0\/(n:Int)<=i):onI n i=false:=uX (by omega)
def zEn(to_ k:ByteArray):Bool:=decide (to_=⟨#[]⟩) || qH k to_
def upP(to_:ByteArray):List zE->Nat->List zE
 | [],_=>[]
 | _,0=>[]
 | x :: r,m+1=>if zEn to_ x.1=true then x :: upP to_ r m else []
def zGm(F P:NP)(ad:Nat->Addr)(w:World)(c s:Nat)(G:GA)(l:List Nat)(o:List zE)(e:Ending)(w':World):Prop :=
 zCb F P ad w c s G l (λF' w' e=>∃v,e=.returned (.tuple #[v,.nilIface])/\Sl F' w' 2 vI v o) e w'
section
variable {α:Type}{F P P' F' P1 F1 P0 F0:NP}{ad:Nat->Addr}{w w' w0 w1 wr:World}{base c s gen kb:Nat}{root D:Nat}{G G':GA}{l l':List Nat}{L:List zE}{sv sv' v v':Value}{st st':List jC}{x x':List α}{i:Int}{e:TypeId}{sz:Nat}{enc:α->List Value}
theorem zMY(h:BkS F0 P0 ad w0 c s gen kb root G l L D i e sz enc v x w){k:Nat}{y:zE}(hi:i=(k:Int))(hx:L[k]? = some y) : Calls Tryz.prog 137 #[.pointer (some ⟨kb,0,none⟩)] w λen w'=>en=.returned (.tuple #[.string y.2,.nilIface])/\BkS F0 P0 ad w0 c s gen kb root G l L D i e sz enc v x w':=by
 obtain⟨F,P,base,sv,st,h1,h2,h3,h9⟩:=h;subst hi;have hk:=(uB.1 hx).1;have C4:=h3;rcases h3 with ⟨_,_,h4⟩|⟨h4,_⟩
 .rw[uK] at h4;obtain⟨n,a,r,e,z,e1,e2,e3,e4,e5,e6,e7,e8⟩:=h4.pair;rw[hx] at e3;injection e3 with e3;subst e3;cases st with
  | nil=>simp at e1
  | cons z st =>
   rw[wO] at e1;injection e1 with e1 _;have ha:=congrArg Prod.snd e1;have hn:=congrArg Prod.fst e1;have C5 : -9223372036854775808<=e.chain/\e.chain<=9223372036854775807:=by
    have h3:=zEe e8 e7 e2;unfold qZ at h3;simp only[uL] at h3;have h4:=h3.2;split at h4
    .omega
    .simp only[uL,uR,zCo] at h4;omega
   refine (zRU h1 ha (by rw[show z.node=n from hn];exact e2) e5 e6 C5).mono ?_;rintro en w' ⟨rfl,P',F',k1,k2⟩;exact⟨rfl,F',P',base,sv,z :: st,k1,h2.trans k2,C4,h9.nxt k2⟩
 .omega
theorem zNm{to_ k:ByteArray}(h:zEn to_ k=true):(to_.toList.isEmpty=true)\/(to_.toList.isEmpty=false/\Op.bytesLess k.toList to_.toList=true):=by
 cases A7:to_.toList.isEmpty with
 | true=>exact .inl rfl
 | false =>
  refine .inr ⟨rfl,?_⟩;unfold zEn at h;have B5:to_ ≠ ⟨#[]⟩:=λe=>by rw[e] at A7;simp[ByteArray.toList_eq] at A7
  rw[uX B5,Bool.false_or] at h;exact h
theorem zPr{to_ k:ByteArray}(h:zEn to_ k=false):to_.toList.isEmpty=false/\Op.bytesLess k.toList to_.toList=false:=by
 unfold zEn at h;rw[pI] at h;refine⟨?_,h.2⟩;cases A7:to_.toList.isEmpty with
 | false=>rfl
 | true =>
  have he:to_=⟨#[]⟩:=toList_inj (by rw[wV.1 A7];simp[ByteArray.toList_eq]);rw[uU he] at h;cases h.1
end
section
variable {F P P' F' P1 F1:NP}{ad:Nat->Addr}{w w' w0 w1:World}{c s gen:Nat}{root D:Nat}{G:GA}{l:List Nat}{L:List zE}
theorem zJ4(hL:yE F ad w)(hP:∀k,P k->F k)(h:vJ F w P c s G l)(A8:L.length<=1000)(ht:G.total)(hD:D<=16)(hT:zJj G root D L)(gen:Nat)(from_ to_:ByteArray)(most:Int)(hm:zGl from_ to_ most=true) :
  Calls Tryz.prog 77 #[pgV c s gen,.int .i64 (root:Int),.string from_,.string to_,.int .i64 most] w (zGm F P ad w c s G l (upP to_ (L.drop (zEC from_ L)) most.toNat)):=by
 have m0:zG w (w.alloc (gP c s gen)):=(zss w).alloc _;have A9:=oh (zU.ext hL hP m0);have B6:=oh hL;have B7:=λop=>zRV A9.out.env hP (h.at m0) gen (root:Int) op from_ to_ most
 rw[hm] at B7;have Bo:=oh B7;have Bp:zB4 from_=true:=by unfold zGl at hm;simp only[uL] at hm;exact hm.1.1.1
 have C6:0<=most/\most<=65535:=by unfold zGl at hm;simp only[uL,uR] at hm;omega
 obtain⟨N,rfl⟩:∃N:Nat,most=(N:Int):=⟨most.toNat,by omega⟩;rw[uK];have HB:=oh Bp;have HG:=oh ht;have HT:=oh hT;have HD:=oh hD;obtain⟨z,hz⟩:∃z,z=zEC from_ L:=⟨_,rfl⟩;have Cm:z<=L.length:=by rw[hz];exact tZ
 have HZ:=oh hz;obtain⟨R,hR⟩:∃R,R=upP to_ (L.drop z) N:=⟨_,rfl⟩;have HR:=oh hR;rw[<- hz,<- hR];clear hL hP h m0 B7 hm C6 Bp ht hD hT hz hR;unfold pgV at Bo ⊢
 go_enter Tryz.func77, Tryz.ntmps77
 go_wp2_with fail;refine (Bo.out _).mono ?_;rintro e w1 hd;obtain⟨kb,base,F1,rfl,h1,n1⟩:zSy F P ad (w.alloc (gP c s gen)) c s gen (root:Int) G l e w1:=by
  rcases hd with ⟨_,h⟩|⟨h,_⟩
  .exact h
  .cases h
 have Bq:BkS F P ad w c s gen kb root G l L D (-1) 105 2 vI (.slice none 0 0) [] w1:=⟨F1,P,base,_,[],h1,A9.out.trans n1,.inr ⟨.inl (by omega),rfl⟩,zCy.nil _ _ _ _ _ _ _⟩;have B8:=zSF Bq HG.out HT.out from_ HB.out;rw[<- HZ.out] at B8;have C7:=oh B8;clear hd h1 n1 Bq B8;go_wp2_with fail;refine (C7.out).mono ?_;rintro e w2 ⟨rfl,hS⟩;have Am:=oh hS;clear hS;go_wp2_with fail;go_loopg [13,14] (L.length-z) (λm v13 v14 wr=>∃(k:Nat) (o:List zE),k+m=L.length/\v13=.nilIface/\o.length<=N/\o.length<=k/\Hid (BkS F P ad w c s gen kb root G l L D (k:Int) 105 2 vI v14 o wr/\o++upP to_ (L.drop k) (N-o.length)=R))
 case atStart=>exact⟨z,[],by omega,rfl,tQ _,tQ _,oh ⟨Am.out,by rw[HR.out];simp⟩⟩
 case round =>
  obtain⟨k,o,C8,rfl,C9,Aa,HC⟩:=hrel;obtain⟨va,vc,rfl,vq1,vq2⟩:=HC.out.1.own.form;have A5:=zTP HC.out.1;have Ab:=oh (And.intro C9 Aa);by_cases A1:k<L.length
  .have Ac:onI L.length (k:Int)=true:=uU ⟨by omega,by omega⟩;rw[Ac] at A5;have Ai:=oh A5;obtain⟨y,hy⟩:∃y,L[k]? = some y:=⟨_,uA A1⟩;have HY:=oh hy;have A4:=oh A1;have An:L.drop k=y :: L.drop (k+1):=by rw[wK A1];rw[uA A1] at hy;injection hy with hy;rw[hy]
   by_cases B9:o.length<N
   .have i1:(o.length:Int)<(N:Int):=by omega
    obtain⟨r,hr⟩:∃r,N-o.length=r+1:=⟨N-o.length-1,by omega⟩;have Ay:=oh hr;have A0:=HC.out.2;rw[An,hr,upP] at A0;cases Aj:zEn to_ y.1 with
    | true =>
     rw[if_pos Aj] at A0;have Br:Hid (o++[y]++upP to_ (L.drop (k+1)) r=R):=oh (by rw[<- A0];simp);have Ba:=zNm Aj;clear A5 Ac hy An hr A0 Aj A1 B9 vq1 vq2;have Bb:=oh (zKr HC.out.1 rfl HY.out);have Bs:∀(q:Nat),Hid (BkS F P ad w c s gen kb root G l L D (k:Int) 105 2 vI (.slice va o.length vc) o (wr.drewN q)):=λq=>oh (HC.out.1.ext ((zss wr).drewN q))
     have Ca:=oh Bs;clear Bs;rcases Ba with A7|⟨A7,Cb⟩
     .go_wp2_with fail;refine (Ai.out).mono ?_;rintro e w3 ⟨rfl,rfl⟩;go_wp2_with fail;have HV:=oh (zMY HC.out.1 rfl HY.out);refine (HV.out).mono ?_;rintro e w4 ⟨rfl,hS⟩;have Bc:=oh (zKr hS rfl HY.out);have Bd:=oh hS;clear hS;go_wp2_with fail;refine (Bc.out).mono ?_;rintro e w5 ⟨rfl,k5,rfl⟩;have Ad:=oh ((Bd.out.ext ((zss w4).drewN k5)).ext (zr.alloc (.cells #[.string y.1,.string y.2] 105)));go_wp2_with (at_builtin;refine yC Tryz.elP qX rfl _ _ rfl w.heap.size _ _ o [y] rfl rfl Ad.out.own (Sl.one (F:=λ_=>False) (zM (by simp)) (λf=>f)) (by have:=Ab.out.2;have:=A4.out;simp only[uD,uF];omega) Ad.out.ext0 (λf=>f) ?_;simp only[uD,uF,uV];intro a6 c6 w6 Ao Ap A3);have Ae:=oh (Ad.out.app Ao Ap A3 (uJ _));have Af:=zOZ Ae.out HG.out HD.out;rw[zMX A4.out] at Af;have Be:=oh Af;clear Ao Ap A3 Af;go_wp2_with fail;refine (Be.out).mono ?_;rintro e w7 ⟨rfl,Aq⟩;have Bf:=oh Aq;clear Aq;go_wp2_with fail;go_roundg (gk-1)
      case measure=>have:=A4.out;omega
      case rel=>exact⟨k+1,o++[y],by have:=A4.out;omega,rfl,by have:=Ay.out;simp;omega,by have:=Ab.out.2;simp;omega,oh ⟨by simpa using Bf.out,by
       have Bg:N-(o++[y]).length=r:=by have:=Ay.out;simp;omega
       rw[Bg];exact Br.out⟩⟩
     .go_wp2_with fail;refine (Ai.out).mono ?_;rintro e w3 ⟨rfl,rfl⟩;go_wp2_with fail;refine (Bb.out).mono ?_;rintro e w3 ⟨rfl,k3,rfl⟩;have HV:=oh (zMY (Ca.out k3).out rfl HY.out);go_wp2_with fail;refine (HV.out).mono ?_;rintro e w4 ⟨rfl,hS⟩;have Bc:=oh (zKr hS rfl HY.out);have Bd:=oh hS;clear hS;go_wp2_with fail;refine (Bc.out).mono ?_;rintro e w5 ⟨rfl,k5,rfl⟩;have Ad:=oh ((Bd.out.ext ((zss w4).drewN k5)).ext (zr.alloc (.cells #[.string y.1,.string y.2] 105)));go_wp2_with (at_builtin;refine yC Tryz.elP qX rfl _ _ rfl w.heap.size _ _ o [y] rfl rfl Ad.out.own (Sl.one (F:=λ_=>False) (zM (by simp)) (λf=>f)) (by have:=Ab.out.2;have:=A4.out;simp only[uD,uF];omega) Ad.out.ext0 (λf=>f) ?_;simp only[uD,uF,uV];intro a6 c6 w6 Ao Ap A3);have Ae:=oh (Ad.out.app Ao Ap A3 (uJ _));have Af:=zOZ Ae.out HG.out HD.out;rw[zMX A4.out] at Af;have Be:=oh Af;clear Ao Ap A3 Af;go_wp2_with fail;refine (Be.out).mono ?_;rintro e w7 ⟨rfl,Aq⟩;have Bf:=oh Aq;clear Aq;go_wp2_with fail;go_roundg (gk-1)
      case measure=>have:=A4.out;omega
      case rel=>exact⟨k+1,o++[y],by have:=A4.out;omega,rfl,by have:=Ay.out;simp;omega,by have:=Ab.out.2;simp;omega,oh ⟨by simpa using Bf.out,by
       have Bg:N-(o++[y]).length=r:=by have:=Ay.out;simp;omega
       rw[Bg];exact Br.out⟩⟩
    | false =>
     rw[if_neg (by rw[Aj];simp)] at A0;have Ar:Hid (o=R):=oh (by simpa using A0);have Bb:=oh (zKr HC.out.1 rfl HY.out);obtain⟨A7,Cb⟩:=zPr Aj;clear A5 Ac hy An hr A0 Aj A1 B9 vq1 vq2;go_wp2_with fail;refine (Ai.out).mono ?_;rintro e w3 ⟨rfl,rfl⟩;go_wp2_with fail;refine (Bb.out).mono ?_;rintro e w3 ⟨rfl,k3,rfl⟩;go_wp2_with fail;refine bodyPost_ret (v:=.tuple #[.slice va o.length vc,.nilIface]) (by simp[results,Tryz.results77,go_sem]) rfl ?_;obtain⟨P9,g1,g2,g3⟩:=(HC.out.1.ext ((zss wr).drewN k3)).done B6.out qX.len (by have:=Ab.out.2;have:=A4.out;omega);exact⟨P9,_,g1,g2,_,rfl,by rw[<- Ar.out];exact g3⟩
   .have i1:¬ (o.length:Int)<(N:Int):=by omega
    have Ar:Hid (o=R):=oh (by
     have:=HC.out.2;rw[show N-o.length=0 by omega] at this;rw[<- this,An];simp[upP])
    clear A5 Ac hy An A1 B9 vq1 vq2;go_wp2_with fail;refine (Ai.out).mono ?_;rintro e w3 ⟨rfl,rfl⟩;go_wp2_with fail;refine bodyPost_ret (v:=.tuple #[.slice va o.length vc,.nilIface]) (by simp[results,Tryz.results77,go_sem]) rfl ?_;obtain⟨P9,g1,g2,g3⟩:=HC.out.1.done B6.out qX.len (by have:=Ab.out.2;have:=A4.out;omega);exact⟨P9,_,g1,g2,_,rfl,by rw[<- Ar.out];exact g3⟩
  .have Ac:onI L.length (k:Int)=false:=zSG (.inr (by omega));rw[Ac] at A5;have Ai:=oh A5;have Cc:Hid (k<=L.length/\L.length<=1000):=oh ⟨by omega,A8⟩;have Ar:Hid (o=R):=oh (by have:=HC.out.2;rw[tH (by omega)] at this;simpa[upP] using this);clear A5 Ac A1 vq1 vq2;go_wp2_with fail;refine (Ai.out).mono ?_;rintro e w3 ⟨rfl,rfl⟩;go_wp2_with fail;refine bodyPost_ret (v:=.tuple #[.slice va o.length vc,.nilIface]) (by simp[results,Tryz.results77,go_sem]) rfl ?_;obtain⟨P9,g1,g2,g3⟩:=HC.out.1.done B6.out qX.len (by have:=Ab.out.2;have:=Cc.out;omega);exact⟨P9,_,g1,g2,_,rfl,by rw[<- Ar.out];exact g3⟩
end
end
section
open Go.RowKit
theorem zSH{b s:Nat}(h8:8<=b)(Bh:b<=256)(h1:256<=s)(h2:s<=1024):zE5 (zBN b s) :=
 ⟨rfl,rfl,rfl,by simp[zBN],λid hid=>by
  have hid':id<b:=hid;unfold zT.look zBN;simp[zBZ,hid'],h8,Bh,h1,h2⟩
theorem zMZ(D:zT):(zDO D).total:=λi hi=>by
 have hi':i<D.blocks:=hi;exact⟨_,by show (if i<D.blocks then some (yT (D.look i) i) else none)=_;rw[if_pos hi']⟩
theorem zIc{n:Nat}(h:8<=n):qN (zAW n [0,1,2,3,4,5])=some 6:=by
 refine zGy (λj hj=>?_) ?_
 .rw[zAX _ (by omega),if_pos (by simp;omega)];simp
 .rw[zAX _ (by omega),if_neg (by simp)]
theorem zJ5{n:Nat}(h:8<=n):zGb (zAW n [0,1,2,3,4,5]):=⟨by rw[zAX _ (by omega),if_pos (by simp)],by rw[zAX _ (by omega),if_pos (by simp)]⟩
def zNn(D:zT)(key v:ByteArray):GA:=yG (zDO (zEa D)) (zAW D.blocks [0,1,2,3,4,5]) 2 0 (zBK key v)
def zSz(D:zT)(key v:ByteArray):List Nat:=yS (zDO (zEa D)) (zAW D.blocks [0,1,2,3,4,5]) 0 (zBK key v)
section
variable {D:zT}{key v:ByteArray}
theorem zRY(hD:zE5 D)(hk:qP key=true)(hv:v.size<=24):zJj (zNn D key v) 6 1 [(key,v)]:=by
 have hd:=zNh (G:=zDO (zEa D)) hk hv hD.s256 (zIc hD.b8);have hn:(zNn D key v).node 6=some (zBK key v):=zPn hd (by show 6<D.blocks;have:=hD.b8;omega);refine⟨.inr ⟨by omega,by omega,by omega,.leaf hn rfl (zDH hk hv) rfl (λi e x he hx=>?_) (λx _=>zDy _)⟩,λ_=>.leaf hn rfl (by simp[zBK])⟩;match i,he,hx with
 | 0,he,hx =>
  simp[zBK] at he hx;subst he hx;exact⟨rfl,rfl⟩
 | i+1,he,_=>simp[zBK] at he
end
section
variable {P F:NP}{ad:Nat->Addr}{w:World}{c sp:Nat}{D:zT}{key v:ByteArray}
theorem zPs(hP:∀k,P k->F k)(hD:zE5 D)(hk:qP key=true)(hv:v.size<=24)(l:List Nat)(g:Nat) :
  ∀W,yE F ad W->vJ F W P c sp (zNn D key v) l -> Calls Tryz.prog 77 #[pgV c sp g,.int .i64 ((6:Nat):Int),.string e0,.string e0,.int .i64 65535] W (zGm F P ad W c sp (zNn D key v) l [(key,v)]):=λW hL h=>by
 have hR:=zJ4 hL hP h (by simp) (zNg (zMZ _) _ _ _) (by omega) (zRY hD hk hv) g e0 e0 65535 (by unfold zGl zB4;simp);have e:upP e0 (List.drop (zEC e0 [(key,v)]) [(key,v)]) (Int.toNat 65535)=[(key,v)]:=by
  have hz:qH key e0=false:=by
   cases h:qH key e0 with
   | false=>rfl
   | true =>
    unfold qH at h;rw[show e0.toList=[] from by simp[ByteArray.toList_eq]] at h;cases hk:key.toList <;> rw[hk] at h <;> simp[Op.bytesLess] at h
  have h0:zEC e0 [(key,v)]=0:=by simp[zEC,hz,rS]
  rw[h0,List.drop_zero,show Int.toNat 65535=65534+1 from rfl,upP,if_pos (by simp[zEn])];rfl
 rw[e] at hR;exact hR
end
end
section
open Go.RowKit
attribute [local go_sem ↓] Go.wp_at_zero Go.wp_at_succ
section
variable {P P' F F':NP}{ad:Nat->Addr}{w w':World}{S d c sp:Nat}
theorem zU.addS(n:zU P P' F F' ad w w')(hS:w.heap.size<=S)(h2:S<w'.heap.size)(hF:F' S):zU P (yD P' S) F F' ad w w' :=
 ⟨⟨n.stp.mods,λk hk h=>h.elim (n.stp.old k hk) (λe=>by omega),λk h=>h.elim (n.stp.bd k) (λe=>by rw[e];exact h2)⟩,λk h=>h.elim (n.sub k) (λe=>by rw[e];exact hF),n.grow,n.oldF,n.env⟩
def zDg:zT:=zBN 250 256
theorem zId:zE5 zDg:=zSH (by omega) (by omega) (by omega) (by omega)
def zSI(ad:Nat->Addr)(w:World)(key v:ByteArray)(e:Ending)(w':World):Prop :=
 ∃S d c sp P' F',e=.returned (.tuple #[.pointer (some ⟨S,0,none⟩),.bool true])/\StR F' w' P' S d c sp (zAH zDg) 0 ((6:Nat):Int) 1 (zNn zDg key v) (zSz zDg key v)/\zU NoB (yD P' S) NoB F' ad w w'
theorem zNo(hL:yE NoB ad w)(key v:ByteArray)(hk:qP key=true)(hv:v.size<=24)(lv:Value)(hl:Sl NoB w 2 vI lv [(key,v)]) :
  Calls Tryz.prog 13 #[lv] w (zSI ad w key v):=by
 have HL:=oh hL;have HK:=oh hk;have HV:=oh hv;have Az:=oh hl;obtain⟨la,lc,rfl, -⟩:=id hl;clear hL hk hv hl;have e1:([(key,v)]:List zE).length=1:=rfl;rw[e1] at Az ⊢
 go_enter Tryz.func13, Tryz.ntmps13
 go_wp2_with fail;refine (zLH 250 256 (by omega) (by omega) (by omega) (by omega)).mono ?_;rintro e w1 ⟨d,Pd,rfl,hD,hn,hm⟩;have As:=oh (zU.of (P:=NoB) (P':=Pd) HL.out (λ_ h=>h.elim) ⟨hm,λk hk h=>by have:=hn k h;omega,hD.bd⟩);have HD:Hid (DkS w1 Pd d zDg):=oh hD;clear hD hn hm;go_wp2_with fail;refine (zJn As.out.env (λ_ h=>.inr h) HD.out zId 4 (by omega) (by omega)).mono ?_;rintro e w2 ⟨S,c,sp,P2,F2,rfl,h2,n2⟩;have A6:=As.out.trans n2;have Am:=oh (show w.heap.size<=S from nM λh=>(A6.oldF S h h2.2.2.2).elim);have HS2b:=oh h2.lt;have B0:=oh h2;have At:=oh A6;have Bi:=oh (A6.sl (λ_ h=>h) Az.out);clear n2 A6 h2;go_wp2_with fail;go_loopg [8] 1 (λm v8 wr=>(m=1/\v8=.int .i64 0/\Hid (wr=w2))\/(m=0/\v8=.int .i64 1/\Hid (∃P6 F6,StR F6 wr P6 S d c sp (zAH zDg) 0 ((6:Nat):Int) 1 (zNn zDg key v) (zSz zDg key v)/\zU NoB (yD P6 S) NoB F6 ad w wr)))
 case atStart=>exact .inl ⟨rfl,rfl,oh rfl⟩
 case round =>
  rcases hrel with ⟨hg,rfl,HR⟩|⟨hg,rfl,HR⟩
  .have Cd:=HR.out;subst Cd;obtain⟨qb,qoff,Bj,Au,Ag⟩:=Bi.out.elemF (k:=0) (by simp);have d0:=Ag 0 (.string key) rfl;have d1:=Ag 1 (.string v) rfl;simp only[pA,uO] at d0 d1;subst Bj;have Bk:=oh (λ(h:StR F2 wr.drew P2 S d c sp (zAH zDg) 0 0 0 (zDO (zEa zDg)) (zAW zDg.blocks [0,1,2,3,4,5]))=>zSr (At.out.env.mods zr.drew) At.out.sub h (by show 1+1<_;omega) (by omega) key v HK.out HV.out (zJ5 (n:=250) (by omega)) (by rw[zBg];exact uJ _) (by show 0+10<=1000000;omega) 6 (zIc (n:=250) (by omega)));have zd0:wr.drew.cell? ⟨qb,qoff,none⟩=some (.string key):=d0;have zd1:wr.drew.cell? ⟨qb,qoff+1,none⟩=some (.string v):=d1;go_wp2_with fail;go_region_held3 (λw'=>w'.cell? ⟨qb,qoff,none⟩=some (.string key)/\w'.cell? ⟨qb,qoff+1,none⟩=some (.string v))
    (first|(with_reducible exact⟨zd0,zd1⟩)|(with_reducible exact⟨z60,z61⟩)|fail)
    (first
     | (go_at_call 60;(with_reducible refine (Bk.out (B0.out.at zr.drew)).mono ?_);rintro e w6 ⟨P6,F6,rfl,h6,n6⟩;have z60:w6.cell? ⟨qb,qoff,none⟩=some (.string key):=n6.cellK zd0 (λh=>Au (h.elim (At.out.sub _) (λe=>e ▸ B0.out.2.2.2)));have z61:w6.cell? ⟨qb,qoff+1,none⟩=some (.string v):=n6.cellK zd1 (λh=>Au (h.elim (At.out.sub _) (λe=>e ▸ B0.out.2.2.2))))
     | fail)
   have A9:=At.out.addS Am.out HS2b.out B0.out.2.2.2;have HF:=oh (show ∃P6 F6,StR F6 w6 P6 S d c sp (zAH zDg) 0 ((6:Nat):Int) 1 (zNn zDg key v) (zSz zDg key v)/\zU NoB (yD P6 S) NoB F6 ad w w6 from ⟨P6,F6,h6,(A9.trans (zU.ext A9.env A9.sub zr.drew)).trans n6⟩);clear h6 n6 z60 z61 zd0 zd1 d0 d1 Ag A9;go_wp2_with fail;go_roundg 0
   case measure=>omega
   case rel=>exact .inr ⟨rfl,by go_num,HF⟩
  .have Ce:=HR;go_wp2_with fail;go_ret2
   obtain⟨P6,F6,h6,n6⟩:=Ce.out;exact⟨S,d,c,sp,P6,F6,rfl,h6,n6⟩
end
end
section
open Go.RowKit
structure zDK(g:Nat)(G:GA)(l:List Nat)(root d:Nat)(ps:List zE)(pgs:List Nat):Prop where
 ctx:zCZ G l
 td:TD G g root d ps pgs
 blk:G.blocks=250
 size:G.size=256
 lay:∀i,i<250->l[i]? = some (if i<6 then 1 else if i∈pgs then 2 else 0)
 hi:∀i∈pgs,6<=i
 val:∀x∈ps,x.2.size<=400
 room:zA4 l+(pgs.length:Int)=238
section
variable {g:Nat}{G:GA}{l:List Nat}{root d:Nat}{ps:List zE}{pgs:List Nat}
theorem zDK.use(h:zDK g G l root d ps pgs):zAb l (λk=>k∈pgs):=λi hi=>by
 have hb:=h.td.lt i hi;have h6:=h.hi i hi;have:=h.lay i (by have:=h.blk;omega);rw[if_neg (by omega),if_pos hi] at this;exact .inr this
theorem zDK.put(h:zDK g G l root d ps pgs){key v:ByteArray}(B1:qP key=true)(hv:v.size<=400) :
  (zIO G l g root key v=.inr 3/\zA4 l<=(ndV G.size v:Nat)+d+1) \/
  ∃G' l' root' d' pgs',zIO G l g root key v=.inl (G',l',(root',(yV key ps).isNone))/\zDK g G' l' root' d' (yM key v true ps) pgs'/\G'.cost<=G.cost+61/\2<=root':=by
 rcases zR7 h.ctx h.td h.use B1 (show v.size<=4096 by omega) with a|⟨G',l',root',d',pgs',a1,a2,a3,a4,a5,a6,a7⟩
 .exact .inl a
 .have A2:∀i,i∈pgs'->l[i]? = some 0->6<=i:=λi hi h0=>by
   have A1:=a3.lt i hi;have hl:=h.lay i (by have:=a2.bl;have:=h.blk;omega);rw[h0] at hl;by_cases h6:i<6
   .rw[if_pos h6] at hl;cases hl
   .omega
  refine .inr ⟨G',l',root',d',pgs',a1,⟨a5,a3,by rw[a2.bl,h.blk],by rw[a2.sz,h.size],λi hi=>?_,λi hi=>?_,λx hx=>?_,?_⟩,zPl h.ctx h.td h.use B1 (by omega) a1,a6⟩
  .have hl:=h.lay i hi;by_cases h2:i∈pgs'
   .rcases a2.inn i h2 with ⟨b1,b2⟩|⟨b1,b2⟩
    .have h6:=h.hi i b1;rw[b2,hl,if_neg (by omega),if_pos b1,if_neg (by omega),if_pos h2]
    .have h6:=A2 i h2 b1;rw[if_neg (by omega),if_pos h2];exact b2
   .by_cases h1:i∈pgs
    .have h6:=h.hi i h1;rw[if_neg (by omega),if_pos h1] at hl;rw[if_neg (by omega),if_neg h2];rcases a2.gone i h1 h2 with ⟨_,b2⟩|⟨b1,_⟩
     .exact b2
     .rw[hl] at b1;cases b1
    .rw[(a2.rest i h1 h2).1,hl,if_neg h1,if_neg h2]
  .rcases a2.inn i hi with ⟨b1,_⟩|⟨b1,_⟩
   .exact h.hi i b1
   .exact A2 i hi b1
  .rcases zEt hx with rfl|hx
   .exact hv
   .exact h.val x hx
  .have:=a2.phi h.use h.td.nodup a3.nodup;have:=h.room;omega
theorem zDK.fits(h:zDK g G l root d ps pgs)(hf:ps.length<=40){key v:ByteArray}(B1:qP key=true)(hv:v.size<=400) :
  ∃G' l' root' d' pgs',zIO G l g root key v=.inl (G',l',(root',(yV key ps).isNone))/\zDK g G' l' root' d' (yM key v true ps) pgs'/\G'.cost<=G.cost+61/\2<=root':=by
 rcases h.put B1 hv with ⟨_,a⟩|a
 .have Cf:=h.td.count.1;have hd:=(h.td.few h.ctx.b256).2;have h1:=zOV ps h.val;have h2:=zOU v hv;have h3:=h.room;rw[h.size] at a Cf;have h4:pgs.length<=2 * ps.length+chS 256 ps:=by omega
  omega
 .exact a
end
theorem zDK.new(g:Nat):zDK g (zDO (zEa zDg)) (zAW 250 [0,1,2,3,4,5]) 0 0 [] []:=by
 refine⟨⟨zJ5 (by omega),zBg _ _,by show 250<=256;omega,by show 256<=256;omega,by show 256<=1024;omega⟩,TD.none _ _,rfl,rfl,λi hi=>?_,λi hi=>by simp at hi,λx hx=>by simp at hx,by decide +kernel⟩;rw[zAX _ hi];by_cases h6:i<6
 .rw[if_pos h6,if_pos (by simp;omega)]
 .rw[if_neg h6,if_neg (by simp;omega),if_neg (by simp)]
theorem zJ6{key v:ByteArray}:∀{m:List zE},(∀x∈m,qH x.1 key=true)->yM key v true m=m++[(key,v)]
 | [],_=>rfl
 | x :: m,h=>by
  rw[yM,if_pos (h x uH),zJ6 (λy hy=>h y (uI _ hy)),wX]
theorem zMa{l:List zE}(hs:yK l){k:Nat}(hk:k<l.length):∀x∈l.take k,qH x.1 l[k].1=true:=λx hx=>by
 obtain⟨i,hi,rfl⟩:=wI hx;rw[uQ] at hi;rw[rR];exact rB.1 hs i k (by omega) hk (by omega)
theorem zPt{l:List zE}(hs:yK l){k:Nat}(hk:k<l.length):yM l[k].1 l[k].2 true (l.take k)=l.take (k+1)/\yV l[k].1 (l.take k)=none:=by
 have h:=zMa hs hk;refine⟨?_,zEK h⟩;rw[zJ6 h,tL hk]
end
section
open Go.RowKit
attribute [local go_sem ↓] Go.wp_at_zero Go.wp_at_succ
section
variable {P P' F F':NP}{ad:Nat->Addr}{w w':World}{S d c sp:Nat}
def zEo(F:NP)(w:World)(P:NP)(S d c sp:Nat)(o:List zE):Prop :=
 ∃root dd pgs G l,StR F w P S d c sp (zAH zDg) 0 ((root:Nat):Int) (o.length:Int) G l/\zDK 2 G l root dd o pgs/\G.cost<=61 * o.length
def zTQ(ad:Nat->Addr)(w:World)(o:List zE)(e:Ending)(w':World):Prop :=
 ∃S d c sp P' F',e=.returned (.tuple #[.pointer (some ⟨S,0,none⟩),.bool true])/\zEo F' w' P' S d c sp o/\zU NoB (yD P' S) NoB F' ad w w'
theorem zNp(hL:yE NoB ad w)(o:List zE)(ho:zGi o)(lv:Value)(hl:Sl NoB w 2 vI lv o) :
  Calls Tryz.prog 13 #[lv] w (zTQ ad w o):=by
 have HL:=oh hL;have HO:=oh ho;have Az:=oh hl;obtain⟨la,lc,rfl,h1,h2,h3, -⟩:=id hl;unfold maxLen at h2;clear hL ho hl
 go_enter Tryz.func13, Tryz.ntmps13
 go_wp2_with fail;refine (zLH 250 256 (by omega) (by omega) (by omega) (by omega)).mono ?_;rintro e w1 ⟨d,Pd,rfl,hD,hn,hm⟩;have As:=oh (zU.of (P:=NoB) (P':=Pd) HL.out (λ_ h=>h.elim) ⟨hm,λk hk h=>by have:=hn k h;omega,hD.bd⟩);have HD:Hid (DkS w1 Pd d zDg):=oh hD;clear hD hn hm;go_wp2_with fail;refine (zJn As.out.env (λ_ h=>.inr h) HD.out zId 4 (by omega) (by omega)).mono ?_;rintro e w2 ⟨S,c,sp,P2,F2,rfl,h2,n2⟩;have A6:=As.out.trans n2;have Am:=oh (show w.heap.size<=S from nM λh=>(A6.oldF S h h2.2.2.2).elim);have HS2b:=oh h2.lt;have Bt:Hid (zEo F2 w2 P2 S d c sp []/\zU NoB (yD P2 S) NoB F2 ad w w2):=oh ⟨⟨0,0,[],_,_,h2,zDK.new 2,tQ _⟩,A6.addS Am.out HS2b.out h2.2.2.2⟩;clear n2 A6 h2;go_wp2_with fail;go_loopg [8] o.length (λm v8 wr=>∃(k:Nat),k+m=o.length/\v8=.int .i64 (k:Int)/\Hid (∃P6 F6,zEo F6 wr P6 S d c sp (o.take k)/\zU NoB (yD P6 S) NoB F6 ad w wr))
 case atStart=>exact⟨0,by omega,rfl,oh ⟨P2,F2,by simpa using Bt.out.1,Bt.out.2⟩⟩
 case round =>
  obtain⟨k,C8,rfl,HR⟩:=hrel;by_cases A1:k<o.length
  .obtain⟨P6,F6,⟨root,dd,pgs,G,l,Bl,Av,Bm⟩,Aw⟩:=HR.out;have Bu:=Aw.sl (λ_ h=>h) Az.out;obtain⟨qb,qoff,Bj,Au,Ag⟩:=Bu.elemF (k:=k) A1;have d0:=Ag 0 (.string o[k].1) rfl;have d1:=Ag 1 (.string o[k].2) rfl;simp only[uO] at d0;have Ah:=wL A1;have Aa:=HO.out.ok _ Ah;have Bn:=HO.out.small _ Ah;have Cg:=HO.out.len;obtain⟨B2,B3⟩:=zPt HO.out.sorted A1;have Ak:(o.take k).length=k:=by rw[uQ];omega
   obtain⟨x,hx⟩:∃x,x=o[k]:=⟨_,rfl⟩;rw[<- hx] at d0 d1 Aa Bn B2 B3;obtain⟨key,v⟩:=x;simp only at d0 d1 Aa Bn B2 B3;obtain⟨G',l',root',d',pgs',q1,q2,q3, -⟩:=Av.fits (by rw[Ak];omega) Aa.1 (show v.size<=400 by omega);rw[B3] at q1;rw[B2] at q2;have Bk:=oh (λ(h:StR F6 wr.drew P6 S d c sp (zAH zDg) 0 ((root:Nat):Int) ((o.take k).length:Int) G l)=>zSv (Aw.env.mods zr.drew) (λj hj=>Aw.sub j (.inl hj)) h (by show 1+1<_;omega) (by rw[Ak];omega) key v Aa.1 (by omega) Av.ctx Av.td Av.use (by rw[Ak] at Bm;omega) q1);have Ae:=oh (Bl.at (zss wr).drew);have Ax:=oh Aw;have HQ:Hid (zDK 2 G' l' root' d' (o.take (k+1)) pgs'/\G'.cost<=61 * (k+1)/\(o.take k).length=k/\(o.take (k+1)).length=k+1):=oh ⟨q2,by rw[Ak] at Bm;omega,Ak,by rw[uQ];omega⟩;have Cn:=oh Bl.2.2.2;subst Bj;have i1:(0:Int)<=(k:Int):=by omega
   have i2:(k:Int)<(o.length:Int):=by omega
   have zd0:wr.drew.cell? ⟨qb,qoff+k * 2,none⟩=some (.string key):=d0;have zd1:wr.drew.cell? ⟨qb,qoff+k * 2+1,none⟩=some (.string v):=d1;have Ch:Hid (∀(e:Ending) (w6:World),zRN F6 P6 ad wr.drew S d c sp (zAH zDg) 0 ((o.take k).length:Int) G' l' root' true e w6->e=.returned (.tuple #[.bool true,.nilIface])/\(∃P7 F7,zEo F7 w6 P7 S d c sp (o.take (k+1))/\zU NoB (yD P7 S) NoB F7 ad w w6)/\w6.cell? ⟨qb,qoff+k * 2,none⟩=some (.string key)/\w6.cell? ⟨qb,qoff+k * 2+1,none⟩=some (.string v)):=oh (by
    rintro e w6 ⟨P7,F7,rfl,h7,n7⟩;obtain⟨b1,b2,b3,b4⟩:=HQ.out;refine⟨rfl,⟨P7,F7,⟨root',d',pgs',G',l',?_,b1,by rw[b4];exact b2⟩,(Ax.out.trans (zU.ext Ax.out.env Ax.out.sub (zss wr).drew)).trans n7⟩,n7.cellK zd0 (λh=>Au (Ax.out.sub _ h)),n7.cellK zd1 (λh=>Au (Ax.out.sub _ h))⟩;have h8:=h7;rw[if_pos rfl,b3] at h8;rw[b4];exact_mod_cast h8)
   clear Bl Av Bm Aw Bu Ag d0 d1 Ah Aa Bn Cg B2 B3 Ak hx q1 q2 q3;go_wp2_with fail;go_region_held3 (λw'=>w'.cell? ⟨qb,qoff+k * 2,none⟩=some (.string key)/\w'.cell? ⟨qb,qoff+k * 2+1,none⟩=some (.string v))
    (first|(with_reducible exact⟨zd0,zd1⟩)|(with_reducible exact⟨z60,z61⟩)|fail)
    (first
     | (go_at_call 60;(with_reducible refine (Bk.out Ae.out).mono ?_);intro e w6 Bv;obtain⟨rfl,Bw,z60,z61⟩:=Ch.out e w6 Bv)
     | fail)
   have HF:=oh Bw;clear Bw z60 z61 zd0 zd1 Bv;go_wp2_with fail;go_roundg (gk-1)
   case measure=>omega
   case rel=>exact⟨k+1,by omega,by go_num,HF⟩
  .have Ci:k=o.length:=by omega
   subst Ci;go_wp2_with fail;go_ret2
   obtain⟨P6,F6,h6,n6⟩:=HR.out;exact⟨S,d,c,sp,P6,F6,rfl,by simpa using h6,n6⟩
end
section
variable {P P' F F':NP}{ad:Nat->Addr}{w w':World}{S d c sp:Nat}{s:jM}{home keys:Int}{G G':GA}{l l':List Nat}{root D:Nat}{L:List zE}
def zSJ(F P:NP)(ad:Nat->Addr)(w:World)(S d c sp:Nat)(s:jM)(home root keys:Int)(G:GA)(l:List Nat)(o:List zE)(e:Ending)(w':World):Prop :=
 ∃P' F' v,e=.returned (.tuple #[v,.nilIface])/\Sl F' w' 2 vI v o/\StR F' w' P' S d c sp s home root keys G l/\zU P P' F F' ad w w'
theorem zOa(hL:yE F ad w)(hP:∀k,P k->F k)(h:StR F w P S d c sp s home (root:Int) keys G l)(hg:s.gen+1<18446744073709551616)(from_ to_:ByteArray)(most:Int)(o:List zE)
  (hR:∀W,yE F ad W->vJ F W P c sp G l -> Calls Tryz.prog 77 #[pgV c sp (s.gen+1),.int .i64 (root:Int),.string from_,.string to_,.int .i64 most] W (zGm F P ad W c sp G l o)) :
  Calls Tryz.prog 19 #[.pointer (some ⟨S,0,none⟩),.string from_,.string to_,.int .i64 most] w (zSJ F P ad w S d c sp s home (root:Int) keys G l o):=by
 have Cj:=oh (λop=>zKk h op);have Bx:=oh (λW (m:zG w W)=>zKl (h.at m) hg);have By:=oh (λW (m:zG w W)=>hR W (hL.mods m.ext) (h.at m).1);have Ck:=oh h;have HN:=oh (λW (m:zG w W)=>zU.ext hL hP m);have c9:Hid (∀W,zG w W->W.cell? ⟨S,9,none⟩=some (.int .i64 (root:Int))):=oh (λW m=>by obtain⟨_,⟨a,cc,h2⟩,_,_⟩:=h.at m;exact h2.cell rfl);clear hL hP h hg hR;obtain⟨pg,Bz⟩:∃pg,pg=pgV c sp (s.gen+1):=⟨_,rfl⟩;rw[<- Bz] at Bx By;clear Bz
 go_enter Tryz.func19, Tryz.ntmps19
 go_wp2_with fail;refine (Cj.out _).mono ?_;rintro e w1 ⟨rfl,rfl⟩;have zd:=c9.out _ (zss w).drew;go_wp2_with fail;go_region_held3 (λw'=>w'.cell? ⟨S,9,none⟩=some (.int .i64 (root:Int)))
  (first|(with_reducible exact zd)|(with_reducible exact z5)|(with_reducible exact z6)|fail)
  (first
   | (go_at_call 78;(with_reducible refine (Bx.out _ (zss w).drew).mono ?_);rintro e w5 ⟨rfl,m5⟩;have x5:=(zss w).drew.trans m5;have z5:=c9.out _ x5)
   | (go_at_call 77;((with_reducible refine (By.out _ x5).mono ?_);intro e w6 hd;obtain⟨P6,F6,C0,n6,v6,rfl,C1⟩:=hd;have h6:=(Ck.out.at x5).nxt n6 C0;have n06:=(HN.out _ x5).trans n6;have z6:w6.cell? ⟨S,9,none⟩=some (.int .i64 (root:Int)):=(by obtain⟨_,⟨a,cc,h2⟩,_,_⟩:=h6;exact h2.cell rfl)))
   | fail)
 have H6:=oh h6;have N06:=oh n06;have Ae:=oh C1;clear h6 n06 C1 n6 C0 z5 z6 zd x5 m5;go_wp2_with fail;refine (wrap_nil _ _).mono ?_;rintro e w7 ⟨rfl,rfl⟩;go_wp2_with fail;go_ret2
 exact⟨P6,F6,v6,rfl,Ae.out,H6.out,N06.out⟩
end
end
section
open Go.RowKit
section
variable {G:GA}{gen:Nat}
theorem vY.eachT{T:zEk}{lo:ByteArray}{hi:Option ByteArray}{kk:List ByteArray}{cc:List Int}{ps:List zE}{q:List Nat}(h:vY T lo hi kk cc ps q):∀k∈cc,∃lo' hi' l' q',T lo' hi' k.toNat l' q':=λk hk=>by
 obtain⟨n,lo',hi',l',q',rfl,t,_⟩:=h.each k hk;exact⟨lo',hi',l',q',by rw[uK];exact t⟩
theorem TrD.trE:∀(d:Nat) (lo:ByteArray) (hi:Option ByteArray) (id:Nat) (l:List zE) (q:List Nat),TrD G gen d lo hi id l q->TrE G.node id d
 | 0,_,_,_,_,_,h=>h.elim
 | d+1,lo,hi,id,l,q,h=>by
  obtain⟨n,q,hp,hr,rfl,h⟩:=h;have hn:=zRP hp;rcases h with ⟨hl,rfl,B5,he,_⟩|⟨hl,hk⟩
  .exact .leaf hn hl (λe=>by
    have:=he.len;rw[e] at this;exact B5 (rY.1 (by simpa using this.symm)))
  .exact .inner hn hl (λk hk'=>by
    obtain⟨lo',hi',l',q',t⟩:=hk.eachT k hk';exact TrD.trE d _ _ _ _ _ t)
theorem TD.treeE{root d:Nat}{ps:List zE}{pgs:List Nat}(h:TD G gen root d ps pgs)(hs:256<=G.size)(hb:G.blocks<=256):zJj G root d ps:=by
 refine⟨h.treeG hs hb,λhr=>?_⟩;rcases h.tree with ⟨h0,_,_,_⟩|⟨_,hT⟩
 .exact absurd h0 hr
 .exact TrD.trE _ _ _ _ _ _ hT
theorem zOb:∀(l:List zE) (m:Nat),l.length<=m->upP e0 l m=l
 | [],m,_=>by cases m <;> rfl
 | x :: l,0,h=>by simp at h
 | x :: l,m+1,h=>by
  rw[upP,if_pos (by simp[zEn]),zOb l m (by simpa using h)]
theorem zS0(k:ByteArray):qH k e0=false:=by
 cases h:qH k e0 with
 | false=>rfl
 | true =>
  unfold qH at h;rw[show e0.toList=[] from by simp[ByteArray.toList_eq]] at h;cases hk:k.toList <;> rw[hk] at h <;> simp[Op.bytesLess] at h
theorem zRZ(l:List zE):zEC e0 l=0:=by
 cases l with
 | nil=>rfl
 | cons x l=>simp[zEC,zS0,rS]
end
section
variable {P P' F F':NP}{ad:Nat->Addr}{w w':World}{c s:Nat}{G:GA}{l:List Nat}{gen root d:Nat}{ps:List zE}{pgs:List Nat}
theorem zNq(hL:yE F ad w)(hP:∀k,P k->F k)(h:vJ F w P c s G l)(g:Nat)(hT:TD G gen root d ps pgs)(hs:256<=G.size)(hb:G.blocks<=256)(A8:ps.length<=1000) :
  Calls Tryz.prog 77 #[pgV c s g,.int .i64 (root:Int),.string e0,.string e0,.int .i64 65535] w (zGm F P ad w c s G l ps):=by
 obtain⟨H,hl,ht,hH⟩:=h.tot;have C2:=hT.up hl;have Cl:256<=H.size:=by rw[hl.size];exact hs
 have C3:H.blocks<=256:=by rw[hl.blocks];exact hb
 have hd:=(C2.few C3).2;have hR:=zJ4 hL hP hH A8 ht (by omega) (C2.treeE Cl C3) g e0 e0 65535 (by unfold zGl zB4;simp);rw[zRZ,List.drop_zero,zOb ps _ (by show ps.length<=65535;omega)] at hR;refine hR.mono ?_;rintro e w' ⟨P',F',hG,hN,hr⟩;exact⟨P',F',hG.le hl,hN,hr⟩
end
end
end Go.Proofs.YtgphfebjjedeaaaGreatDoor
