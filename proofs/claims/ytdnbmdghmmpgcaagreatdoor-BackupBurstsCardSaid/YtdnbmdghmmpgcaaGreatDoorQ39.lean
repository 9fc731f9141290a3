import Derived.Test.YtdnbmdghmmpgcaaGreatDoorQ38
namespace Go.Proofs.YtdnbmdghmmpgcaaGreatDoor
open Lib renaming hid->oh
set_option maxHeartbeats 4000000
set_option maxRecDepth 100000
section
open Go.RowKit
attribute [local go_sem ↓] Go.wp_at_zero Go.wp_at_succ
section
variable {F:Nat->Prop}{w w':World}
def onI(n:Nat)(i:Int):Bool:=decide (0<=i/\i<(n:Int))
def zMW(n:Nat)(i by_:Int):Int:=if onI n i=true then i+by_ else -1
end
section
variable {ad:Nat->Addr}{w0 w w':World}{kb root D:Nat}{G:GA}{L:List zD}{i:Int}
theorem zDd.le{st:StC}(h:zDd G L D st i):(onI L.length i=true/\∃k:Nat,i=(k:Int)/\zCe G L D st k)\/(onI L.length i=false/\st=[]):=by
 rcases h with ⟨h1,h2,h3⟩|⟨h1,h2⟩
 .exact .inl ⟨uT ⟨h1,h2⟩,i.toNat,by omega,h3⟩
 .exact .inr ⟨uX (by omega),h2⟩
theorem zRC{st:List jC}(h:zDd G L D (st.map jC.pl) i):zEs st:=λx hx=>by
 have:=h.small x.pl (List.mem_map_of_mem hx);simp only[jC.pl] at this;omega
theorem zRD(hD:D<=16){st:StC}(h:zDd G L D st i)(b:Int)(hb:b=1\/b = -1):∃st',qG G b st=.inl st'/\zDd G L D st' (zMW L.length i b):=by
 unfold zMW;rcases h.le with ⟨h1,k,rfl,h2⟩|⟨h1,rfl⟩
 .rw[if_pos h1];rcases hb with rfl|rfl
  .exact zQm hD h2
  .exact zQn hD h2
 .rw[if_neg (by rw[h1];simp)];exact⟨[],rfl,.inr ⟨.inl (by omega),rfl⟩⟩
end
section
variable {α:Type}{F P P' F' P1 F1 P0 F0:Nat->Prop}{ad:Nat->Addr}{w w' w0 w1 wr:World}{base c s gen kb:Nat}{root D:Nat}{G G':GA}{l l':List Nat}{L:List zD}{sv sv' v v':Value}{st st':List jC}{x x':List α}{i:Int}{e:TypeId}{sz:Nat}{enc:α->List Value}
theorem CuI.app{r:Int}(h:CuI F P ad w base c s gen kb r G l sv st)(hr:zCw w0 F (cuQ P kb sv) w e sz enc v x)(n:zV P0 (cuQ P kb sv) F0 F ad w0 w)(ho:yA (λ_=>False) w' w0.heap.size e sz enc v' x')(m:zA (λk=>v.ownBlock=some k) w w'){K:Nat}(hat:v'.ownBlock=v.ownBlock\/v'.ownBlock=some K)(hK:w.heap.size<=K) :
  CuI (zDZ F v') P ad w' base c s gen kb r G l sv st:=by
 have hnew:∀k,k<w.heap.size->¬ F k->¬ zDZ F v' k:=λk hk hn hf=>by
  rcases hf with hf|hf
  .exact hn hf
  .rcases hat with e|e
   .exact hn (hr.2 k (e ▸ hf)).1
   .rw[e] at hf;injection hf with hf;omega
 exact⟨(zCw.app n hr ho m hat hK).1.env,λk hk=>.inl (h.sub k hk),h.pg.plus m (λk hk e=>(hr.2 k e).2 (.inl hk)) (λk hk=>(hr.2 k hk).1) hnew,
  ⟨h.cu.blk.mods m (λe=>(hr.2 kb e).2 (.inr (.inl rfl))),h.cu.row.mods m (λg hg e=>(hr.2 g e).2 (.inr (.inr hg))),λy hy=>(h.cu.fr y hy).step (m.mono (λk hk=>(hr.2 k hk).1)) hnew,λk hk=>⟨.inl (h.cu.nP k hk).1,(h.cu.nP k hk).2⟩,h.cu.ok⟩,uY h.bl m.size⟩
def BkS(F0 P0:Nat->Prop)(ad:Nat->Addr)(w0:World)(c s gen kb root:Nat)(G:GA)(l:List Nat)(L:List zD)(D:Nat)(i:Int)(e:TypeId)(sz:Nat)(enc:α->List Value)(v:Value)(x:List α)(wr:World):Prop :=
 ∃(F P:Nat->Prop) (base:Nat) (sv:Value) (st:List jC),CuI F P ad wr base c s gen kb (root:Int) G l sv st/\zV P0 (cuQ P kb sv) F0 F ad w0 wr/\zDd G L D (st.map jC.pl) i/\zCw w0 F (cuQ P kb sv) wr e sz enc v x
theorem BkS.ext(h:BkS F0 P0 ad w0 c s gen kb root G l L D i e sz enc v x w)(m:zG w w'):BkS F0 P0 ad w0 c s gen kb root G l L D i e sz enc v x w':=by
 obtain⟨F,P,base,sv,st,h1,h2,h3,h4⟩:=h;have h5:=h1.ext m;exact⟨F,P,base,sv,st,h5.1,h2.trans h5.2,h3,h4.ext m⟩
theorem BkS.ext0(h:BkS F0 P0 ad w0 c s gen kb root G l L D i e sz enc v x w):w0.heap.size<=w.heap.size:=by
 obtain⟨F,P,base,sv,st,h1,h2,h3,h4⟩:=h;exact h2.stp.mods.size
theorem BkS.own(h:BkS F0 P0 ad w0 c s gen kb root G l L D i e sz enc v x w):yA (λ_=>False) w w0.heap.size e sz enc v x:=by
 obtain⟨F,P,base,sv,st,h1,h2,h3,h4⟩:=h;exact h4.1
theorem BkS.app(h:BkS F0 P0 ad w0 c s gen kb root G l L D i e sz enc v x w)(ho:yA (λ_=>False) w' w0.heap.size e sz enc v' x')(m:zA (λk=>v.ownBlock=some k) w w'){K:Nat}(hat:v'.ownBlock=v.ownBlock\/v'.ownBlock=some K)(hK:w.heap.size<=K) :
  BkS F0 P0 ad w0 c s gen kb root G l L D i e sz enc v' x' w':=by
 obtain⟨F,P,base,sv,st,h1,h2,h3,h4⟩:=h;obtain⟨j1,j2⟩:=zCw.app h2 h4 ho m hat hK;exact⟨zDZ F v',P,base,sv,st,h1.app h4 h2 ho m hat hK,j1,h3,j2⟩
theorem BkS.done(hL:yG F0 ad w0)(h:BkS F0 P0 ad w0 c s gen kb root G l L D i e sz enc v x w)(henc:∀y,(enc y).length=sz)(hl:x.length<=140737488355328) :
  ∃P',vH (λk=>F0 k\/P' k) w P' c s G l/\zV P0 P' F0 (λk=>F0 k\/P' k) ad w0 w/\Sl (λk=>F0 k\/P' k) w sz enc v x:=by
 obtain⟨F,P,base,sv,st,h1,h2,h3,h4⟩:=h;have n:=(h2.shrink (P2:=P) (λk hk=>.inl hk));refine⟨P,h1.pg.anti (λk hk=>hk.elim (h2.grow k) (h1.sub k)),n.least,?_⟩;exact yA.sl (F:=λk=>F0 k\/P k) ⟨h4.1.1,λg hg hf=>hf.elim (λhf=>by have h1:=(h4.1.lt g hg).1;have h2:=hL.lt g hf;omega) (λhp=>(h4.2 g hg).2 (.inl hp))⟩ henc hl
theorem zOO(h:BkS F0 P0 ad w0 c s gen kb root G l L D i e sz enc v x w)(ht:G.total)(hD:D<=16) : Calls Tryz.prog 128 #[.pointer (some ⟨kb,0,none⟩)] w λen w'=>en=.returned .nilIface/\BkS F0 P0 ad w0 c s gen kb root G l L D (zMW L.length i 1) e sz enc v x w':=by
 obtain⟨F,P,base,sv,st,h1,h2,h3,h4⟩:=h;obtain⟨st',e1,e2⟩:=zRD hD h3 1 (.inl rfl);refine (zQ9 h1 (zRC h3) ht).mono ?_;rintro e w' ⟨P1,F1,sv1,st1,k1,k2,k3⟩;rw[e1] at k3;exact⟨k3.1,F1,P1,base,sv1,st1,k1,h2.trans k2,by rw[k3.2];exact e2,h4.nxt k2⟩
theorem zRt(h:BkS F0 P0 ad w0 c s gen kb root G l L D i e sz enc v x w)(ht:G.total)(hT:zJl G root D L)(key:ByteArray)(hb:zBy key=true) : Calls Tryz.prog 125 #[.pointer (some ⟨kb,0,none⟩),.string key] w λen w'=>en=.returned .nilIface/\BkS F0 P0 ad w0 c s gen kb root G l L D (zEI key L:Int) e sz enc v x w':=by
 obtain⟨F,P,base,sv,st,h1,h2,h3,h4⟩:=h;obtain⟨st',e1,e2⟩:=zQo key hT;refine (zPd key h1 ht).mono ?_;rintro e w' ⟨P1,F1,sv1,st1,k1,k2,k3⟩;have e3:zId G (root:Int) key=.inl st':=by unfold zId;rw[if_pos hb,e1]
 rw[e3] at k3;exact⟨k3.1,F1,P1,base,sv1,st1,k1,h2.trans k2,by rw[k3.2];exact e2,h4.nxt k2⟩
theorem zS8(h:BkS F0 P0 ad w0 c s gen kb root G l L D i e sz enc v x w) : Calls Tryz.prog 126 #[.pointer (some ⟨kb,0,none⟩)] w λen w'=>en=.returned (.bool (onI L.length i))/\w=w':=by
 obtain⟨F,P,base,sv,st,h1,h2,h3,h4⟩:=h;have:(!st.isEmpty)=onI L.length i:=by
  rcases h3.le with ⟨h4,k,rfl,n,a,r,pre,p,suf,lo,hi,e,_⟩|⟨h4,h5⟩
  .rw[h4];cases st with
   | nil=>simp at e
   | cons x r=>rfl
  .rw[h4];rw[List.map_eq_nil_iff] at h5;rw[h5];rfl
 rw[<- this];exact zNd h1
theorem zKq(h:BkS F0 P0 ad w0 c s gen kb root G l L D i e sz enc v x w){k:Nat}{y:zD}(hi:i=(k:Int))(hx:L[k]? = some y) : Calls Tryz.prog 127 #[.pointer (some ⟨kb,0,none⟩)] w λen w'=>en=.returned (.string y.1)/\∃q,w'=w.drewN q:=by
 obtain⟨F,P,base,sv,st,h1,h2,h3,_⟩:=h;subst hi;have hk:=(uC.1 hx).1;rcases h3 with ⟨_,_,h4⟩|⟨h4,_⟩
 .rw[uM] at h4;obtain⟨n,a,r,e,z,e1,e2,e3,e4,e5,e6,e7,e8⟩:=h4.pair;rw[hx] at e3;injection e3 with e3;subst e3;cases st with
  | nil=>simp at e1
  | cons z st =>
   rw[wZ] at e1;injection e1 with e1 _;have ha:=congrArg Prod.snd e1;have hn:=congrArg Prod.fst e1;rw[<- e4];exact zSd h1 ha (by rw[show z.node=n from hn];exact e2)
 .omega
end
theorem zMX{n k:Nat}(h:k<n)(b:Int):zMW n (k:Int) b=(k:Int)+b:=by
 unfold zMW;exact if_pos (uT ⟨by omega,by omega⟩)
theorem zRu{n:Nat}{i:Int}(h:i<0\/(n:Int)<=i):onI n i=false:=uX (by omega)
def zEt(to_ k:ByteArray):Bool:=decide (to_=⟨#[]⟩) || yX k to_
def upP(to_:ByteArray):List zD->Nat->List zD
 | [],_=>[]
 | _,0=>[]
 | x :: r,m+1=>if zEt to_ x.1=true then x :: upP to_ r m else []
def zGs(F P:Nat->Prop)(ad:Nat->Addr)(w:World)(c s:Nat)(G:GA)(l:List Nat)(o:List zD)(e:Ending)(w':World):Prop :=
 zCU F P ad w c s G l (λF' w' e=>∃v,e=.returned (.tuple #[v,.nilIface])/\Sl F' w' 2 yS v o) e w'
section
variable {α:Type}{F P P' F' P1 F1 P0 F0:Nat->Prop}{ad:Nat->Addr}{w w' w0 w1 wr:World}{base c s gen kb:Nat}{root D:Nat}{G G':GA}{l l':List Nat}{L:List zD}{sv sv' v v':Value}{st st':List jC}{x x':List α}{i:Int}{e:TypeId}{sz:Nat}{enc:α->List Value}
theorem zMY(h:BkS F0 P0 ad w0 c s gen kb root G l L D i e sz enc v x w){k:Nat}{y:zD}(hi:i=(k:Int))(hx:L[k]? = some y) : Calls Tryz.prog 129 #[.pointer (some ⟨kb,0,none⟩)] w λen w'=>en=.returned (.tuple #[.string y.2,.nilIface])/\BkS F0 P0 ad w0 c s gen kb root G l L D i e sz enc v x w':=by
 obtain⟨F,P,base,sv,st,h1,h2,h3,h9⟩:=h;subst hi;have hk:=(uC.1 hx).1;have h30:=h3;rcases h3 with ⟨_,_,h4⟩|⟨h4,_⟩
 .rw[uM] at h4;obtain⟨n,a,r,e,z,e1,e2,e3,e4,e5,e6,e7,e8⟩:=h4.pair;rw[hx] at e3;injection e3 with e3;subst e3;cases st with
  | nil=>simp at e1
  | cons z st =>
   rw[wZ] at e1;injection e1 with e1 _;have ha:=congrArg Prod.snd e1;have hn:=congrArg Prod.fst e1;have hRG : -9223372036854775808<=e.chain/\e.chain<=9223372036854775807:=by
    have h3:=zEk e8 e7 e2;unfold vA at h3;simp only[uL] at h3;have h4:=h3.2;split at h4
    .omega
    .simp only[uL,uQ,zCk] at h4;omega
   refine (zRA h1 ha (by rw[show z.node=n from hn];exact e2) e5 e6 hRG).mono ?_;rintro en w' ⟨rfl,P',F',k1,k2⟩;exact⟨rfl,F',P',base,sv,z :: st,k1,h2.trans k2,h30,h9.nxt k2⟩
 .omega
theorem zNe{to_ k:ByteArray}(h:zEt to_ k=true):(to_.toList.isEmpty=true)\/(to_.toList.isEmpty=false/\Op.bytesLess k.toList to_.toList=true):=by
 cases hfe:to_.toList.isEmpty with
 | true=>exact .inl rfl
 | false =>
  refine .inr ⟨rfl,?_⟩;unfold zEt at h;have hne:to_ ≠ ⟨#[]⟩:=λe=>by rw[e] at hfe;simp[ByteArray.toList_eq] at hfe
  rw[uX hne,Bool.false_or] at h;exact h
theorem zPe{to_ k:ByteArray}(h:zEt to_ k=false):to_.toList.isEmpty=false/\Op.bytesLess k.toList to_.toList=false:=by
 unfold zEt at h;rw[Bool.or_eq_false_iff] at h;refine⟨?_,h.2⟩;cases hfe:to_.toList.isEmpty with
 | false=>rfl
 | true =>
  have he:to_=⟨#[]⟩:=toList_inj (by rw[wS.1 hfe];simp[ByteArray.toList_eq]);rw[uT he] at h;cases h.1
end
section
variable {F P P' F' P1 F1:Nat->Prop}{ad:Nat->Addr}{w w' w0 w1:World}{c s gen:Nat}{root D:Nat}{G:GA}{l:List Nat}{L:List zD}
theorem zJ4(hL:yG F ad w)(hP:∀k,P k->F k)(h:vH F w P c s G l)(hlen:L.length<=1000)(ht:G.total)(hD:D<=16)(hT:zJl G root D L)(gen:Nat)(from_ to_:ByteArray)(most:Int)(hm:zGr from_ to_ most=true) :
  Calls Tryz.prog 77 #[pgV c s gen,.int .i64 (root:Int),.string from_,.string to_,.int .i64 most] w (zGs F P ad w c s G l (upP to_ (L.drop (zEI from_ L)) most.toNat)):=by
 have m0:zG w (w.alloc (gP c s gen)):=(zA.refl _ w).alloc _;have HN0:=oh (zV.ext hL hP m0);have HL0:=oh hL;have hOP:=λop=>zRB HN0.out.env hP (h.at m0) gen (root:Int) op from_ to_ most
 rw[hm] at hOP;have HOP:=oh hOP;have hbq:zBy from_=true:=by unfold zGr at hm;simp only[uL] at hm;exact hm.1.1.1
 have hm1:0<=most/\most<=65535:=by unfold zGr at hm;simp only[uL,uQ] at hm;omega
 obtain⟨N,rfl⟩:∃N:Nat,most=(N:Int):=⟨most.toNat,by omega⟩;rw[uM];have HB:=oh hbq;have HG:=oh ht;have HT:=oh hT;have HD:=oh hD;obtain⟨z,hz⟩:∃z,z=zEI from_ L:=⟨_,rfl⟩;have hzl:z<=L.length:=by rw[hz];exact tY
 have HZ:=oh hz;obtain⟨R,hR⟩:∃R,R=upP to_ (L.drop z) N:=⟨_,rfl⟩;have HR:=oh hR;rw[<- hz,<- hR];clear hL hP h m0 hOP hm hm1 hbq ht hD hT hz hR;unfold pgV at HOP ⊢
 go_enter Tryz.func77, Tryz.ntmps77
 go_wp2_with fail;refine (HOP.out _).mono ?_;rintro e w1 hd;obtain⟨kb,base,F1,rfl,h1,n1⟩:zSe F P ad (w.alloc (gP c s gen)) c s gen (root:Int) G l e w1:=by
  rcases hd with ⟨_,h⟩|⟨h,_⟩
  .exact h
  .cases h
 have hS1:BkS F P ad w c s gen kb root G l L D (-1) 111 2 yS (.slice none 0 0) [] w1:=⟨F1,P,base,_,[],h1,HN0.out.trans n1,.inr ⟨.inl (by omega),rfl⟩,zCw.nil _ _ _ _ _ _ _⟩;have hsk:=zRt hS1 HG.out HT.out from_ HB.out;rw[<- HZ.out] at hsk;have HSK:=oh hsk;clear hd h1 n1 hS1 hsk;go_wp2_with fail;refine (HSK.out).mono ?_;rintro e w2 ⟨rfl,hS⟩;have HS2:=oh hS;clear hS;go_wp2_with fail;go_loopg [13,14] (L.length-z) (λm v13 v14 wr=>∃(k:Nat) (o:List zD),k+m=L.length/\v13=.nilIface/\o.length<=N/\o.length<=k/\Hid (BkS F P ad w c s gen kb root G l L D (k:Int) 111 2 yS v14 o wr/\o++upP to_ (L.drop k) (N-o.length)=R))
 case atStart=>exact⟨z,[],by omega,rfl,tJ _,tJ _,oh ⟨HS2.out,by rw[HR.out];simp⟩⟩
 case round =>
  obtain⟨k,o,hkm,rfl,hoN,hok,HC⟩:=hrel;obtain⟨va,vc,rfl,vq1,vq2⟩:=HC.out.1.own.form;have hon:=zS8 HC.out.1;have HOK:=oh (And.intro hoN hok);by_cases hlt:k<L.length
  .have hof:onI L.length (k:Int)=true:=uT ⟨by omega,by omega⟩;rw[hof] at hon;have HON:=oh hon;obtain⟨y,hy⟩:∃y,L[k]? = some y:=⟨_,uB hlt⟩;have HY:=oh hy;have HLT:=oh hlt;have hdr:L.drop k=y :: L.drop (k+1):=by rw[wM hlt];rw[uB hlt] at hy;injection hy with hy;rw[hy]
   by_cases hoo:o.length<N
   .have i1:(o.length:Int)<(N:Int):=by omega
    obtain⟨r,hr⟩:∃r,N-o.length=r+1:=⟨N-o.length-1,by omega⟩;have HRR:=oh hr;have hres:=HC.out.2;rw[hdr,hr,upP] at hres;cases hbl:zEt to_ y.1 with
    | true =>
     rw[if_pos hbl] at hres;have HRS:Hid (o++[y]++upP to_ (L.drop (k+1)) r=R):=oh (by rw[<- hres];simp);have hway:=zNe hbl;clear hon hof hy hdr hr hres hbl hlt hoo vq1 vq2;have HKY:=oh (zKq HC.out.1 rfl HY.out);have hgo:∀(q:Nat),Hid (BkS F P ad w c s gen kb root G l L D (k:Int) 111 2 yS (.slice va o.length vc) o (wr.drewN q)):=λq=>oh (HC.out.1.ext ((zA.refl _ wr).drewN q))
     have HGO:=oh hgo;clear hgo;rcases hway with hfe|⟨hfe,hle⟩
     .go_wp2_with fail;refine (HON.out).mono ?_;rintro e w3 ⟨rfl,rfl⟩;go_wp2_with fail;have HV:=oh (zMY HC.out.1 rfl HY.out);refine (HV.out).mono ?_;rintro e w4 ⟨rfl,hS⟩;have HK4:=oh (zKq hS rfl HY.out);have HS4:=oh hS;clear hS;go_wp2_with fail;refine (HK4.out).mono ?_;rintro e w5 ⟨rfl,k5,rfl⟩;have HS5:=oh ((HS4.out.ext ((zA.refl _ w4).drewN k5)).ext ((zA.refl _ _).alloc (.cells #[.string y.1,.string y.2] 111)));go_wp2_with (at_builtin;refine yH Tryz.elP yR rfl _ _ rfl w.heap.size _ _ o [y] rfl rfl HS5.out.own (Sl.one (F:=λ_=>False) (zO (by simp)) (λf=>f)) (by have:=HOK.out.2;have:=HLT.out;simp only[uD,uF];omega) HS5.out.ext0 (λf=>f) ?_;simp only[uD,uF,uS];intro a6 c6 w6 hO6 hm6 hat6);have HS6:=oh (HS5.out.app hO6 hm6 hat6 (uK _));have hnx:=zOO HS6.out HG.out HD.out;rw[zMX HLT.out] at hnx;have HNX:=oh hnx;clear hO6 hm6 hat6 hnx;go_wp2_with fail;refine (HNX.out).mono ?_;rintro e w7 ⟨rfl,hS7⟩;have HS7:=oh hS7;clear hS7;go_wp2_with fail;go_roundg (gk-1)
      case measure=>have:=HLT.out;omega
      case rel=>exact⟨k+1,o++[y],by have:=HLT.out;omega,rfl,by have:=HRR.out;simp;omega,by have:=HOK.out.2;simp;omega,oh ⟨by simpa using HS7.out,by
       have hr2:N-(o++[y]).length=r:=by have:=HRR.out;simp;omega
       rw[hr2];exact HRS.out⟩⟩
     .go_wp2_with fail;refine (HON.out).mono ?_;rintro e w3 ⟨rfl,rfl⟩;go_wp2_with fail;refine (HKY.out).mono ?_;rintro e w3 ⟨rfl,k3,rfl⟩;have HV:=oh (zMY (HGO.out k3).out rfl HY.out);go_wp2_with fail;refine (HV.out).mono ?_;rintro e w4 ⟨rfl,hS⟩;have HK4:=oh (zKq hS rfl HY.out);have HS4:=oh hS;clear hS;go_wp2_with fail;refine (HK4.out).mono ?_;rintro e w5 ⟨rfl,k5,rfl⟩;have HS5:=oh ((HS4.out.ext ((zA.refl _ w4).drewN k5)).ext ((zA.refl _ _).alloc (.cells #[.string y.1,.string y.2] 111)));go_wp2_with (at_builtin;refine yH Tryz.elP yR rfl _ _ rfl w.heap.size _ _ o [y] rfl rfl HS5.out.own (Sl.one (F:=λ_=>False) (zO (by simp)) (λf=>f)) (by have:=HOK.out.2;have:=HLT.out;simp only[uD,uF];omega) HS5.out.ext0 (λf=>f) ?_;simp only[uD,uF,uS];intro a6 c6 w6 hO6 hm6 hat6);have HS6:=oh (HS5.out.app hO6 hm6 hat6 (uK _));have hnx:=zOO HS6.out HG.out HD.out;rw[zMX HLT.out] at hnx;have HNX:=oh hnx;clear hO6 hm6 hat6 hnx;go_wp2_with fail;refine (HNX.out).mono ?_;rintro e w7 ⟨rfl,hS7⟩;have HS7:=oh hS7;clear hS7;go_wp2_with fail;go_roundg (gk-1)
      case measure=>have:=HLT.out;omega
      case rel=>exact⟨k+1,o++[y],by have:=HLT.out;omega,rfl,by have:=HRR.out;simp;omega,by have:=HOK.out.2;simp;omega,oh ⟨by simpa using HS7.out,by
       have hr2:N-(o++[y]).length=r:=by have:=HRR.out;simp;omega
       rw[hr2];exact HRS.out⟩⟩
    | false =>
     rw[if_neg (by rw[hbl];simp)] at hres;have HCN:Hid (o=R):=oh (by simpa using hres);have HKY:=oh (zKq HC.out.1 rfl HY.out);obtain⟨hfe,hle⟩:=zPe hbl;clear hon hof hy hdr hr hres hbl hlt hoo vq1 vq2;go_wp2_with fail;refine (HON.out).mono ?_;rintro e w3 ⟨rfl,rfl⟩;go_wp2_with fail;refine (HKY.out).mono ?_;rintro e w3 ⟨rfl,k3,rfl⟩;go_wp2_with fail;refine bodyPost_ret (v:=.tuple #[.slice va o.length vc,.nilIface]) (by simp[results,Tryz.results77,go_sem]) rfl ?_;obtain⟨P9,g1,g2,g3⟩:=(HC.out.1.ext ((zA.refl _ wr).drewN k3)).done HL0.out yR.len (by have:=HOK.out.2;have:=HLT.out;omega);exact⟨P9,_,g1,g2,_,rfl,by rw[<- HCN.out];exact g3⟩
   .have i1:¬ (o.length:Int)<(N:Int):=by omega
    have HCN:Hid (o=R):=oh (by
     have:=HC.out.2;rw[show N-o.length=0 by omega] at this;rw[<- this,hdr];simp[upP])
    clear hon hof hy hdr hlt hoo vq1 vq2;go_wp2_with fail;refine (HON.out).mono ?_;rintro e w3 ⟨rfl,rfl⟩;go_wp2_with fail;refine bodyPost_ret (v:=.tuple #[.slice va o.length vc,.nilIface]) (by simp[results,Tryz.results77,go_sem]) rfl ?_;obtain⟨P9,g1,g2,g3⟩:=HC.out.1.done HL0.out yR.len (by have:=HOK.out.2;have:=HLT.out;omega);exact⟨P9,_,g1,g2,_,rfl,by rw[<- HCN.out];exact g3⟩
  .have hof:onI L.length (k:Int)=false:=zRu (.inr (by omega));rw[hof] at hon;have HON:=oh hon;have HLN:Hid (k<=L.length/\L.length<=1000):=oh ⟨by omega,hlen⟩;have HCN:Hid (o=R):=oh (by have:=HC.out.2;rw[tI (by omega)] at this;simpa[upP] using this);clear hon hof hlt vq1 vq2;go_wp2_with fail;refine (HON.out).mono ?_;rintro e w3 ⟨rfl,rfl⟩;go_wp2_with fail;refine bodyPost_ret (v:=.tuple #[.slice va o.length vc,.nilIface]) (by simp[results,Tryz.results77,go_sem]) rfl ?_;obtain⟨P9,g1,g2,g3⟩:=HC.out.1.done HL0.out yR.len (by have:=HOK.out.2;have:=HLN.out;omega);exact⟨P9,_,g1,g2,_,rfl,by rw[<- HCN.out];exact g3⟩
end
end
section
open Go.RowKit
theorem zRv{b s:Nat}(h8:8<=b)(h256:b<=256)(h1:256<=s)(h2:s<=1024):zFG (zBP b s) :=
 ⟨rfl,rfl,rfl,by simp[zBP],λid hid=>by
  have hid':id<b:=hid;unfold zS.look zBP;simp[zBb,hid'],h8,h256,h1,h2⟩
theorem zMZ(D:zS):(zDO D).total:=λi hi=>by
 have hi':i<D.blocks:=hi;exact⟨_,by show (if i<D.blocks then some (yV (D.look i) i) else none)=_;rw[if_pos hi']⟩
theorem zIf{n:Nat}(h:8<=n):qM (zAT n [0,1,2,3,4,5])=some 6:=by
 refine zHB (λj hj=>?_) ?_
 .rw[zAU _ (by omega),if_pos (by simp;omega)];simp
 .rw[zAU _ (by omega),if_neg (by simp)]
theorem zJ5{n:Nat}(h:8<=n):zGj (zAT n [0,1,2,3,4,5]):=⟨by rw[zAU _ (by omega),if_pos (by simp)],by rw[zAU _ (by omega),if_pos (by simp)]⟩
def zNf(D:zS)(key v:ByteArray):GA:=yJ (zDO (zEg D)) (zAT D.blocks [0,1,2,3,4,5]) 2 0 (zBL key v)
def zSf(D:zS)(key v:ByteArray):List Nat:=yT (zDO (zEg D)) (zAT D.blocks [0,1,2,3,4,5]) 0 (zBL key v)
section
variable {D:zS}{key v:ByteArray}
theorem zRE(hD:zFG D)(hk:qS key=true)(hv:v.size<=24):zJl (zNf D key v) 6 1 [(key,v)]:=by
 have hd:=zNb (G:=zDO (zEg D)) hk hv hD.s256 (zIf hD.b8);have hn:(zNf D key v).node 6=some (zBL key v):=zPb hd (by show 6<D.blocks;have:=hD.b8;omega);refine⟨.inr ⟨by omega,by omega,by omega,.leaf hn rfl (zDD hk hv) rfl (λi e x he hx=>?_) (λx _=>zD0 _)⟩,λ_=>.leaf hn rfl (by simp[zBL])⟩;match i,he,hx with
 | 0,he,hx =>
  simp[zBL] at he hx;subst he hx;exact⟨rfl,rfl⟩
 | i+1,he,_=>simp[zBL] at he
end
section
variable {P F:Nat->Prop}{ad:Nat->Addr}{w:World}{c sp:Nat}{D:zS}{key v:ByteArray}
theorem zPf(hP:∀k,P k->F k)(hD:zFG D)(hk:qS key=true)(hv:v.size<=24)(l:List Nat)(g:Nat) :
  ∀W,yG F ad W->vH F W P c sp (zNf D key v) l -> Calls Tryz.prog 77 #[pgV c sp g,.int .i64 ((6:Nat):Int),.string e0,.string e0,.int .i64 65535] W (zGs F P ad W c sp (zNf D key v) l [(key,v)]):=λW hL h=>by
 have hR:=zJ4 hL hP h (by simp) (zNa (zMZ _) _ _ _) (by omega) (zRE hD hk hv) g e0 e0 65535 (by unfold zGr zBy;simp);have e:upP e0 (List.drop (zEI e0 [(key,v)]) [(key,v)]) (Int.toNat 65535)=[(key,v)]:=by
  have hz:yX key e0=false:=by
   cases h:yX key e0 with
   | false=>rfl
   | true =>
    unfold yX at h;rw[show e0.toList=[] from by simp[ByteArray.toList_eq]] at h;cases hk:key.toList <;> rw[hk] at h <;> simp[Op.bytesLess] at h
  have h0:zEI e0 [(key,v)]=0:=by simp[zEI,hz,rP]
  rw[h0,List.drop_zero,show Int.toNat 65535=65534+1 from rfl,upP,if_pos (by simp[zEt])];rfl
 rw[e] at hR;exact hR
end
end
section
open Go.RowKit
attribute [local go_sem ↓] Go.wp_at_zero Go.wp_at_succ
section
variable {P P' F F':Nat->Prop}{ad:Nat->Addr}{w w':World}{S d c sp:Nat}
theorem zV.addS(n:zV P P' F F' ad w w')(hS:w.heap.size<=S)(h2:S<w'.heap.size)(hF:F' S):zV P (yB P' S) F F' ad w w' :=
 ⟨⟨n.stp.mods,λk hk h=>h.elim (n.stp.old k hk) (λe=>by omega),λk h=>h.elim (n.stp.bd k) (λe=>by rw[e];exact h2)⟩,λk h=>h.elim (n.sub k) (λe=>by rw[e];exact hF),n.grow,n.oldF,n.env⟩
def zDh:zS:=zBP 250 256
theorem zIg:zFG zDh:=zRv (by omega) (by omega) (by omega) (by omega)
def zRw(ad:Nat->Addr)(w:World)(key v:ByteArray)(e:Ending)(w':World):Prop :=
 ∃S d c sp P' F',e=.returned (.tuple #[.pointer (some ⟨S,0,none⟩),.bool true])/\StR F' w' P' S d c sp (zAF zDh) 0 ((6:Nat):Int) 1 (zNf zDh key v) (zSf zDh key v)/\zV NoB (yB P' S) NoB F' ad w w'
theorem zNg(hL:yG NoB ad w)(key v:ByteArray)(hk:qS key=true)(hv:v.size<=24)(lv:Value)(hl:Sl NoB w 2 yS lv [(key,v)]) :
  Calls Tryz.prog 16 #[lv] w (zRw ad w key v):=by
 have HL:=oh hL;have HK:=oh hk;have HV:=oh hv;have HSL:=oh hl;obtain⟨la,lc,rfl, -⟩:=id hl;clear hL hk hv hl;have e1:([(key,v)]:List zD).length=1:=rfl;rw[e1] at HSL ⊢
 go_enter Tryz.func16, Tryz.ntmps16
 go_wp2_with fail;refine (zLM 250 256 (by omega) (by omega) (by omega) (by omega)).mono ?_;rintro e w1 ⟨d,Pd,rfl,hD,hn,hm⟩;have HN1:=oh (zV.of (P:=NoB) (P':=Pd) HL.out (λ_ h=>h.elim) ⟨hm,λk hk h=>by have:=hn k h;omega,hD.bd⟩);have HD:Hid (DkS w1 Pd d zDh):=oh hD;clear hD hn hm;go_wp2_with fail;refine (zJp HN1.out.env (λ_ h=>.inr h) HD.out zIg 4 (by omega) (by omega)).mono ?_;rintro e w2 ⟨S,c,sp,P2,F2,rfl,h2,n2⟩;have hN2:=HN1.out.trans n2;have HS2:=oh (show w.heap.size<=S from Nat.le_of_not_lt λh=>(hN2.oldF S h h2.2.2.2).elim);have HS2b:=oh h2.lt;have HH2:=oh h2;have HN2:=oh hN2;have HSL2:=oh (hN2.sl (λ_ h=>h) HSL.out);clear n2 hN2 h2;go_wp2_with fail;go_loopg [8] 1 (λm v8 wr=>(m=1/\v8=.int .i64 0/\Hid (wr=w2))\/(m=0/\v8=.int .i64 1/\Hid (∃P6 F6,StR F6 wr P6 S d c sp (zAF zDh) 0 ((6:Nat):Int) 1 (zNf zDh key v) (zSf zDh key v)/\zV NoB (yB P6 S) NoB F6 ad w wr)))
 case atStart=>exact .inl ⟨rfl,rfl,oh rfl⟩
 case round =>
  rcases hrel with ⟨hg,rfl,HR⟩|⟨hg,rfl,HR⟩
  .have hwr:=HR.out;subst hwr;obtain⟨qb,qoff,hqa,hqF,hcc⟩:=HSL2.out.elemF (k:=0) (by simp);have d0:=hcc 0 (.string key) rfl;have d1:=hcc 1 (.string v) rfl;simp only[rL,uP] at d0 d1;subst hqa;have HPU:=oh (λ(h:StR F2 wr.drew P2 S d c sp (zAF zDh) 0 0 0 (zDO (zEg zDh)) (zAT zDh.blocks [0,1,2,3,4,5]))=>zSX (HN2.out.env.mods (zA.refl _ _).drew) HN2.out.sub h (by show 1+1<_;omega) (by omega) key v HK.out HV.out (zJ5 (n:=250) (by omega)) (by rw[zBi];exact uK _) (by show 0+10<=1000000;omega) 6 (zIf (n:=250) (by omega)));have zd0:wr.drew.cell? ⟨qb,qoff,none⟩=some (.string key):=d0;have zd1:wr.drew.cell? ⟨qb,qoff+1,none⟩=some (.string v):=d1;go_wp2_with fail;go_region_held3 (λw'=>w'.cell? ⟨qb,qoff,none⟩=some (.string key)/\w'.cell? ⟨qb,qoff+1,none⟩=some (.string v))
    (first|(with_reducible exact⟨zd0,zd1⟩)|(with_reducible exact⟨z60,z61⟩)|fail)
    (first
     | (go_at_call 63;(with_reducible refine (HPU.out (HH2.out.at (zA.refl _ _).drew)).mono ?_);rintro e w6 ⟨P6,F6,rfl,h6,n6⟩;have z60:w6.cell? ⟨qb,qoff,none⟩=some (.string key):=n6.cellK zd0 (λh=>hqF (h.elim (HN2.out.sub _) (λe=>e ▸ HH2.out.2.2.2)));have z61:w6.cell? ⟨qb,qoff+1,none⟩=some (.string v):=n6.cellK zd1 (λh=>hqF (h.elim (HN2.out.sub _) (λe=>e ▸ HH2.out.2.2.2))))
     | fail)
   have HN0:=HN2.out.addS HS2.out HS2b.out HH2.out.2.2.2;have HF:=oh (show ∃P6 F6,StR F6 w6 P6 S d c sp (zAF zDh) 0 ((6:Nat):Int) 1 (zNf zDh key v) (zSf zDh key v)/\zV NoB (yB P6 S) NoB F6 ad w w6 from ⟨P6,F6,h6,(HN0.trans (zV.ext HN0.env HN0.sub (zA.refl _ _).drew)).trans n6⟩);clear h6 n6 z60 z61 zd0 zd1 d0 d1 hcc HN0;go_wp2_with fail;go_roundg 0
   case measure=>omega
   case rel=>exact .inr ⟨rfl,by go_num,HF⟩
  .have HR2:=HR;go_wp2_with fail;go_ret2
   obtain⟨P6,F6,h6,n6⟩:=HR2.out;exact⟨S,d,c,sp,P6,F6,rfl,h6,n6⟩
end
end
section
open Go.RowKit
structure zDH(g:Nat)(G:GA)(l:List Nat)(root d:Nat)(ps:List zD)(pgs:List Nat):Prop where
 ctx:zCR G l
 td:TD G g root d ps pgs
 blk:G.blocks=250
 size:G.size=256
 lay:∀i,i<250->l[i]? = some (if i<6 then 1 else if i∈pgs then 2 else 0)
 hi:∀i∈pgs,6<=i
 val:∀x∈ps,x.2.size<=400
 room:zA7 l+(pgs.length:Int)=238
section
variable {g:Nat}{G:GA}{l:List Nat}{root d:Nat}{ps:List zD}{pgs:List Nat}
theorem zDH.use(h:zDH g G l root d ps pgs):zAY l (λk=>k∈pgs):=λi hi=>by
 have hb:=h.td.lt i hi;have h6:=h.hi i hi;have:=h.lay i (by have:=h.blk;omega);rw[if_neg (by omega),if_pos hi] at this;exact .inr this
theorem zDH.put(h:zDH g G l root d ps pgs){key v:ByteArray}(hkb:qS key=true)(hv:v.size<=400) :
  (zIT G l g root key v=.inr 3/\zA7 l<=(ndV G.size v:Nat)+d+1) \/
  ∃G' l' root' d' pgs',zIT G l g root key v=.inl (G',l',(root',(zAf key ps).isNone))/\zDH g G' l' root' d' (qF key v true ps) pgs'/\G'.cost<=G.cost+61/\2<=root':=by
 rcases zRo h.ctx h.td h.use hkb (show v.size<=4096 by omega) with a|⟨G',l',root',d',pgs',a1,a2,a3,a4,a5,a6,a7⟩
 .exact .inl a
 .have hnew:∀i,i∈pgs'->l[i]? = some 0->6<=i:=λi hi h0=>by
   have hlt:=a3.lt i hi;have hl:=h.lay i (by have:=a2.bl;have:=h.blk;omega);rw[h0] at hl;by_cases h6:i<6
   .rw[if_pos h6] at hl;cases hl
   .omega
  refine .inr ⟨G',l',root',d',pgs',a1,⟨a5,a3,by rw[a2.bl,h.blk],by rw[a2.sz,h.size],λi hi=>?_,λi hi=>?_,λx hx=>?_,?_⟩,zPZ h.ctx h.td h.use hkb (by omega) a1,a6⟩
  .have hl:=h.lay i hi;by_cases h2:i∈pgs'
   .rcases a2.inn i h2 with ⟨b1,b2⟩|⟨b1,b2⟩
    .have h6:=h.hi i b1;rw[b2,hl,if_neg (by omega),if_pos b1,if_neg (by omega),if_pos h2]
    .have h6:=hnew i h2 b1;rw[if_neg (by omega),if_pos h2];exact b2
   .by_cases h1:i∈pgs
    .have h6:=h.hi i h1;rw[if_neg (by omega),if_pos h1] at hl;rw[if_neg (by omega),if_neg h2];rcases a2.gone i h1 h2 with ⟨_,b2⟩|⟨b1,_⟩
     .exact b2
     .rw[hl] at b1;cases b1
    .rw[(a2.rest i h1 h2).1,hl,if_neg h1,if_neg h2]
  .rcases a2.inn i hi with ⟨b1,_⟩|⟨b1,_⟩
   .exact h.hi i b1
   .exact hnew i hi b1
  .rcases zE3 hx with rfl|hx
   .exact hv
   .exact h.val x hx
  .have:=a2.phi h.use h.td.nodup a3.nodup;have:=h.room;omega
theorem zDH.fits(h:zDH g G l root d ps pgs)(hf:ps.length<=40){key v:ByteArray}(hkb:qS key=true)(hv:v.size<=400) :
  ∃G' l' root' d' pgs',zIT G l g root key v=.inl (G',l',(root',(zAf key ps).isNone))/\zDH g G' l' root' d' (qF key v true ps) pgs'/\G'.cost<=G.cost+61/\2<=root':=by
 rcases h.put hkb hv with ⟨_,a⟩|a
 .have hcn:=h.td.count.1;have hd:=(h.td.few h.ctx.b256).2;have h1:=zOL ps h.val;have h2:=zOK v hv;have h3:=h.room;rw[h.size] at a hcn;have h4:pgs.length<=2 * ps.length+chS 256 ps:=by omega
  omega
 .exact a
end
theorem zDH.new(g:Nat):zDH g (zDO (zEg zDh)) (zAT 250 [0,1,2,3,4,5]) 0 0 [] []:=by
 refine⟨⟨zJ5 (by omega),zBi _ _,by show 250<=256;omega,by show 256<=256;omega,by show 256<=1024;omega⟩,TD.none _ _,rfl,rfl,λi hi=>?_,λi hi=>by simp at hi,λx hx=>by simp at hx,by decide +kernel⟩;rw[zAU _ hi];by_cases h6:i<6
 .rw[if_pos h6,if_pos (by simp;omega)]
 .rw[if_neg h6,if_neg (by simp;omega),if_neg (by simp)]
theorem zJ6{key v:ByteArray}:∀{m:List zD},(∀x∈m,yX x.1 key=true)->qF key v true m=m++[(key,v)]
 | [],_=>rfl
 | x :: m,h=>by
  rw[qF,if_pos (h x uG),zJ6 (λy hy=>h y (uH _ hy)),wW]
theorem zMa{l:List zD}(hs:yK l){k:Nat}(hk:k<l.length):∀x∈l.take k,yX x.1 l[k].1=true:=λx hx=>by
 obtain⟨i,hi,rfl⟩:=wG hx;rw[uR] at hi;rw[rO];exact rA.1 hs i k (by omega) hk (by omega)
theorem zPg{l:List zD}(hs:yK l){k:Nat}(hk:k<l.length):qF l[k].1 l[k].2 true (l.take k)=l.take (k+1)/\zAf l[k].1 (l.take k)=none:=by
 have h:=zMa hs hk;refine⟨?_,zES h⟩;rw[zJ6 h,tE hk]
end
section
open Go.RowKit
attribute [local go_sem ↓] Go.wp_at_zero Go.wp_at_succ
section
variable {P P' F F':Nat->Prop}{ad:Nat->Addr}{w w':World}{S d c sp:Nat}
def zJ7(F:Nat->Prop)(w:World)(P:Nat->Prop)(S d c sp:Nat)(o:List zD):Prop :=
 ∃root dd pgs G l,StR F w P S d c sp (zAF zDh) 0 ((root:Nat):Int) (o.length:Int) G l/\zDH 2 G l root dd o pgs/\G.cost<=61 * o.length
def zS9(ad:Nat->Addr)(w:World)(o:List zD)(e:Ending)(w':World):Prop :=
 ∃S d c sp P' F',e=.returned (.tuple #[.pointer (some ⟨S,0,none⟩),.bool true])/\zJ7 F' w' P' S d c sp o/\zV NoB (yB P' S) NoB F' ad w w'
theorem zIh(hL:yG NoB ad w)(o:List zD)(ho:zAZ o)(lv:Value)(hl:Sl NoB w 2 yS lv o) :
  Calls Tryz.prog 16 #[lv] w (zS9 ad w o):=by
 have HL:=oh hL;have HO:=oh ho;have HSL:=oh hl;obtain⟨la,lc,rfl,h1,h2,h3, -⟩:=id hl;unfold maxLen at h2;clear hL ho hl
 go_enter Tryz.func16, Tryz.ntmps16
 go_wp2_with fail;refine (zLM 250 256 (by omega) (by omega) (by omega) (by omega)).mono ?_;rintro e w1 ⟨d,Pd,rfl,hD,hn,hm⟩;have HN1:=oh (zV.of (P:=NoB) (P':=Pd) HL.out (λ_ h=>h.elim) ⟨hm,λk hk h=>by have:=hn k h;omega,hD.bd⟩);have HD:Hid (DkS w1 Pd d zDh):=oh hD;clear hD hn hm;go_wp2_with fail;refine (zJp HN1.out.env (λ_ h=>.inr h) HD.out zIg 4 (by omega) (by omega)).mono ?_;rintro e w2 ⟨S,c,sp,P2,F2,rfl,h2,n2⟩;have hN2:=HN1.out.trans n2;have HS2:=oh (show w.heap.size<=S from Nat.le_of_not_lt λh=>(hN2.oldF S h h2.2.2.2).elim);have HS2b:=oh h2.lt;have HF0:Hid (zJ7 F2 w2 P2 S d c sp []/\zV NoB (yB P2 S) NoB F2 ad w w2):=oh ⟨⟨0,0,[],_,_,h2,zDH.new 2,tJ _⟩,hN2.addS HS2.out HS2b.out h2.2.2.2⟩;clear n2 hN2 h2;go_wp2_with fail;go_loopg [8] o.length (λm v8 wr=>∃(k:Nat),k+m=o.length/\v8=.int .i64 (k:Int)/\Hid (∃P6 F6,zJ7 F6 wr P6 S d c sp (o.take k)/\zV NoB (yB P6 S) NoB F6 ad w wr))
 case atStart=>exact⟨0,by omega,rfl,oh ⟨P2,F2,by simpa using HF0.out.1,HF0.out.2⟩⟩
 case round =>
  obtain⟨k,hkm,rfl,HR⟩:=hrel;by_cases hlt:k<o.length
  .obtain⟨P6,F6,⟨root,dd,pgs,G,l,hS6,hW6,hC6⟩,hN6⟩:=HR.out;have hsl:=hN6.sl (λ_ h=>h) HSL.out;obtain⟨qb,qoff,hqa,hqF,hcc⟩:=hsl.elemF (k:=k) hlt;have d0:=hcc 0 (.string o[k].1) rfl;have d1:=hcc 1 (.string o[k].2) rfl;simp only[uP] at d0;have hmem:=wJ hlt;have hok:=HO.out.ok _ hmem;have hsm:=HO.out.small _ hmem;have hln:=HO.out.len;obtain⟨hwt,hft⟩:=zPg HO.out.sorted hlt;have htl:(o.take k).length=k:=by rw[uR];omega
   obtain⟨x,hx⟩:∃x,x=o[k]:=⟨_,rfl⟩;rw[<- hx] at d0 d1 hok hsm hwt hft;obtain⟨key,v⟩:=x;simp only at d0 d1 hok hsm hwt hft;obtain⟨G',l',root',d',pgs',q1,q2,q3, -⟩:=hW6.fits (by rw[htl];omega) hok.1 (show v.size<=400 by omega);rw[hft] at q1;rw[hwt] at q2;have HPU:=oh (λ(h:StR F6 wr.drew P6 S d c sp (zAF zDh) 0 ((root:Nat):Int) ((o.take k).length:Int) G l)=>zSb (hN6.env.mods (zA.refl _ _).drew) (λj hj=>hN6.sub j (.inl hj)) h (by show 1+1<_;omega) (by rw[htl];omega) key v hok.1 (by omega) hW6.ctx hW6.td hW6.use (by rw[htl] at hC6;omega) q1);have HS6:=oh (hS6.at (zA.refl _ wr).drew);have HN6:=oh hN6;have HQ:Hid (zDH 2 G' l' root' d' (o.take (k+1)) pgs'/\G'.cost<=61 * (k+1)/\(o.take k).length=k/\(o.take (k+1)).length=k+1):=oh ⟨q2,by rw[htl] at hC6;omega,htl,by rw[uR];omega⟩;have HSF:=oh hS6.2.2.2;subst hqa;have i1:(0:Int)<=(k:Int):=by omega
   have i2:(k:Int)<(o.length:Int):=by omega
   have zd0:wr.drew.cell? ⟨qb,qoff+k * 2,none⟩=some (.string key):=d0;have zd1:wr.drew.cell? ⟨qb,qoff+k * 2+1,none⟩=some (.string v):=d1;have HRD:Hid (∀(e:Ending) (w6:World),zQ5 F6 P6 ad wr.drew S d c sp (zAF zDh) 0 ((o.take k).length:Int) G' l' root' true e w6->e=.returned (.tuple #[.bool true,.nilIface])/\(∃P7 F7,zJ7 F7 w6 P7 S d c sp (o.take (k+1))/\zV NoB (yB P7 S) NoB F7 ad w w6)/\w6.cell? ⟨qb,qoff+k * 2,none⟩=some (.string key)/\w6.cell? ⟨qb,qoff+k * 2+1,none⟩=some (.string v)):=oh (by
    rintro e w6 ⟨P7,F7,rfl,h7,n7⟩;obtain⟨b1,b2,b3,b4⟩:=HQ.out;refine⟨rfl,⟨P7,F7,⟨root',d',pgs',G',l',?_,b1,by rw[b4];exact b2⟩,(HN6.out.trans (zV.ext HN6.out.env HN6.out.sub (zA.refl _ wr).drew)).trans n7⟩,n7.cellK zd0 (λh=>hqF (HN6.out.sub _ h)),n7.cellK zd1 (λh=>hqF (HN6.out.sub _ h))⟩;have h8:=h7;rw[if_pos rfl,b3] at h8;rw[b4];exact_mod_cast h8)
   clear hS6 hW6 hC6 hN6 hsl hcc d0 d1 hmem hok hsm hln hwt hft htl hx q1 q2 q3;go_wp2_with fail;go_region_held3 (λw'=>w'.cell? ⟨qb,qoff+k * 2,none⟩=some (.string key)/\w'.cell? ⟨qb,qoff+k * 2+1,none⟩=some (.string v))
    (first|(with_reducible exact⟨zd0,zd1⟩)|(with_reducible exact⟨z60,z61⟩)|fail)
    (first
     | (go_at_call 63;(with_reducible refine (HPU.out HS6.out).mono ?_);intro e w6 hq6;obtain⟨rfl,hf6,z60,z61⟩:=HRD.out e w6 hq6)
     | fail)
   have HF:=oh hf6;clear hf6 z60 z61 zd0 zd1 hq6;go_wp2_with fail;go_roundg (gk-1)
   case measure=>omega
   case rel=>exact⟨k+1,by omega,by go_num,HF⟩
  .have hke:k=o.length:=by omega
   subst hke;go_wp2_with fail;go_ret2
   obtain⟨P6,F6,h6,n6⟩:=HR.out;exact⟨S,d,c,sp,P6,F6,rfl,by simpa using h6,n6⟩
end
section
variable {P P' F F':Nat->Prop}{ad:Nat->Addr}{w w':World}{S d c sp:Nat}{s:jM}{home keys:Int}{G G':GA}{l l':List Nat}{root D:Nat}{L:List zD}
def zRx(F P:Nat->Prop)(ad:Nat->Addr)(w:World)(S d c sp:Nat)(s:jM)(home root keys:Int)(G:GA)(l:List Nat)(o:List zD)(e:Ending)(w':World):Prop :=
 ∃P' F' v,e=.returned (.tuple #[v,.nilIface])/\Sl F' w' 2 yS v o/\StR F' w' P' S d c sp s home root keys G l/\zV P P' F F' ad w w'
theorem zRy(hL:yG F ad w)(hP:∀k,P k->F k)(h:StR F w P S d c sp s home (root:Int) keys G l)(hg:s.gen+1<18446744073709551616)(from_ to_:ByteArray)(most:Int)(o:List zD)
  (hR:∀W,yG F ad W->vH F W P c sp G l -> Calls Tryz.prog 77 #[pgV c sp (s.gen+1),.int .i64 (root:Int),.string from_,.string to_,.int .i64 most] W (zGs F P ad W c sp G l o)) :
  Calls Tryz.prog 26 #[.pointer (some ⟨S,0,none⟩),.string from_,.string to_,.int .i64 most] w (zRx F P ad w S d c sp s home (root:Int) keys G l o):=by
 have HAL:=oh (λop=>zKj h op);have HPG:=oh (λW (m:zG w W)=>zKk (h.at m) hg);have HRA:=oh (λW (m:zG w W)=>hR W (hL.mods m.ext) (h.at m).1);have HST:=oh h;have HN:=oh (λW (m:zG w W)=>zV.ext hL hP m);have c9:Hid (∀W,zG w W->W.cell? ⟨S,9,none⟩=some (.int .i64 (root:Int))):=oh (λW m=>by obtain⟨_,⟨a,cc,h2⟩,_,_⟩:=h.at m;exact h2.cell rfl);clear hL hP h hg hR;obtain⟨pg,hpg⟩:∃pg,pg=pgV c sp (s.gen+1):=⟨_,rfl⟩;rw[<- hpg] at HPG HRA;clear hpg
 go_enter Tryz.func26, Tryz.ntmps26
 go_wp2_with fail;refine (HAL.out _).mono ?_;rintro e w1 ⟨rfl,rfl⟩;have zd:=c9.out _ (zA.refl _ w).drew;go_wp2_with fail;go_region_held3 (λw'=>w'.cell? ⟨S,9,none⟩=some (.int .i64 (root:Int)))
  (first|(with_reducible exact zd)|(with_reducible exact z5)|(with_reducible exact z6)|fail)
  (first
   | (go_at_call 78;(with_reducible refine (HPG.out _ (zA.refl _ w).drew).mono ?_);rintro e w5 ⟨rfl,m5⟩;have x5:=(zA.refl _ w).drew.trans m5;have z5:=c9.out _ x5)
   | (go_at_call 77;((with_reducible refine (HRA.out _ x5).mono ?_);intro e w6 hd;obtain⟨P6,F6,hG6,n6,v6,rfl,hs6⟩:=hd;have h6:=(HST.out.at x5).nxt n6 hG6;have n06:=(HN.out _ x5).trans n6;have z6:w6.cell? ⟨S,9,none⟩=some (.int .i64 (root:Int)):=(by obtain⟨_,⟨a,cc,h2⟩,_,_⟩:=h6;exact h2.cell rfl)))
   | fail)
 have H6:=oh h6;have N06:=oh n06;have HS6:=oh hs6;clear h6 n06 hs6 n6 hG6 z5 z6 zd x5 m5;go_wp2_with fail;refine (wrap_nil _ _).mono ?_;rintro e w7 ⟨rfl,rfl⟩;go_wp2_with fail;go_ret2
 exact⟨P6,F6,v6,rfl,HS6.out,H6.out,N06.out⟩
end
end
section
open Go.RowKit
section
variable {G:GA}{gen:Nat}
theorem jA.eachT{T:zEq}{lo:ByteArray}{hi:Option ByteArray}{kk:List ByteArray}{cc:List Int}{ps:List zD}{q:List Nat}(h:jA T lo hi kk cc ps q):∀k∈cc,∃lo' hi' l' q',T lo' hi' k.toNat l' q':=λk hk=>by
 obtain⟨n,lo',hi',l',q',rfl,t,_⟩:=h.each k hk;exact⟨lo',hi',l',q',by rw[uM];exact t⟩
theorem TrD.trE:∀(d:Nat) (lo:ByteArray) (hi:Option ByteArray) (id:Nat) (l:List zD) (q:List Nat),TrD G gen d lo hi id l q->TrE G.node id d
 | 0,_,_,_,_,_,h=>h.elim
 | d+1,lo,hi,id,l,q,h=>by
  obtain⟨n,q,hp,hr,rfl,h⟩:=h;have hn:=zQ7 hp;rcases h with ⟨hl,rfl,hne,he,_⟩|⟨hl,hk⟩
  .exact .leaf hn hl (λe=>by
    have:=he.len;rw[e] at this;exact hne (rW.1 (by simpa using this.symm)))
  .exact .inner hn hl (λk hk'=>by
    obtain⟨lo',hi',l',q',t⟩:=hk.eachT k hk';exact TrD.trE d _ _ _ _ _ t)
theorem TD.treeE{root d:Nat}{ps:List zD}{pgs:List Nat}(h:TD G gen root d ps pgs)(hs:256<=G.size)(hb:G.blocks<=256):zJl G root d ps:=by
 refine⟨h.treeG hs hb,λhr=>?_⟩;rcases h.tree with ⟨h0,_,_,_⟩|⟨_,hT⟩
 .exact absurd h0 hr
 .exact TrD.trE _ _ _ _ _ _ hT
theorem zOP:∀(l:List zD) (m:Nat),l.length<=m->upP e0 l m=l
 | [],m,_=>by cases m <;> rfl
 | x :: l,0,h=>by simp at h
 | x :: l,m+1,h=>by
  rw[upP,if_pos (by simp[zEt]),zOP l m (by simpa using h)]
theorem zSg(k:ByteArray):yX k e0=false:=by
 cases h:yX k e0 with
 | false=>rfl
 | true =>
  unfold yX at h;rw[show e0.toList=[] from by simp[ByteArray.toList_eq]] at h;cases hk:k.toList <;> rw[hk] at h <;> simp[Op.bytesLess] at h
theorem zRF(l:List zD):zEI e0 l=0:=by
 cases l with
 | nil=>rfl
 | cons x l=>simp[zEI,zSg,rP]
end
section
variable {P P' F F':Nat->Prop}{ad:Nat->Addr}{w w':World}{c s:Nat}{G:GA}{l:List Nat}{gen root d:Nat}{ps:List zD}{pgs:List Nat}
theorem zNh(hL:yG F ad w)(hP:∀k,P k->F k)(h:vH F w P c s G l)(g:Nat)(hT:TD G gen root d ps pgs)(hs:256<=G.size)(hb:G.blocks<=256)(hlen:ps.length<=1000) :
  Calls Tryz.prog 77 #[pgV c s g,.int .i64 (root:Int),.string e0,.string e0,.int .i64 65535] w (zGs F P ad w c s G l ps):=by
 obtain⟨H,hl,ht,hH⟩:=h.tot;have hT2:=hT.up hl;have hs2:256<=H.size:=by rw[hl.size];exact hs
 have hb2:H.blocks<=256:=by rw[hl.blocks];exact hb
 have hd:=(hT2.few hb2).2;have hR:=zJ4 hL hP hH hlen ht (by omega) (hT2.treeE hs2 hb2) g e0 e0 65535 (by unfold zGr zBy;simp);rw[zRF,List.drop_zero,zOP ps _ (by show ps.length<=65535;omega)] at hR;refine hR.mono ?_;rintro e w' ⟨P',F',hG,hN,hr⟩;exact⟨P',F',hG.le hl,hN,hr⟩
end
end
section
open Go.RowKit
attribute [local go_sem ↓] Go.wp_at_zero Go.wp_at_succ
theorem zHR{F Q:Nat->Prop}{w:World}(L:List zD)(av bv:Value)(ha:Sl F w 2 yS av L)(hb:Sl Q w 2 yS bv L)(hlen:L.length<=1000) :
  Calls Tryz.prog 22 #[av,bv] w λe w'=>e=.returned (.bool true)/\zG w w':=by
 have HA:=oh ha;have HB:=oh hb;obtain⟨aa,ac,rfl,a1,a2,a3, -⟩:=ha;obtain⟨ba,bc,rfl,b1,b2,b3, -⟩:=hb;unfold maxLen at a2 b2
 go_enter Tryz.func22, Tryz.ntmps22
 go_wp2_with fail;go_loopg [5] L.length (λm v5 wr=>∃(k:Nat),k+m=L.length/\v5=.int .i64 (k:Int)/\Hid (zG w wr))
 case atStart=>exact⟨0,by omega,rfl,oh (zA.refl _ w)⟩
 case round =>
  obtain⟨k,hkm,rfl,HX⟩:=hrel;by_cases hlt:k<L.length
  .obtain⟨y,hy⟩:∃y,y=L[k]:=⟨_,rfl⟩;obtain⟨qb,qoff,hqa,hc⟩:=HA.out.elem hlt HX.out;obtain⟨rb,roff,hra,hd⟩:=HB.out.elem hlt HX.out;have c0:=hc 0 (.string y.1) (by rw[hy];rfl);have c1:=hc 1 (.string y.2) (by rw[hy];rfl);have d0:=hd 0 (.string y.1) (by rw[hy];rfl);have d1:=hd 1 (.string y.2) (by rw[hy];rfl);simp only[uP] at c0 d0;subst hqa hra;have i2:(0:Int)<=(k:Int):=by omega
   have i3:(k:Int)<(L.length:Int):=by omega
   have HLT:=oh hlt;clear hc hd hy hlt;go_wp2_with fail;go_quiet (fail)
   go_wp2_with fail;go_roundg (gk-1)
   case measure=>have:=HLT.out;omega
   case rel=>exact⟨k+1,by have:=HLT.out;omega,by go_num,oh (HX.out.trans ((zA.refl _ wr).drewN _))⟩
  .have i3:¬ (k:Int)<(L.length:Int):=by omega
   clear hlt;go_wp2_with fail;go_ret;exact⟨rfl,HX.out⟩
end
end Go.Proofs.YtdnbmdghmmpgcaaGreatDoor
