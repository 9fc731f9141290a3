import Derived.Test.YtdnbmdghmmpgcaaGreatDoorK37
import Derived.Test.YtdnbmdghmmpgcaaGreatDoorK36
namespace Go.Proofs.YtdnbmdghmmpgcaaGreatDoor
open Lib renaming hid→oh
set_option maxHeartbeats 4000000
set_option maxRecDepth 100000
section
open Go.RowKit
attribute [local go_sem ↓] Go.wp_at_zero Go.wp_at_succ
section
variable {F P P' F' P1 F1:Nat→Prop}{ad:Nat→Addr}{w w' w0 w1:World}{base c s gen kb:Nat}{root:Int}{G G':GA}{l l':List Nat}{sv sv':Value}{st st':List FrE}{x:FrE}
def NewD(F P:Nat→Prop)(ad:Nat→Addr)(w:World)(c s gen:Nat)(root:Int)(G:GA)(l:List Nat)(e:Ending)(w':World):Prop :=
 ∃kb base F',e=.returned (.tuple #[.pointer (some ⟨kb,0,none⟩),.nilIface])∧CuI F' P ad w' base c s gen kb root G l (.slice none 0 0) []∧Nxt P (cuQ P kb (.slice none 0 0)) F F' ad w w'
theorem new_cur(hL:Env F ad w)(hP:∀k,P k→F k)(h:PgR F w P c s G l)(gen:Nat)(root:Int) :
  Calls Tryz.prog 181 #[pgV c s gen,.int .i64 root] w (NewD F P ad w c s gen root G l):=by
 have m0:Ext w (w.alloc (.cells #[.pointer (some ⟨c,0,none⟩),.pointer (some ⟨s,0,none⟩),.int .u64 (gen:Int)] 142)):=(Mods.refl _ w).alloc _;have HN0:=oh (Nxt.ext hL hP m0);have HS:=oh (CuI.start HN0.out.env hP (h.at m0) gen root);clear hL hP h m0;unfold pgV
 go_enter Tryz.func181, Tryz.ntmps181
 go_wp2_with fail;refine bodyPost_ret (v:=.tuple #[.pointer (some ⟨w.heap.size+1,0,none⟩),.nilIface]) (by simp[results,Tryz.results181,go_sem]) rfl ?_;have hz:(w.alloc (.cells #[.pointer (some ⟨c,0,none⟩),.pointer (some ⟨s,0,none⟩),.int .u64 (gen:Int)] 142)).heap.size=w.heap.size+1:=by simp
 have h1:=HS.out.1;have h2:=HN0.out.trans HS.out.2;rw[hz] at h1 h2;exact⟨_,_,_,rfl,h1,h2⟩
end
section
variable {F P P' F' P1 F1:Nat→Prop}{ad:Nat→Addr}{w w' w0 w1:World}{base c s gen kb:Nat}{root:Int}{G G':GA}{l l':List Nat}{sv sv':Value}{st st':List FrE}{x:FrE}
def askB(a b:ByteArray)(most:Int):Bool:=boundB a && boundB b && decide (0≤most) && decide (most≤65535)
def OpenD(F P:Nat→Prop)(ad:Nat→Addr)(w:World)(c s gen:Nat)(root:Int)(G:GA)(l:List Nat)(ok:Bool)(e:Ending)(w':World):Prop :=
 (ok=true∧NewD F P ad w c s gen root G l e w')∨(ok=false∧∃b F',e=.returned (.tuple #[.pointer none,faultV b])∧PgR F' w' P c s G l∧Nxt P P F F' ad w w'∧ErrC F' ad w' (faultV b) [-1] 2)
theorem open_cur(hL:Env F ad w)(hP:∀k,P k→F k)(h:PgR F w P c s G l)(gen:Nat)(root:Int)(op from_ to_:ByteArray)(most:Int) :
  Calls Tryz.prog 124 #[.string op,pgV c s gen,.int .i64 root,.string from_,.string to_,.int .i64 most] w (OpenD F P ad w c s gen root G l (askB from_ to_ most)):=by
 have m0:Ext w (w.alloc (.cells #[.pointer (some ⟨c,0,none⟩),.pointer (some ⟨s,0,none⟩),.int .u64 (gen:Int)] 142)):=(Mods.refl _ w).alloc _;have HN0:=oh (Nxt.ext hL hP m0);have HNW:=oh (new_cur HN0.out.env hP (h.at m0) gen root);have HB1:=oh (bound_any from_);have HB2:=oh (bound_any to_);clear hL hP h m0;unfold pgV at HNW ⊢
 go_enter Tryz.func124, Tryz.ntmps124
 go_wp2_with fail;refine (HNW.out).mono ?_;rintro e w1 ⟨kb,base,F1,rfl,h1,n1⟩;have H1:=oh h1;have N1:=oh (HN0.out.trans n1);have c2:=h1.env.c2;clear h1 n1;obtain⟨q1,hq1⟩:∃q,boundB from_=q:=⟨_,rfl⟩;obtain⟨q2,hq2⟩:∃q,boundB to_=q:=⟨_,rfl⟩;obtain⟨q3,hq3⟩:∃q,decide (most<0)=q:=⟨_,rfl⟩;obtain⟨q4,hq4⟩:∃q,decide (most > 65535)=q:=⟨_,rfl⟩;rw[hq1] at HB1;rw[hq2] at HB2;have HA:Hid (askB from_ to_ most=(q1 && q2 && !q3 && !q4)):=oh (by
  unfold askB;rw[hq1,hq2,← hq3,← hq4];congr 1
  ·congr 1
   by_cases h:most<0
   ·rw[decide_eq_true h,decide_eq_false (by omega)];rfl
   ·rw[decide_eq_false h,decide_eq_true (by omega)];rfl
  ·by_cases h:most > 65535
   ·rw[decide_eq_true h,decide_eq_false (by omega)];rfl
   ·rw[decide_eq_false h,decide_eq_true (by omega)];rfl)
 clear hq1 hq2;cases q1 with
 | false =>
  have HV:Hid (askB from_ to_ most=false):=oh (by rw[HA.out];rfl);go_wp2_with fail;refine (HB1.out _).mono ?_;rintro e w2 ⟨rfl,rfl⟩;go_wp2_with fail;refine (new_any H1.out.env _ _ [] 2 (.sent 2 (by decide) (by decide))).mono ?_;rintro e w2 ⟨b,rfl,hE,hm⟩;have HE:=oh hE;have H2:=oh (H1.out.ext hm);clear hE hm;go_wp2_with fail;refine bodyPost_ret (v:=.tuple #[.pointer none,faultV b]) (by simp[results,Tryz.results124,go_sem]) rfl ?_;rw[HV.out];exact .inr ⟨rfl,b,F1,rfl,H2.out.1.pg,(N1.out.trans H2.out.2).shrink (λk hk=>.inl hk),HE.out⟩
 | true =>
  cases q2 with
  | false =>
   have HV:Hid (askB from_ to_ most=false):=oh (by rw[HA.out];rfl);go_wp2_with fail;refine (HB1.out _).mono ?_;rintro e w2 ⟨rfl,rfl⟩;go_wp2_with fail;refine (HB2.out _).mono ?_;rintro e w2 ⟨rfl,rfl⟩;go_wp2_with fail;refine (new_any H1.out.env _ _ [] 2 (.sent 2 (by decide) (by decide))).mono ?_;rintro e w2 ⟨b,rfl,hE,hm⟩;have HE:=oh hE;have H2:=oh (H1.out.ext hm);clear hE hm;go_wp2_with fail;refine bodyPost_ret (v:=.tuple #[.pointer none,faultV b]) (by simp[results,Tryz.results124,go_sem]) rfl ?_;rw[HV.out];exact .inr ⟨rfl,b,F1,rfl,H2.out.1.pg,(N1.out.trans H2.out.2).shrink (λk hk=>.inl hk),HE.out⟩
  | true =>
   cases q3 with
   | true =>
    have HV:Hid (askB from_ to_ most=false):=oh (by rw[HA.out];rfl);have h3:=of_decide_eq_true hq3;clear hq3 hq4;go_wp2_with fail;refine (HB1.out _).mono ?_;rintro e w2 ⟨rfl,rfl⟩;go_wp2_with fail;refine (HB2.out _).mono ?_;rintro e w2 ⟨rfl,rfl⟩;go_wp2_with fail;refine (new_any H1.out.env _ _ [] 2 (.sent 2 (by decide) (by decide))).mono ?_;rintro e w2 ⟨b,rfl,hE,hm⟩;have HE:=oh hE;have H2:=oh (H1.out.ext hm);clear hE hm;go_wp2_with fail;refine bodyPost_ret (v:=.tuple #[.pointer none,faultV b]) (by simp[results,Tryz.results124,go_sem]) rfl ?_;rw[HV.out];exact .inr ⟨rfl,b,F1,rfl,H2.out.1.pg,(N1.out.trans H2.out.2).shrink (λk hk=>.inl hk),HE.out⟩
   | false =>
    have h3:=of_decide_eq_false hq3;cases q4 with
    | true =>
     have HV:Hid (askB from_ to_ most=false):=oh (by rw[HA.out];rfl);have h4:=of_decide_eq_true hq4;clear hq3 hq4;go_wp2_with fail;refine (HB1.out _).mono ?_;rintro e w2 ⟨rfl,rfl⟩;go_wp2_with fail;refine (HB2.out _).mono ?_;rintro e w2 ⟨rfl,rfl⟩;go_wp2_with fail;refine (new_any H1.out.env _ _ [] 2 (.sent 2 (by decide) (by decide))).mono ?_;rintro e w2 ⟨b,rfl,hE,hm⟩;have HE:=oh hE;have H2:=oh (H1.out.ext hm);clear hE hm;go_wp2_with fail;refine bodyPost_ret (v:=.tuple #[.pointer none,faultV b]) (by simp[results,Tryz.results124,go_sem]) rfl ?_;rw[HV.out];exact .inr ⟨rfl,b,F1,rfl,H2.out.1.pg,(N1.out.trans H2.out.2).shrink (λk hk=>.inl hk),HE.out⟩
    | false =>
     have HV:Hid (askB from_ to_ most=true):=oh (by rw[HA.out];rfl);have h4:=of_decide_eq_false hq4;clear hq3 hq4;go_wp2_with fail;refine (HB1.out _).mono ?_;rintro e w2 ⟨rfl,rfl⟩;go_wp2_with fail;refine (HB2.out _).mono ?_;rintro e w2 ⟨rfl,rfl⟩;go_wp2_with fail;refine bodyPost_ret (v:=.tuple #[.pointer (some ⟨kb,0,none⟩),.nilIface]) (by simp[results,Tryz.results124,go_sem]) rfl ?_;rw[HV.out];exact .inl ⟨rfl,kb,base,F1,rfl,H1.out,N1.out⟩
end
section
variable {F:Nat→Prop}{w w':World}
def onI(n:Nat)(i:Int):Bool:=decide (0≤i∧i<(n:Int))
def stepI(n:Nat)(i by_:Int):Int:=if onI n i=true then i+by_ else -1
end
section
variable {ad:Nat→Addr}{w0 w w':World}{kb root D:Nat}{G:GA}{L:List PairS}{i:Int}
theorem OnPos.le{st:StC}(h:OnPos G L D st i):(onI L.length i=true∧∃k:Nat,i=(k:Int)∧AtPos G L D st k)∨(onI L.length i=false∧st=[]):=by
 rcases h with ⟨h1,h2,h3⟩|⟨h1,h2⟩
 ·exact .inl ⟨decide_eq_true ⟨h1,h2⟩,i.toNat,by omega,h3⟩
 ·exact .inr ⟨decide_eq_false (by omega),h2⟩
theorem tight_of{st:List FrE}(h:OnPos G L D (st.map FrE.pl) i):TightF st:=λx hx=>by
 have:=h.small x.pl (List.mem_map_of_mem hx);simp only[FrE.pl] at this;omega
theorem move_off(hD:D≤16){st:StC}(h:OnPos G L D st i)(b:Int)(hb:b=1∨b = -1):∃st',moveA G b st=.inl st'∧OnPos G L D st' (stepI L.length i b):=by
 unfold stepI;rcases h.le with ⟨h1,k,rfl,h2⟩|⟨h1,rfl⟩
 ·rw[if_pos h1];rcases hb with rfl|rfl
  ·exact next_pos hD h2
  ·exact prev_pos hD h2
 ·rw[if_neg (by rw[h1];simp)];exact⟨[],rfl,.inr ⟨.inl (by omega),rfl⟩⟩
end
section
variable {α:Type}{F P P' F' P1 F1 P0 F0:Nat→Prop}{ad:Nat→Addr}{w w' w0 w1 wr:World}{base c s gen kb:Nat}{root D:Nat}{G G':GA}{l l':List Nat}{L:List PairS}{sv sv' v v':Value}{st st':List FrE}{x x':List α}{i:Int}{e:TypeId}{sz:Nat}{enc:α→List Value}
theorem CuI.app{r:Int}(h:CuI F P ad w base c s gen kb r G l sv st)(hr:LocR w0 F (cuQ P kb sv) w e sz enc v x)(n:Nxt P0 (cuQ P kb sv) F0 F ad w0 w)(ho:Own (λ_=>False) w' w0.heap.size e sz enc v' x')(m:Mods (λk=>v.ownBlock=some k) w w'){K:Nat}(hat:v'.ownBlock=v.ownBlock∨v'.ownBlock=some K)(hK:w.heap.size≤K) :
  CuI (plusV F v') P ad w' base c s gen kb r G l sv st:=by
 have hnew:∀k,k<w.heap.size→¬ F k→¬ plusV F v' k:=λk hk hn hf=>by
  rcases hf with hf|hf
  ·exact hn hf
  ·rcases hat with e|e
   ·exact hn (hr.2 k (e ▸ hf)).1
   ·rw[e] at hf;injection hf with hf;omega
 exact⟨(LocR.app n hr ho m hat hK).1.env,λk hk=>.inl (h.sub k hk),h.pg.plus m (λk hk e=>(hr.2 k e).2 (.inl hk)) (λk hk=>(hr.2 k hk).1) hnew,
  ⟨h.cu.blk.mods m (λe=>(hr.2 kb e).2 (.inr (.inl rfl))),h.cu.row.mods m (λg hg e=>(hr.2 g e).2 (.inr (.inr hg))),λy hy=>(h.cu.fr y hy).step (m.mono (λk hk=>(hr.2 k hk).1)) hnew,λk hk=>⟨.inl (h.cu.nP k hk).1,(h.cu.nP k hk).2⟩,h.cu.ok⟩,Nat.le_trans h.bl m.size⟩
def BkS(F0 P0:Nat→Prop)(ad:Nat→Addr)(w0:World)(c s gen kb root:Nat)(G:GA)(l:List Nat)(L:List PairS)(D:Nat)(i:Int)(e:TypeId)(sz:Nat)(enc:α→List Value)(v:Value)(x:List α)(wr:World):Prop :=
 ∃(F P:Nat→Prop) (base:Nat) (sv:Value) (st:List FrE),CuI F P ad wr base c s gen kb (root:Int) G l sv st∧Nxt P0 (cuQ P kb sv) F0 F ad w0 wr∧OnPos G L D (st.map FrE.pl) i∧LocR w0 F (cuQ P kb sv) wr e sz enc v x
theorem BkS.ext(h:BkS F0 P0 ad w0 c s gen kb root G l L D i e sz enc v x w)(m:Ext w w'):BkS F0 P0 ad w0 c s gen kb root G l L D i e sz enc v x w':=by
 obtain⟨F,P,base,sv,st,h1,h2,h3,h4⟩:=h;have h5:=h1.ext m;exact⟨F,P,base,sv,st,h5.1,h2.trans h5.2,h3,h4.ext m⟩
theorem BkS.ext0(h:BkS F0 P0 ad w0 c s gen kb root G l L D i e sz enc v x w):w0.heap.size≤w.heap.size:=by
 obtain⟨F,P,base,sv,st,h1,h2,h3,h4⟩:=h;exact h2.stp.mods.size
theorem BkS.own(h:BkS F0 P0 ad w0 c s gen kb root G l L D i e sz enc v x w):Own (λ_=>False) w w0.heap.size e sz enc v x:=by
 obtain⟨F,P,base,sv,st,h1,h2,h3,h4⟩:=h;exact h4.1
theorem BkS.app(h:BkS F0 P0 ad w0 c s gen kb root G l L D i e sz enc v x w)(ho:Own (λ_=>False) w' w0.heap.size e sz enc v' x')(m:Mods (λk=>v.ownBlock=some k) w w'){K:Nat}(hat:v'.ownBlock=v.ownBlock∨v'.ownBlock=some K)(hK:w.heap.size≤K) :
  BkS F0 P0 ad w0 c s gen kb root G l L D i e sz enc v' x' w':=by
 obtain⟨F,P,base,sv,st,h1,h2,h3,h4⟩:=h;obtain⟨j1,j2⟩:=LocR.app h2 h4 ho m hat hK;exact⟨plusV F v',P,base,sv,st,h1.app h4 h2 ho m hat hK,j1,h3,j2⟩
theorem BkS.done(hL:Env F0 ad w0)(h:BkS F0 P0 ad w0 c s gen kb root G l L D i e sz enc v x w)(henc:∀y,(enc y).length=sz)(hl:x.length≤140737488355328) :
  ∃P',PgR (λk=>F0 k∨P' k) w P' c s G l∧Nxt P0 P' F0 (λk=>F0 k∨P' k) ad w0 w∧Sl (λk=>F0 k∨P' k) w sz enc v x:=by
 obtain⟨F,P,base,sv,st,h1,h2,h3,h4⟩:=h;have n:=(h2.shrink (P2:=P) (λk hk=>.inl hk));refine⟨P,h1.pg.anti (λk hk=>hk.elim (h2.grow k) (h1.sub k)),n.least,?_⟩;exact Own.sl (F:=λk=>F0 k∨P k) ⟨h4.1.1,λg hg hf=>hf.elim (λhf=>by have h1:=(h4.1.lt g hg).1;have h2:=hL.lt g hf;omega) (λhp=>(h4.2 g hg).2 (.inl hp))⟩ henc hl
theorem next_bk(h:BkS F0 P0 ad w0 c s gen kb root G l L D i e sz enc v x w)(ht:G.total)(hD:D≤16) : Calls Tryz.prog 128 #[.pointer (some ⟨kb,0,none⟩)] w λen w'=>en=.returned .nilIface∧BkS F0 P0 ad w0 c s gen kb root G l L D (stepI L.length i 1) e sz enc v x w':=by
 obtain⟨F,P,base,sv,st,h1,h2,h3,h4⟩:=h;obtain⟨st',e1,e2⟩:=move_off hD h3 1 (.inl rfl);refine (next_any h1 (tight_of h3) ht).mono ?_;rintro e w' ⟨P1,F1,sv1,st1,k1,k2,k3⟩;rw[e1] at k3;exact⟨k3.1,F1,P1,base,sv1,st1,k1,h2.trans k2,by rw[k3.2];exact e2,h4.nxt k2⟩
theorem seek_bk(h:BkS F0 P0 ad w0 c s gen kb root G l L D i e sz enc v x w)(ht:G.total)(hT:TreeE G root D L)(key:ByteArray)(hb:boundB key=true) : Calls Tryz.prog 125 #[.pointer (some ⟨kb,0,none⟩),.string key] w λen w'=>en=.returned .nilIface∧BkS F0 P0 ad w0 c s gen kb root G l L D (seekP key L:Int) e sz enc v x w':=by
 obtain⟨F,P,base,sv,st,h1,h2,h3,h4⟩:=h;obtain⟨st',e1,e2⟩:=seek_pos key hT;refine (seekB_any key h1 ht).mono ?_;rintro e w' ⟨P1,F1,sv1,st1,k1,k2,k3⟩;have e3:seekB G (root:Int) key=.inl st':=by unfold seekB;rw[if_pos hb,e1]
 rw[e3] at k3;exact⟨k3.1,F1,P1,base,sv1,st1,k1,h2.trans k2,by rw[k3.2];exact e2,h4.nxt k2⟩
theorem on_bk(h:BkS F0 P0 ad w0 c s gen kb root G l L D i e sz enc v x w) : Calls Tryz.prog 126 #[.pointer (some ⟨kb,0,none⟩)] w λen w'=>en=.returned (.bool (onI L.length i))∧w=w':=by
 obtain⟨F,P,base,sv,st,h1,h2,h3,h4⟩:=h;have:(!st.isEmpty)=onI L.length i:=by
  rcases h3.le with ⟨h4,k,rfl,n,a,r,pre,p,suf,lo,hi,e,_⟩|⟨h4,h5⟩
  ·rw[h4];cases st with
   | nil=>simp at e
   | cons x r=>rfl
  ·rw[h4];rw[List.map_eq_nil_iff] at h5;rw[h5];rfl
 rw[← this];exact on_any h1
theorem key_bk(h:BkS F0 P0 ad w0 c s gen kb root G l L D i e sz enc v x w){k:Nat}{y:PairS}(hi:i=(k:Int))(hx:L[k]? = some y) : Calls Tryz.prog 127 #[.pointer (some ⟨kb,0,none⟩)] w λen w'=>en=.returned (.string y.1)∧∃q,w'=w.drewN q:=by
 obtain⟨F,P,base,sv,st,h1,h2,h3,_⟩:=h;subst hi;have hk:=(List.getElem?_eq_some_iff.1 hx).1;rcases h3 with ⟨_,_,h4⟩|⟨h4,_⟩
 ·rw[Int.toNat_natCast] at h4;obtain⟨n,a,r,e,z,e1,e2,e3,e4,e5,e6,e7,e8⟩:=h4.pair;rw[hx] at e3;injection e3 with e3;subst e3;cases st with
  | nil=>simp at e1
  | cons z st =>
   rw[List.map_cons] at e1;injection e1 with e1 _;have ha:=congrArg Prod.snd e1;have hn:=congrArg Prod.fst e1;rw[← e4];exact key_on h1 ha (by rw[show z.node=n from hn];exact e2)
 ·omega
end
theorem stepI_at{n k:Nat}(h:k<n)(b:Int):stepI n (k:Int) b=(k:Int)+b:=by
 unfold stepI;exact if_pos (decide_eq_true ⟨by omega,by omega⟩)
theorem onI_off{n:Nat}{i:Int}(h:i<0∨(n:Int)≤i):onI n i=false:=decide_eq_false (by omega)
def belowB(to_ k:ByteArray):Bool:=decide (to_=⟨#[]⟩) || ltS k to_
def upP(to_:ByteArray):List PairS→Nat→List PairS
 | [],_=>[]
 | _,0=>[]
 | x :: r,m+1=>if belowB to_ x.1=true then x :: upP to_ r m else []
def RangeD(F P:Nat→Prop)(ad:Nat→Addr)(w:World)(c s:Nat)(G:GA)(l:List Nat)(o:List PairS)(e:Ending)(w':World):Prop :=
 PgDone F P ad w c s G l (λF' w' e=>∃v,e=.returned (.tuple #[v,.nilIface])∧Sl F' w' 2 encP v o) e w'
section
variable {α:Type}{F P P' F' P1 F1 P0 F0:Nat→Prop}{ad:Nat→Addr}{w w' w0 w1 wr:World}{base c s gen kb:Nat}{root D:Nat}{G G':GA}{l l':List Nat}{L:List PairS}{sv sv' v v':Value}{st st':List FrE}{x x':List α}{i:Int}{e:TypeId}{sz:Nat}{enc:α→List Value}
theorem value_bk(h:BkS F0 P0 ad w0 c s gen kb root G l L D i e sz enc v x w){k:Nat}{y:PairS}(hi:i=(k:Int))(hx:L[k]? = some y) : Calls Tryz.prog 129 #[.pointer (some ⟨kb,0,none⟩)] w λen w'=>en=.returned (.tuple #[.string y.2,.nilIface])∧BkS F0 P0 ad w0 c s gen kb root G l L D i e sz enc v x w':=by
 obtain⟨F,P,base,sv,st,h1,h2,h3,h9⟩:=h;subst hi;have hk:=(List.getElem?_eq_some_iff.1 hx).1;have h30:=h3;rcases h3 with ⟨_,_,h4⟩|⟨h4,_⟩
 ·rw[Int.toNat_natCast] at h4;obtain⟨n,a,r,e,z,e1,e2,e3,e4,e5,e6,e7,e8⟩:=h4.pair;rw[hx] at e3;injection e3 with e3;subst e3;cases st with
  | nil=>simp at e1
  | cons z st =>
   rw[List.map_cons] at e1;injection e1 with e1 _;have ha:=congrArg Prod.snd e1;have hn:=congrArg Prod.fst e1;have hRG : -9223372036854775808≤e.chain∧e.chain≤9223372036854775807:=by
    have h3:=right_entry e8 e7 e2;unfold rightE at h3;simp only[Bool.and_eq_true] at h3;have h4:=h3.2;split at h4
    ·omega
    ·simp only[Bool.and_eq_true,decide_eq_true_eq,kidB] at h4;omega
   refine (value_on h1 ha (by rw[show z.node=n from hn];exact e2) e5 e6 hRG).mono ?_;rintro en w' ⟨rfl,P',F',k1,k2⟩;exact⟨rfl,F',P',base,sv,z :: st,k1,h2.trans k2,h30,h9.nxt k2⟩
 ·omega
theorem belowB_way{to_ k:ByteArray}(h:belowB to_ k=true):(to_.toList.isEmpty=true)∨(to_.toList.isEmpty=false∧Op.bytesLess k.toList to_.toList=true):=by
 cases hfe:to_.toList.isEmpty with
 | true=>exact .inl rfl
 | false =>
  refine .inr ⟨rfl,?_⟩;unfold belowB at h;have hne:to_ ≠ ⟨#[]⟩:=λe=>by rw[e] at hfe;simp[ByteArray.toList_eq] at hfe
  rw[decide_eq_false hne,Bool.false_or] at h;exact h
theorem belowB_no{to_ k:ByteArray}(h:belowB to_ k=false):to_.toList.isEmpty=false∧Op.bytesLess k.toList to_.toList=false:=by
 unfold belowB at h;rw[Bool.or_eq_false_iff] at h;refine⟨?_,h.2⟩;cases hfe:to_.toList.isEmpty with
 | false=>rfl
 | true =>
  have he:to_=⟨#[]⟩:=toList_inj (by rw[List.isEmpty_iff.1 hfe];simp[ByteArray.toList_eq]);rw[decide_eq_true he] at h;cases h.1
end
section
variable {F P P' F' P1 F1:Nat→Prop}{ad:Nat→Addr}{w w' w0 w1:World}{c s gen:Nat}{root D:Nat}{G:GA}{l:List Nat}{L:List PairS}
theorem range_any(hL:Env F ad w)(hP:∀k,P k→F k)(h:PgR F w P c s G l)(hlen:L.length≤1000)(ht:G.total)(hD:D≤16)(hT:TreeE G root D L)(gen:Nat)(from_ to_:ByteArray)(most:Int)(hm:askB from_ to_ most=true) :
  Calls Tryz.prog 77 #[pgV c s gen,.int .i64 (root:Int),.string from_,.string to_,.int .i64 most] w (RangeD F P ad w c s G l (upP to_ (L.drop (seekP from_ L)) most.toNat)):=by
 have m0:Ext w (w.alloc (.cells #[.pointer (some ⟨c,0,none⟩),.pointer (some ⟨s,0,none⟩),.int .u64 (gen:Int)] 142)):=(Mods.refl _ w).alloc _;have HN0:=oh (Nxt.ext hL hP m0);have HL0:=oh hL;have hOP:=λop=>open_cur HN0.out.env hP (h.at m0) gen (root:Int) op from_ to_ most
 rw[hm] at hOP;have HOP:=oh hOP;have hbq:boundB from_=true:=by unfold askB at hm;simp only[Bool.and_eq_true] at hm;exact hm.1.1.1
 have hm1:0≤most∧most≤65535:=by unfold askB at hm;simp only[Bool.and_eq_true,decide_eq_true_eq] at hm;omega
 obtain⟨N,rfl⟩:∃N:Nat,most=(N:Int):=⟨most.toNat,by omega⟩;rw[Int.toNat_natCast];have HB:=oh hbq;have HG:=oh ht;have HT:=oh hT;have HD:=oh hD;obtain⟨z,hz⟩:∃z,z=seekP from_ L:=⟨_,rfl⟩;have hzl:z≤L.length:=by rw[hz];exact List.findIdx_le_length
 have HZ:=oh hz;obtain⟨R,hR⟩:∃R,R=upP to_ (L.drop z) N:=⟨_,rfl⟩;have HR:=oh hR;rw[← hz,← hR];clear hL hP h m0 hOP hm hm1 hbq ht hD hT hz hR;unfold pgV at HOP ⊢
 go_enter Tryz.func77, Tryz.ntmps77
 go_wp2_with fail;refine (HOP.out _).mono ?_;rintro e w1 hd;obtain⟨kb,base,F1,rfl,h1,n1⟩:NewD F P ad (w.alloc (.cells #[.pointer (some ⟨c,0,none⟩),.pointer (some ⟨s,0,none⟩),.int .u64 (gen:Int)] 142)) c s gen (root:Int) G l e w1:=by
  rcases hd with ⟨_,h⟩|⟨h,_⟩
  ·exact h
  ·cases h
 have hS1:BkS F P ad w c s gen kb root G l L D (-1) 111 2 encP (.slice none 0 0) [] w1:=⟨F1,P,base,_,[],h1,HN0.out.trans n1,.inr ⟨.inl (by omega),rfl⟩,LocR.nil _ _ _ _ _ _ _⟩;have hsk:=seek_bk hS1 HG.out HT.out from_ HB.out;rw[← HZ.out] at hsk;have HSK:=oh hsk;clear hd h1 n1 hS1 hsk;go_wp2_with fail;refine (HSK.out).mono ?_;rintro e w2 ⟨rfl,hS⟩;have HS2:=oh hS;clear hS;go_wp2_with fail;go_loopg [13,14] (L.length-z) (λm v13 v14 wr=>∃(k:Nat) (o:List PairS),k+m=L.length∧v13=.nilIface∧o.length≤N∧o.length≤k∧Hid (BkS F P ad w c s gen kb root G l L D (k:Int) 111 2 encP v14 o wr∧o++upP to_ (L.drop k) (N-o.length)=R))
 case atStart=>exact⟨z,[],by omega,rfl,Nat.zero_le _,Nat.zero_le _,oh ⟨HS2.out,by rw[HR.out];simp⟩⟩
 case round =>
  obtain⟨k,o,hkm,rfl,hoN,hok,HC⟩:=hrel;obtain⟨va,vc,rfl,vq1,vq2⟩:=HC.out.1.own.form;have hon:=on_bk HC.out.1;have HOK:=oh (And.intro hoN hok);by_cases hlt:k<L.length
  ·have hof:onI L.length (k:Int)=true:=decide_eq_true ⟨by omega,by omega⟩;rw[hof] at hon;have HON:=oh hon;obtain⟨y,hy⟩:∃y,L[k]? = some y:=⟨_,List.getElem?_eq_getElem hlt⟩;have HY:=oh hy;have HLT:=oh hlt;have hdr:L.drop k=y :: L.drop (k+1):=by rw[List.drop_eq_getElem_cons hlt];rw[List.getElem?_eq_getElem hlt] at hy;injection hy with hy;rw[hy]
   by_cases hoo:o.length<N
   ·have i1:(o.length:Int)<(N:Int):=by omega
    obtain⟨r,hr⟩:∃r,N-o.length=r+1:=⟨N-o.length-1,by omega⟩;have HRR:=oh hr;have hres:=HC.out.2;rw[hdr,hr,upP] at hres;cases hbl:belowB to_ y.1 with
    | true =>
     rw[if_pos hbl] at hres;have HRS:Hid (o++[y]++upP to_ (L.drop (k+1)) r=R):=oh (by rw[← hres];simp);have hway:=belowB_way hbl;clear hon hof hy hdr hr hres hbl hlt hoo vq1 vq2;have HKY:=oh (key_bk HC.out.1 rfl HY.out);have hgo:∀(q:Nat),Hid (BkS F P ad w c s gen kb root G l L D (k:Int) 111 2 encP (.slice va o.length vc) o (wr.drewN q)):=λq=>oh (HC.out.1.ext ((Mods.refl _ wr).drewN q))
     have HGO:=oh hgo;clear hgo;rcases hway with hfe|⟨hfe,hle⟩
     ·go_wp2_with fail;refine (HON.out).mono ?_;rintro e w3 ⟨rfl,rfl⟩;go_wp2_with fail;have HV:=oh (value_bk HC.out.1 rfl HY.out);refine (HV.out).mono ?_;rintro e w4 ⟨rfl,hS⟩;have HK4:=oh (key_bk hS rfl HY.out);have HS4:=oh hS;clear hS;go_wp2_with fail;refine (HK4.out).mono ?_;rintro e w5 ⟨rfl,k5,rfl⟩;have HS5:=oh ((HS4.out.ext ((Mods.refl _ w4).drewN k5)).ext ((Mods.refl _ _).alloc (.cells #[.string y.1,.string y.2] 111)));go_wp2_with (at_builtin;refine wpl_app2 Tryz.elP encP_ok rfl _ _ rfl w.heap.size _ _ o [y] rfl rfl HS5.out.own (Sl.one (F:=λ_=>False) (heap_at (by simp)) (λf=>f)) (by have:=HOK.out.2;have:=HLT.out;simp only[List.length_cons,List.length_nil];omega) HS5.out.ext0 (λf=>f) ?_;simp only[List.length_cons,List.length_nil,Nat.zero_add];intro a6 c6 w6 hO6 hm6 hat6);have HS6:=oh (HS5.out.app hO6 hm6 hat6 (Nat.le_refl _));have hnx:=next_bk HS6.out HG.out HD.out;rw[stepI_at HLT.out] at hnx;have HNX:=oh hnx;clear hO6 hm6 hat6 hnx;go_wp2_with fail;refine (HNX.out).mono ?_;rintro e w7 ⟨rfl,hS7⟩;have HS7:=oh hS7;clear hS7;go_wp2_with fail;go_roundg (gk-1)
      case measure=>have:=HLT.out;omega
      case rel=>exact⟨k+1,o++[y],by have:=HLT.out;omega,rfl,by have:=HRR.out;simp;omega,by have:=HOK.out.2;simp;omega,oh ⟨by simpa using HS7.out,by
       have hr2:N-(o++[y]).length=r:=by have:=HRR.out;simp;omega
       rw[hr2];exact HRS.out⟩⟩
     ·go_wp2_with fail;refine (HON.out).mono ?_;rintro e w3 ⟨rfl,rfl⟩;go_wp2_with fail;refine (HKY.out).mono ?_;rintro e w3 ⟨rfl,k3,rfl⟩;have HV:=oh (value_bk (HGO.out k3).out rfl HY.out);go_wp2_with fail;refine (HV.out).mono ?_;rintro e w4 ⟨rfl,hS⟩;have HK4:=oh (key_bk hS rfl HY.out);have HS4:=oh hS;clear hS;go_wp2_with fail;refine (HK4.out).mono ?_;rintro e w5 ⟨rfl,k5,rfl⟩;have HS5:=oh ((HS4.out.ext ((Mods.refl _ w4).drewN k5)).ext ((Mods.refl _ _).alloc (.cells #[.string y.1,.string y.2] 111)));go_wp2_with (at_builtin;refine wpl_app2 Tryz.elP encP_ok rfl _ _ rfl w.heap.size _ _ o [y] rfl rfl HS5.out.own (Sl.one (F:=λ_=>False) (heap_at (by simp)) (λf=>f)) (by have:=HOK.out.2;have:=HLT.out;simp only[List.length_cons,List.length_nil];omega) HS5.out.ext0 (λf=>f) ?_;simp only[List.length_cons,List.length_nil,Nat.zero_add];intro a6 c6 w6 hO6 hm6 hat6);have HS6:=oh (HS5.out.app hO6 hm6 hat6 (Nat.le_refl _));have hnx:=next_bk HS6.out HG.out HD.out;rw[stepI_at HLT.out] at hnx;have HNX:=oh hnx;clear hO6 hm6 hat6 hnx;go_wp2_with fail;refine (HNX.out).mono ?_;rintro e w7 ⟨rfl,hS7⟩;have HS7:=oh hS7;clear hS7;go_wp2_with fail;go_roundg (gk-1)
      case measure=>have:=HLT.out;omega
      case rel=>exact⟨k+1,o++[y],by have:=HLT.out;omega,rfl,by have:=HRR.out;simp;omega,by have:=HOK.out.2;simp;omega,oh ⟨by simpa using HS7.out,by
       have hr2:N-(o++[y]).length=r:=by have:=HRR.out;simp;omega
       rw[hr2];exact HRS.out⟩⟩
    | false =>
     rw[if_neg (by rw[hbl];simp)] at hres;have HCN:Hid (o=R):=oh (by simpa using hres);have HKY:=oh (key_bk HC.out.1 rfl HY.out);obtain⟨hfe,hle⟩:=belowB_no hbl;clear hon hof hy hdr hr hres hbl hlt hoo vq1 vq2;go_wp2_with fail;refine (HON.out).mono ?_;rintro e w3 ⟨rfl,rfl⟩;go_wp2_with fail;refine (HKY.out).mono ?_;rintro e w3 ⟨rfl,k3,rfl⟩;go_wp2_with fail;refine bodyPost_ret (v:=.tuple #[.slice va o.length vc,.nilIface]) (by simp[results,Tryz.results77,go_sem]) rfl ?_;obtain⟨P9,g1,g2,g3⟩:=(HC.out.1.ext ((Mods.refl _ wr).drewN k3)).done HL0.out encP_ok.len (by have:=HOK.out.2;have:=HLT.out;omega);exact⟨P9,_,g1,g2,_,rfl,by rw[← HCN.out];exact g3⟩
   ·have i1:¬ (o.length:Int)<(N:Int):=by omega
    have HCN:Hid (o=R):=oh (by
     have:=HC.out.2;rw[show N-o.length=0 by omega] at this;rw[← this,hdr];simp[upP])
    clear hon hof hy hdr hlt hoo vq1 vq2;go_wp2_with fail;refine (HON.out).mono ?_;rintro e w3 ⟨rfl,rfl⟩;go_wp2_with fail;refine bodyPost_ret (v:=.tuple #[.slice va o.length vc,.nilIface]) (by simp[results,Tryz.results77,go_sem]) rfl ?_;obtain⟨P9,g1,g2,g3⟩:=HC.out.1.done HL0.out encP_ok.len (by have:=HOK.out.2;have:=HLT.out;omega);exact⟨P9,_,g1,g2,_,rfl,by rw[← HCN.out];exact g3⟩
  ·have hof:onI L.length (k:Int)=false:=onI_off (.inr (by omega));rw[hof] at hon;have HON:=oh hon;have HLN:Hid (k≤L.length∧L.length≤1000):=oh ⟨by omega,hlen⟩;have HCN:Hid (o=R):=oh (by have:=HC.out.2;rw[List.drop_eq_nil_of_le (by omega)] at this;simpa[upP] using this);clear hon hof hlt vq1 vq2;go_wp2_with fail;refine (HON.out).mono ?_;rintro e w3 ⟨rfl,rfl⟩;go_wp2_with fail;refine bodyPost_ret (v:=.tuple #[.slice va o.length vc,.nilIface]) (by simp[results,Tryz.results77,go_sem]) rfl ?_;obtain⟨P9,g1,g2,g3⟩:=HC.out.1.done HL0.out encP_ok.len (by have:=HOK.out.2;have:=HLN.out;omega);exact⟨P9,_,g1,g2,_,rfl,by rw[← HCN.out];exact g3⟩
end
end
section
open Go.RowKit
theorem dry_new{b s:Nat}(h8:8≤b)(h256:b≤256)(h1:256≤s)(h2:s≤1024):DryD (newDisk b s) :=
 ⟨rfl,rfl,rfl,by simp[newDisk],λid hid=>by
  have hid':id<b:=hid;unfold DiskA.look newDisk;simp[lookW,List.getD_eq_getElem?_getD,hid'],h8,h256,h1,h2⟩
theorem mount_total(D:DiskA):(mountG D).total:=λi hi=>by
 have hi':i<D.blocks:=hi;exact⟨_,by show (if i<D.blocks then some (openAtP (D.look i) i) else none)=_;rw[if_pos hi']⟩
theorem mount_free{n:Nat}(h:8≤n):spFree (mountL n [0,1,2,3,4,5])=some 6:=by
 refine spFree_some (λj hj=>?_) ?_
 ·rw[mountL_get _ (by omega),if_pos (by simp;omega)];simp
 ·rw[mountL_get _ (by omega),if_neg (by simp)]
theorem mount_low{n:Nat}(h:8≤n):LowL (mountL n [0,1,2,3,4,5]):=⟨by rw[mountL_get _ (by omega),if_pos (by simp)],by rw[mountL_get _ (by omega),if_pos (by simp)]⟩
def oneG(D:DiskA)(key v:ByteArray):GA:=downG (mountG (formD D)) (mountL D.blocks [0,1,2,3,4,5]) 2 0 (leaf1 key v)
def oneL(D:DiskA)(key v:ByteArray):List Nat:=downL (mountG (formD D)) (mountL D.blocks [0,1,2,3,4,5]) 0 (leaf1 key v)
section
variable {D:DiskA}{key v:ByteArray}
theorem one_tree(hD:DryD D)(hk:keyB key=true)(hv:v.size≤24):TreeE (oneG D key v) 6 1 [(key,v)]:=by
 have hd:=down0_some (G:=mountG (formD D)) hk hv hD.s256 (mount_free hD.b8);have hn:(oneG D key v).node 6=some (leaf1 key v):=down_node hd (by show 6<D.blocks;have:=hD.b8;omega);refine⟨.inr ⟨by omega,by omega,by omega,.leaf hn rfl (leaf1_right hk hv) rfl (λi e x he hx=>?_) (λx _=>inB_all _)⟩,λ_=>.leaf hn rfl (by simp[leaf1])⟩;match i,he,hx with
 | 0,he,hx =>
  simp[leaf1] at he hx;subst he hx;exact⟨rfl,rfl⟩
 | i+1,he,_=>simp[leaf1] at he
end
section
variable {P F:Nat→Prop}{ad:Nat→Addr}{w:World}{c sp:Nat}{D:DiskA}{key v:ByteArray}
theorem one_range(hP:∀k,P k→F k)(hD:DryD D)(hk:keyB key=true)(hv:v.size≤24)(l:List Nat)(g:Nat) :
  ∀W,Env F ad W→PgR F W P c sp (oneG D key v) l → Calls Tryz.prog 77 #[pgV c sp g,.int .i64 ((6:Nat):Int),.string e0,.string e0,.int .i64 65535] W (RangeD F P ad W c sp (oneG D key v) l [(key,v)]):=λW hL h=>by
 have hR:=range_any hL hP h (by simp) (down_total (mount_total _) _ _ _) (by omega) (one_tree hD hk hv) g e0 e0 65535 (by unfold askB boundB;simp);have e:upP e0 (List.drop (seekP e0 [(key,v)]) [(key,v)]) (Int.toNat 65535)=[(key,v)]:=by
  have hz:ltS key e0=false:=by
   cases h:ltS key e0 with
   | false=>rfl
   | true =>
    unfold ltS at h;rw[show e0.toList=[] from by simp[ByteArray.toList_eq]] at h;cases hk:key.toList <;> rw[hk] at h <;> simp[Op.bytesLess] at h
  have h0:seekP e0 [(key,v)]=0:=by simp[seekP,hz,List.findIdx_cons]
  rw[h0,List.drop_zero,show Int.toNat 65535=65534+1 from rfl,upP,if_pos (by simp[belowB])];rfl
 rw[e] at hR;exact hR
end
end
section
open Go.RowKit
attribute [local go_sem ↓] Go.wp_at_zero Go.wp_at_succ
section
variable {P P' F F':Nat→Prop}{ad:Nat→Addr}{w w':World}{S d c sp:Nat}
theorem Nxt.addS(n:Nxt P P' F F' ad w w')(hS:w.heap.size≤S)(h2:S<w'.heap.size)(hF:F' S):Nxt P (plusR P' S) F F' ad w w' :=
 ⟨⟨n.stp.mods,λk hk h=>h.elim (n.stp.old k hk) (λe=>by omega),λk h=>h.elim (n.stp.bd k) (λe=>by rw[e];exact h2)⟩,λk h=>h.elim (n.sub k) (λe=>by rw[e];exact hF),n.grow,n.oldF,n.env⟩
def D250:DiskA:=newDisk 250 256
theorem D250_dry:DryD D250:=dry_new (by omega) (by omega) (by omega) (by omega)
def Made20D(ad:Nat→Addr)(w:World)(key v:ByteArray)(e:Ending)(w':World):Prop :=
 ∃S d c sp P' F',e=.returned (.tuple #[.pointer (some ⟨S,0,none⟩),.bool true])∧StR F' w' P' S d c sp (sup1A D250) 0 ((6:Nat):Int) 1 (oneG D250 key v) (oneL D250 key v)∧Nxt NoB (plusR P' S) NoB F' ad w w'
theorem made20_one(hL:Env NoB ad w)(key v:ByteArray)(hk:keyB key=true)(hv:v.size≤24)(lv:Value)(hl:Sl NoB w 2 encP lv [(key,v)]) :
  Calls Tryz.prog 16 #[lv] w (Made20D ad w key v):=by
 have HL:=oh hL;have HK:=oh hk;have HV:=oh hv;have HSL:=oh hl;obtain⟨la,lc,rfl, -⟩:=id hl;clear hL hk hv hl;have e1:([(key,v)]:List PairS).length=1:=rfl;rw[e1] at HSL ⊢
 go_enter Tryz.func16, Tryz.ntmps16
 go_wp2_with fail;refine (dkNew_ok 250 256 (by omega) (by omega) (by omega) (by omega)).mono ?_;rintro e w1 ⟨d,Pd,rfl,hD,hn,hm⟩;have HN1:=oh (Nxt.of (P:=NoB) (P':=Pd) HL.out (λ_ h=>h.elim) ⟨hm,λk hk h=>by have:=hn k h;omega,hD.bd⟩);have HD:Hid (DkS w1 Pd d D250):=oh hD;clear hD hn hm;go_wp2_with fail;refine (format_ok HN1.out.env (λ_ h=>.inr h) HD.out D250_dry 4 (by omega) (by omega)).mono ?_;rintro e w2 ⟨S,c,sp,P2,F2,rfl,h2,n2⟩;have hN2:=HN1.out.trans n2;have HS2:=oh (show w.heap.size≤S from Nat.le_of_not_lt λh=>(hN2.oldF S h h2.2.2.2).elim);have HS2b:=oh h2.lt;have HH2:=oh h2;have HN2:=oh hN2;have HSL2:=oh (hN2.sl (λ_ h=>h) HSL.out);clear n2 hN2 h2;go_wp2_with fail;go_loopg [8] 1 (λm v8 wr=>(m=1∧v8=.int .i64 0∧Hid (wr=w2))∨(m=0∧v8=.int .i64 1∧Hid (∃P6 F6,StR F6 wr P6 S d c sp (sup1A D250) 0 ((6:Nat):Int) 1 (oneG D250 key v) (oneL D250 key v)∧Nxt NoB (plusR P6 S) NoB F6 ad w wr)))
 case atStart=>exact .inl ⟨rfl,rfl,oh rfl⟩
 case round =>
  rcases hrel with ⟨hg,rfl,HR⟩|⟨hg,rfl,HR⟩
  ·have hwr:=HR.out;subst hwr;obtain⟨qb,qoff,hqa,hqF,hcc⟩:=HSL2.out.elemF (k:=0) (by simp);have d0:=hcc 0 (.string key) rfl;have d1:=hcc 1 (.string v) rfl;simp only[Nat.zero_mul,Nat.add_zero] at d0 d1;subst hqa;have HPU:=oh (λ(h:StR F2 wr.drew P2 S d c sp (sup1A D250) 0 0 0 (mountG (formD D250)) (mountL D250.blocks [0,1,2,3,4,5]))=>stPut0 (HN2.out.env.mods (Mods.refl _ _).drew) HN2.out.sub h (by show 1+1<_;omega) (by omega) key v HK.out HV.out (mount_low (n:=250) (by omega)) (by rw[mountL_len];exact Nat.le_refl _) (by show 0+10≤1000000;omega) 6 (mount_free (n:=250) (by omega)));have zd0:wr.drew.cell? ⟨qb,qoff,none⟩=some (.string key):=d0;have zd1:wr.drew.cell? ⟨qb,qoff+1,none⟩=some (.string v):=d1;go_wp2_with fail;go_region_held3 (λw'=>w'.cell? ⟨qb,qoff,none⟩=some (.string key)∧w'.cell? ⟨qb,qoff+1,none⟩=some (.string v))
    (first|(with_reducible exact⟨zd0,zd1⟩)|(with_reducible exact⟨z60,z61⟩)|fail)
    (first
     | (go_at_call 63;(with_reducible refine (HPU.out (HH2.out.at (Mods.refl _ _).drew)).mono ?_);rintro e w6 ⟨P6,F6,rfl,h6,n6⟩;have z60:w6.cell? ⟨qb,qoff,none⟩=some (.string key):=n6.cellK zd0 (λh=>hqF (h.elim (HN2.out.sub _) (λe=>e ▸ HH2.out.2.2.2)));have z61:w6.cell? ⟨qb,qoff+1,none⟩=some (.string v):=n6.cellK zd1 (λh=>hqF (h.elim (HN2.out.sub _) (λe=>e ▸ HH2.out.2.2.2))))
     | fail)
   have HN0:=HN2.out.addS HS2.out HS2b.out HH2.out.2.2.2;have HF:=oh (show ∃P6 F6,StR F6 w6 P6 S d c sp (sup1A D250) 0 ((6:Nat):Int) 1 (oneG D250 key v) (oneL D250 key v)∧Nxt NoB (plusR P6 S) NoB F6 ad w w6 from ⟨P6,F6,h6,(HN0.trans (Nxt.ext HN0.env HN0.sub (Mods.refl _ _).drew)).trans n6⟩);clear h6 n6 z60 z61 zd0 zd1 d0 d1 hcc HN0;go_wp2_with fail;go_roundg 0
   case measure=>omega
   case rel=>exact .inr ⟨rfl,by go_num,HF⟩
  ·have HR2:=HR;go_wp2_with fail;go_ret2
   obtain⟨P6,F6,h6,n6⟩:=HR2.out;exact⟨S,d,c,sp,P6,F6,rfl,h6,n6⟩
end
end
end Go.Proofs.YtdnbmdghmmpgcaaGreatDoor
