import Derived.Test.YtchklfmggpconaaGreatDoorK42
import Derived.BigQuiet
import Derived.Deep.RegionHeld3
namespace Go.Proofs.YtchklfmggpconaaGreatDoor
open Lib renaming hid→oh
set_option maxHeartbeats 4000000
set_option maxRecDepth 100000
open Go.RowKit
attribute [local go_sem ↓] Go.wp_at_zero Go.wp_at_succ
theorem Nxt.perm{P P' Q Q' F F':Nat→Prop}{ad:Nat→Addr}{w w':World}(n:Nxt P P' F F' ad w w')(h1:∀k,P k ↔ Q k)(h2:∀k,P' k ↔ Q' k):Nxt Q Q' F F' ad w w':=by
 obtain rfl:P=Q:=funext λk=>propext (h1 k)
 obtain rfl:P'=Q':=funext λk=>propext (h2 k)
 exact n
def valO(L:List PairS)(i:Nat)(v:ByteArray):ByteArray:=match L[i]? with
 | some y=>y.2
 | none=>v
def SdB(qb kb:Nat)(sv:Value):Nat→Prop:=λk=>CuB kb sv k∨k=qb
def SdQ(P:Nat→Prop)(qb kb:Nat)(sv:Value):Nat→Prop:=λk=>cuQ P kb sv k∨k=qb
section
variable {F P P' F' P1 F1 P0 F0 Q Q':Nat→Prop}{ad:Nat→Addr}{w w' w0 w1:World}{base c s gen kb qb root D i j:Nat}{G G':GA}{l l':List Nat}{L:List PairS}{sv sv':Value}{st st':List FrE}{v v':ByteArray}
theorem CuI.far{r:Int}(h:CuI F P ad w base c s gen kb r G l sv st)(m:Mods Q w w')(hQ:∀k,Q k→F k∧¬ cuQ P kb sv k):CuI F P ad w' base c s gen kb r G l sv st :=
 ⟨h.env.step (m.mono (λk hk=>(hQ k hk).1)) (λ_ _ hn=>hn) (λk hk=>Nat.lt_of_lt_of_le (h.env.lt k hk) m.size),h.sub,h.pg.plus m (λk hk hq=>(hQ k hq).2 (.inl hk)) (λk hq=>(hQ k hq).1) (λ_ _ hn=>hn),
  ⟨h.cu.blk.mods m (λe=>(hQ kb e).2 (.inr (.inl rfl))),h.cu.row.mods m (λg hg e=>(hQ g e).2 (.inr (.inr hg))),λy hy=>(h.cu.fr y hy).step (m.mono (λk hk=>(hQ k hk).1)) (λ_ _ hn=>hn),h.cu.nP,h.cu.ok⟩,Nat.le_trans h.bl m.size⟩
structure SdI(F P:Nat→Prop)(ad:Nat→Addr)(w:World)(base c s gen qb kb root:Nat)(G:GA)(l:List Nat)(L:List PairS)(D i:Nat)(v:ByteArray)(sv:Value)(st:List FrE):Prop where
 cu:CuI F P ad w base c s gen kb (root:Int) G l sv st
 pos:OnPos G L D (st.map FrE.pl) (i:Int)
 blk:Blk w qb #[.pointer (some ⟨kb,0,none⟩),.string v] 91
 qF:F qb
 qN:¬ cuQ P kb sv qb
theorem SdI.c0(h:SdI F P ad w base c s gen qb kb root G l L D i v sv st):w.cell? ⟨qb,0,none⟩=some (.pointer (some ⟨kb,0,none⟩)):=h.blk.cell rfl
theorem SdI.c1(h:SdI F P ad w base c s gen qb kb root G l L D i v sv st):w.cell? ⟨qb,1,none⟩=some (.string v):=h.blk.cell rfl
theorem SdI.sub(h:SdI F P ad w base c s gen qb kb root G l L D i v sv st):∀k,SdQ P qb kb sv k→F k:=λk hk=>hk.elim (h.cu.subQ k) (λe=>e ▸ h.qF)
theorem SdI.subB(h:SdI F P ad w base c s gen qb kb root G l L D i v sv st):∀k,SdB qb kb sv k→F k∧¬ P k:=by
 rintro k (hk|rfl)
 ·exact h.cu.cu.nP k hk
 ·exact⟨h.qF,λe=>h.qN (.inl e)⟩
theorem SdI.ltB(h:SdI F P ad w base c s gen qb kb root G l L D i v sv st):∀k,SdB qb kb sv k→k<w.heap.size:=by
 rintro k (hk|rfl)
 ·exact h.cu.cu.lt k hk
 ·exact h.blk.lt
theorem SdI.step(h:SdI F P ad w base c s gen qb kb root G l L D i v sv st)(n:Nxt (cuQ P kb sv) (cuQ P' kb sv') F F' ad w w')(k:CuI F' P' ad w' base c s gen kb (root:Int) G l sv' st')(hp:OnPos G L D (st'.map FrE.pl) (j:Int)) :
  SdI F' P' ad w' base c s gen qb kb root G l L D j v sv' st'∧Nxt (SdQ P qb kb sv) (SdQ P' qb kb sv') F F' ad w w' :=
 ⟨⟨k,hp,n.blk h.blk h.qN,n.grow qb h.qF,n.not h.blk.lt h.qN⟩,n.part (λk e=>e ▸ h.qF) h.cu.env⟩
theorem SdI.ext(h:SdI F P ad w base c s gen qb kb root G l L D i v sv st)(m:Ext w w'):SdI F P ad w' base c s gen qb kb root G l L D i v sv st∧Nxt (SdQ P qb kb sv) (SdQ P qb kb sv) F F ad w w' :=
 h.step (h.cu.ext m).2 (h.cu.ext m).1 h.pos
theorem SdI.put(h:SdI F P ad w base c s gen qb kb root G l L D i v sv st)(v':ByteArray) :
  SdI F P ad (w.setCell ⟨qb,1,none⟩ (.string v')) base c s gen qb kb root G l L D i v' sv st∧Nxt (SdQ P qb kb sv) (SdQ P qb kb sv) F F ad w (w.setCell ⟨qb,1,none⟩ (.string v')):=by
 have m:Mods (λk=>k=qb) w (w.setCell ⟨qb,1,none⟩ (.string v')):=Mods.setCell (F:=λk=>k=qb) (p:=⟨qb,1,none⟩) (Mods.refl _ w) (.inr rfl) _;have hc:=h.cu.far m (λk e=>⟨e ▸ h.qF,e ▸ h.qN⟩);refine⟨⟨hc,h.pos,h.blk.set 1 _,h.qF,h.qN⟩,Nxt.same h.cu.env h.sub (m.mono (λk e=>.inr e))⟩
theorem SdI.other(h:SdI F P ad w base c s gen qb kb root G l L D i v sv st)(n:Nxt Q Q' F F' ad w w')(hd:∀k,SdB qb kb sv k→¬ Q k)(hQ:∀k,Q k→F k)(g:PgR F' w' P' c s G l)(hP':∀k,P' k→Q' k) :
  SdI F' P' ad w' base c s gen qb kb root G l L D i v sv st∧∀k,SdB qb kb sv k→¬ Q' k:=by
 have hc:=h.cu.cu;have nq:∀k,SdB qb kb sv k→¬ Q' k:=λk hk=>n.not (h.ltB k hk) (hd k hk)
 have m:=n.stp.mods;refine⟨⟨⟨n.env,λk hk=>n.sub k (hP' k hk),g,⟨hc.blk.mods m (hd kb (.inl (.inl rfl))),hc.row.mods m (λk hk=>hd k (.inl (.inr hk))),λx hx=>(hc.fr x hx).step (m.mono hQ) (λk hk hn hf=>hn (n.oldF k hk hf)),λk hk=>⟨n.grow k (hc.nP k hk).1,λhp=>nq k (.inl hk) (hP' k hp)⟩,hc.ok⟩,Nat.le_trans h.cu.bl m.size⟩,h.pos,h.blk.mods m (hd qb (.inr rfl)),n.grow qb h.qF,?_⟩,nq⟩;rintro (hk|hk)
 ·exact nq qb (.inr rfl) (hP' qb hk)
 ·exact h.qN (.inr hk)
theorem SdI.row(h:SdI F P ad w base c s gen qb kb root G l L D i v sv st)(hE:Env F' ad w')(m:Mods Q w w')(hQ:∀k,Q k→F k∧¬ SdQ P qb kb sv k)(hF:∀k,F k→F' k)(hN:∀k,k<w.heap.size→¬ F k→¬ F' k) :
  SdI F' P ad w' base c s gen qb kb root G l L D i v sv st:=by
 have hc:=h.cu.cu;exact⟨⟨hE,λk hk=>hF k (h.cu.sub k hk),h.cu.pg.plus m (λk hk hq=>(hQ k hq).2 (.inl (.inl hk))) (λk hq=>(hQ k hq).1) hN,⟨hc.blk.mods m (λe=>(hQ kb e).2 (.inl (.inr (.inl rfl)))),hc.row.mods m (λg hg e=>(hQ g e).2 (.inl (.inr (.inr hg)))),λy hy=>(hc.fr y hy).step (m.mono (λk hk=>(hQ k hk).1)) hN,λk hk=>⟨hF k (hc.nP k hk).1,(hc.nP k hk).2⟩,hc.ok⟩,Nat.le_trans h.cu.bl m.size⟩,h.pos,h.blk.mods m (λe=>(hQ qb e).2 (.inr rfl)),hF qb h.qF,h.qN⟩
end
structure TwC where
 c:Nat
 s:Nat
 gen:Nat
 qx:Nat
 kx:Nat
 rx:Nat
 dx:Nat
 qy:Nat
 ky:Nat
 ry:Nat
 dy:Nat
 G:GA
 l:List Nat
 A:List PairS
 B:List PairS
def twQ(K:TwC)(P:Nat→Prop)(sx sy:Value):Nat→Prop:=λk=>SdQ P K.qx K.kx sx k∨SdB K.qy K.ky sy k
section
variable {α:Type}{F P P' F' P1 F1 P0 F0 Q Q':Nat→Prop}{ad:Nat→Addr}{w w' w0 w1:World}{K:TwC}{i j i' j' bx by_:Nat}{vx vy vx' vy':ByteArray}{sx sy sx' sy':Value}{stx sty stx' sty':List FrE}{e:TypeId}{sz:Nat}{enc:α→List Value}{v v':Value}{x x':List α}
structure TwI(F P:Nat→Prop)(ad:Nat→Addr)(w:World)(K:TwC)(bx by_:Nat)(i j:Nat)(vx vy:ByteArray)(sx sy:Value)(stx sty:List FrE):Prop where
 x:SdI F P ad w bx K.c K.s K.gen K.qx K.kx K.rx K.G K.l K.A K.dx i vx sx stx
 y:SdI F P ad w by_ K.c K.s K.gen K.qy K.ky K.ry K.G K.l K.B K.dy j vy sy sty
 dj:∀k,SdB K.qy K.ky sy k→¬ SdB K.qx K.kx sx k
theorem TwI.sub(h:TwI F P ad w K bx by_ i j vx vy sx sy stx sty):∀k,twQ K P sx sy k→F k:=λk hk=>hk.elim (h.x.sub k) (λe=>(h.y.subB k e).1)
theorem TwI.nx(h:TwI F P ad w K bx by_ i j vx vy sx sy stx sty):∀k,SdB K.qy K.ky sy k→¬ SdQ P K.qx K.kx sx k:=by
 rintro k hk ((hp|hc)|hq)
 ·exact (h.y.subB k hk).2 hp
 ·exact h.dj k hk (.inl hc)
 ·exact h.dj k hk (.inr hq)
theorem TwI.ny(h:TwI F P ad w K bx by_ i j vx vy sx sy stx sty):∀k,SdB K.qx K.kx sx k→¬ SdQ P K.qy K.ky sy k:=by
 rintro k hk ((hp|hc)|hq)
 ·exact (h.x.subB k hk).2 hp
 ·exact h.dj k (.inl hc) hk
 ·exact h.dj k (.inr hq) hk
theorem TwI.stepX(h:TwI F P ad w K bx by_ i j vx vy sx sy stx sty)(k:SdI F' P' ad w' bx K.c K.s K.gen K.qx K.kx K.rx K.G K.l K.A K.dx i' vx' sx' stx')(n:Nxt (SdQ P K.qx K.kx sx) (SdQ P' K.qx K.kx sx') F F' ad w w') :
  TwI F' P' ad w' K bx by_ i' j vx' vy sx' sy stx' sty∧Nxt (twQ K P sx sy) (twQ K P' sx' sy) F F' ad w w':=by
 obtain⟨h1,h2⟩:=h.y.other n h.nx h.x.sub k.cu.pg (λk hk=>.inl (.inl hk));refine⟨⟨k,h1,λq hq hx=>h2 q hq (hx.imp .inr id)⟩,n.part (λk hk=>(h.y.subB k hk).1) h.x.cu.env⟩
theorem TwI.stepY(h:TwI F P ad w K bx by_ i j vx vy sx sy stx sty)(k:SdI F' P' ad w' by_ K.c K.s K.gen K.qy K.ky K.ry K.G K.l K.B K.dy j' vy' sy' sty')(n:Nxt (SdQ P K.qy K.ky sy) (SdQ P' K.qy K.ky sy') F F' ad w w') :
  TwI F' P' ad w' K bx by_ i j' vx vy' sx sy' stx sty'∧Nxt (twQ K P sx sy) (twQ K P' sx sy') F F' ad w w':=by
 obtain⟨h1,h2⟩:=h.x.other n h.ny h.y.sub k.cu.pg (λk hk=>.inl (.inl hk));have hp:=n.part (Q:=SdB K.qx K.kx sx) (λk hk=>(h.x.subB k hk).1) h.x.cu.env;have pm:∀(P:Nat→Prop) (sy:Value) (k:Nat),(SdQ P K.qy K.ky sy k∨SdB K.qx K.kx sx k) ↔ twQ K P sx sy k:=by
  intro P sy k;constructor
  ·rintro (((h|h)|h)|(h|h))
   ·exact .inl (.inl (.inl h))
   ·exact .inr (.inl h)
   ·exact .inr (.inr h)
   ·exact .inl (.inl (.inr h))
   ·exact .inl (.inr h)
  ·rintro (((h|h)|h)|(h|h))
   ·exact .inl (.inl (.inl h))
   ·exact .inr (.inl h)
   ·exact .inr (.inr h)
   ·exact .inl (.inl (.inr h))
   ·exact .inl (.inr h)
 exact⟨⟨h1,k,λq hq hx=>h2 q hx (hq.imp .inr id)⟩,hp.perm (pm _ _) (pm _ _)⟩
theorem TwI.ext(h:TwI F P ad w K bx by_ i j vx vy sx sy stx sty)(m:Ext w w'):TwI F P ad w' K bx by_ i j vx vy sx sy stx sty∧Nxt (twQ K P sx sy) (twQ K P sx sy) F F ad w w' :=
 h.stepX (h.x.ext m).1 (h.x.ext m).2
theorem TwI.app(h:TwI F P ad w K bx by_ i j vx vy sx sy stx sty)(hr:LocR w0 F (twQ K P sx sy) w e sz enc v x)(n:Nxt P0 (twQ K P sx sy) F0 F ad w0 w)(ho:Own (λ_=>False) w' w0.heap.size e sz enc v' x')(m:Mods (λk=>v.ownBlock=some k) w w'){B:Nat}(hat:v'.ownBlock=v.ownBlock∨v'.ownBlock=some B)(hK:w.heap.size≤B) :
  TwI (plusV F v') P ad w' K bx by_ i j vx vy sx sy stx sty:=by
 have hnew:∀k,k<w.heap.size→¬ F k→¬ plusV F v' k:=λk hk hn hf=>by
  rcases hf with hf|hf
  ·exact hn hf
  ·rcases hat with e|e
   ·exact hn (hr.2 k (e ▸ hf)).1
   ·rw[e] at hf;injection hf with hf;omega
 have hE:=(LocR.app n hr ho m hat hK).1.env;refine⟨h.x.row hE m (λk hk=>⟨(hr.2 k hk).1,λhq=>(hr.2 k hk).2 (.inl hq)⟩) (λk hk=>.inl hk) hnew,h.y.row hE m (λk hk=>⟨(hr.2 k hk).1,λhq=>(hr.2 k hk).2 ?_⟩) (λk hk=>.inl hk) hnew,h.dj⟩;rcases hq with (hp|hc)|hq
 ·exact .inl (.inl (.inl hp))
 ·exact .inr (.inl hc)
 ·exact .inr (.inr hq)
def TwD(F P:Nat→Prop)(ad:Nat→Addr)(w:World)(K:TwC)(bx by_:Nat)(i j:Nat)(vx vy:ByteArray)(sx sy:Value)(w':World):Prop :=
 ∃F' P' sx' sy' stx' sty',TwI F' P' ad w' K bx by_ i j vx vy sx' sy' stx' sty'∧Nxt (twQ K P sx sy) (twQ K P' sx' sy') F F' ad w w'
end
section
variable {F P P' F' P1 F1 P0 F0 Q Q':Nat→Prop}{ad:Nat→Addr}{w w' w0 w1:World}{base c s gen kb qb root D i j:Nat}{G G':GA}{l l':List Nat}{L:List PairS}{sv sv':Value}{st st':List FrE}{v v':ByteArray}{x:PairS}
def SdD(F P:Nat→Prop)(ad:Nat→Addr)(w:World)(base c s gen qb kb root:Nat)(G:GA)(l:List Nat)(L:List PairS)(D i:Nat)(v:ByteArray)(sv:Value)(w':World):Prop :=
 ∃F' P' sv' st',SdI F' P' ad w' base c s gen qb kb root G l L D i v sv' st'∧Nxt (SdQ P qb kb sv) (SdQ P' qb kb sv') F F' ad w w'
theorem SdI.onB(h:SdI F P ad w base c s gen qb kb root G l L D i v sv st):(!st.isEmpty)=decide (i<L.length):=by
 rcases h.pos.le with ⟨h4,k,hk,n,a,r,pre,p,suf,lo,hi,e,_⟩|⟨h4,h5⟩
 ·have:=of_decide_eq_true h4;rw[decide_eq_true (by omega)];cases st with
  | nil=>simp at e
  | cons x r=>rfl
 ·have:=of_decide_eq_false h4;rw[decide_eq_false (by omega)];rw[List.map_eq_nil_iff] at h5;rw[h5];rfl
theorem onS(h:SdI F P ad w base c s gen qb kb root G l L D i v sv st) : Calls Tryz.prog 42 #[.pointer (some ⟨kb,0,none⟩)] w λe w'=>e=.returned (.bool (decide (i<L.length)))∧w=w':=by
 rw[← h.onB];exact on_any h.cu
theorem onSq(h:SdI F P ad w base c s gen qb kb root G l L D i v sv st)(q:Nat){b:Bool}(hb:decide (i<L.length)=b) : Calls Tryz.prog 42 #[.pointer (some ⟨kb,0,none⟩)] (w.drewN q) λe w'=>e=.returned (.bool b)∧∃k,w'=w.drewN k:=by
 rw[← hb,← h.onB];exact (on_any (h.cu.ext ((Mods.refl _ w).drewN q)).1).mono (λe w' ⟨h1,h2⟩=>⟨h1,q,h2.symm⟩)
theorem SdI.top(h:SdI F P ad w base c s gen qb kb root G l L D i v sv st)(hx:L[i]? = some x):∃(z:FrE) (r:List FrE) (a:Nat) (e:EntryA),st=z :: r∧z.at_=(a:Int)∧z.node.entries[a]? = some e∧e.key=x.1∧valueA G e=.inl x.2∧valueOk G e ∧ -9223372036854775808≤e.chain∧e.chain≤9223372036854775807:=by
 have hk:=(List.getElem?_eq_some_iff.1 hx).1;rcases h.pos with ⟨_,_,h4⟩|⟨h4,_⟩
 ·rw[Int.toNat_natCast] at h4;obtain⟨n,a,r,e,y,e1,e2,e3,e4,e5,e6,e7,e8⟩:=h4.pair;rw[hx] at e3;injection e3 with e3;subst e3;cases st with
  | nil=>simp at e1
  | cons z st =>
   rw[List.map_cons] at e1;injection e1 with e1 _;have ha:=congrArg Prod.snd e1;have hn:=congrArg Prod.fst e1;have hRG : -9223372036854775808≤e.chain∧e.chain≤9223372036854775807:=by
    have h3:=right_entry e8 e7 e2;unfold rightE at h3;simp only[Bool.and_eq_true] at h3;have h4:=h3.2;split at h4
    ·omega
    ·simp only[Bool.and_eq_true,decide_eq_true_eq,kidB] at h4;omega
   exact⟨z,st,a,e,rfl,ha,by rw[show z.node=n from hn];exact e2,e4,e5,e6,hRG⟩
 ·omega
theorem keyS(h:SdI F P ad w base c s gen qb kb root G l L D i v sv st)(hx:L[i]? = some x) : Calls Tryz.prog 75 #[.pointer (some ⟨kb,0,none⟩)] w λe w'=>e=.returned (.string x.1)∧∃q,w'=w.drewN q:=by
 obtain⟨z,r,a,e,rfl,h1,h2,h3, -⟩:=h.top hx;rw[← h3];exact key_on h.cu h1 h2
theorem keySq(h:SdI F P ad w base c s gen qb kb root G l L D i v sv st)(hx:L[i]? = some x)(q:Nat) : Calls Tryz.prog 75 #[.pointer (some ⟨kb,0,none⟩)] (w.drewN q) λe w'=>e=.returned (.string x.1)∧∃k,w'=w.drewN k :=
 (keyS (h.ext ((Mods.refl _ w).drewN q)).1 hx).mono (λe w' ⟨h1,k,h2⟩=>⟨h1,q+k,by rw[h2];unfold World.drewN;simp[Nat.add_assoc]⟩)
theorem valueS(h:SdI F P ad w base c s gen qb kb root G l L D i v sv st)(hx:L[i]? = some x) : Calls Tryz.prog 86 #[.pointer (some ⟨kb,0,none⟩)] w λe w'=>e=.returned (.tuple #[.string x.2,.nilIface])∧SdD F P ad w base c s gen qb kb root G l L D i v sv w':=by
 have hp:=h.pos;obtain⟨z,r,a,e,rfl,h1,h2,h3,h4,h5,h6⟩:=h.top hx;refine (value_on h.cu h1 h2 h4 h5 h6).mono ?_;rintro en w' ⟨rfl,P',F',k1,k2⟩;obtain⟨j1,j2⟩:=h.step k2 k1 hp;exact⟨rfl,F',P',sv,z :: r,j1,j2⟩
theorem SdD.pre(n:Nxt (SdQ P qb kb sv) (SdQ P1 qb kb sv') F F1 ad w w1)(h:SdD F1 P1 ad w1 base c s gen qb kb root G l L D i v sv' w'):SdD F P ad w base c s gen qb kb root G l L D i v sv w':=by
 obtain⟨F2,P2,s2,st2,h1,h2⟩:=h;exact⟨F2,P2,s2,st2,h1,n.trans h2⟩
theorem sread_any(h:SdI F P ad w base c s gen qb kb root G l L D i v sv st) :
  Calls Tryz.prog 74 #[.pointer (some ⟨qb,0,none⟩)] w λe w'=>e=.returned .nilIface∧SdD F P ad w base c s gen qb kb root G l L D i (valO L i v) sv w':=by
 have c0:=h.c0;have HON:=onS h;have HH:=oh h;by_cases hlt:i<L.length
 ·rw[decide_eq_true hlt] at HON;have HON:=oh HON;obtain⟨x,hx⟩:∃x,L[i]? = some x:=⟨_,List.getElem?_eq_getElem hlt⟩;have HV:=oh (valueS h hx);have HX:Hid (valO L i v=x.2):=oh (by unfold valO;rw[hx]);clear h hx hlt
  go_enter Tryz.func74, Tryz.ntmps74
  go_wp2_with fail;refine HON.out.mono ?_;rintro e w1 ⟨rfl,rfl⟩;go_wp2_with fail;refine HV.out.mono ?_;rintro e w2 ⟨rfl,F2,P2,s2,st2,hS,hN⟩;have c1:=hS.c1;have f1:=hS.blk.frozen 1;have HS:=oh hS;have HN:=oh hN;clear hS hN;go_wp2_with fail;go_ret;rw[HX.out];exact⟨rfl,F2,P2,s2,st2,(HS.out.put x.2).1,HN.out.trans (HS.out.put x.2).2⟩
 ·rw[decide_eq_false hlt] at HON;have HON:=oh HON;have HX:Hid (valO L i v=v):=oh (by unfold valO;rw[List.getElem?_eq_none (by omega)]);clear h hlt
  go_enter Tryz.func74, Tryz.ntmps74
  go_wp2_with fail;refine HON.out.mono ?_;rintro e w1 ⟨rfl,rfl⟩;go_wp2_with fail;go_ret;rw[HX.out];exact⟨rfl,F,P,sv,st,HH.out,Nxt.refl HH.out.cu.env HH.out.sub⟩
theorem snext_any(h:SdI F P ad w base c s gen qb kb root G l L D i v sv st)(hlt:i<L.length)(ht:G.total)(hD:D≤16) :
  Calls Tryz.prog 76 #[.pointer (some ⟨qb,0,none⟩)] w λe w'=>e=.returned .nilIface∧SdD F P ad w base c s gen qb kb root G l L D (i+1) (valO L (i+1) v) sv w':=by
 have c0:=h.c0;have HN:=oh (next_any h.cu (tight_of h.pos) ht);obtain⟨st',e1,e2⟩:=move_off hD h.pos 1 (.inl rfl);have e3:stepI L.length (i:Int) 1=((i+1:Nat):Int):=by
  unfold stepI;have hon:onI L.length (i:Int)=true:=decide_eq_true ⟨by omega,by omega⟩;rw[if_pos hon];omega
 rw[e3] at e2;have HE1:=oh e1;have HE2:=oh e2;have HH:=oh h;clear h e1 e2 e3 hlt
 go_enter Tryz.func76, Tryz.ntmps76
 go_wp2_with fail;refine HN.out.mono ?_;rintro e w1 ⟨P1,F1,sv1,st1,k1,k2,k3⟩;rw[HE1.out] at k3;obtain⟨rfl,k4⟩:=k3;have hp:=HE2.out;rw[← k4] at hp;obtain⟨j1,j2⟩:=HH.out.step k2 k1 hp;have HR:=oh (sread_any j1);have HJ:=oh j2;clear k1 k2 k4 hp j1 j2;go_wp2_with fail;refine HR.out.mono ?_;rintro e w2 ⟨rfl,hd⟩;have HD:=oh (SdD.pre HJ.out hd);clear hd;go_wp2_with fail;go_ret;exact⟨rfl,HD.out⟩
theorem SdI.start(h:CuI F P ad w base c s gen kb (root:Int) G l sv st)(hp:OnPos G L D (st.map FrE.pl) (i:Int))(v:ByteArray) :
  SdI (λk=>F k∨k=w.heap.size) P ad (w.alloc (.cells #[.pointer (some ⟨kb,0,none⟩),.string v] 91)) base c s gen w.heap.size kb root G l L D i v sv st∧Nxt (cuQ P kb sv) (SdQ P w.heap.size kb sv) F (λk=>F k∨k=w.heap.size) ad w (w.alloc (.cells #[.pointer (some ⟨kb,0,none⟩),.string v] 91)):=by
 have m:Ext w (w.alloc (.cells #[.pointer (some ⟨kb,0,none⟩),.string v] 91)):=(Mods.refl _ w).alloc _;have hnew:∀k,k<w.heap.size→¬ F k→¬ (F k∨k=w.heap.size):=λk hk hn hf=>hf.elim hn (by omega)
 have hlt:∀k,(F k∨k=w.heap.size)→k<(w.alloc (.cells #[.pointer (some ⟨kb,0,none⟩),.string v] 91)).heap.size:=by
  rintro k (hk|rfl)
  ·exact Nat.lt_of_lt_of_le (h.env.lt k hk) m.size
  ·simp
 have hE:Env (λk=>F k∨k=w.heap.size) ad (w.alloc (.cells #[.pointer (some ⟨kb,0,none⟩),.string v] 91)):=h.env.step m.ext hnew hlt;have hq:¬ cuQ P kb sv w.heap.size:=λhk=>by have:=h.bd _ hk;omega
 refine⟨⟨⟨hE,λk hk=>.inl (h.sub k hk),h.pg.plus m (λ_ _ f=>f) (λ_ f=>f.elim) hnew,⟨h.cu.blk.ext m,h.cu.row.ext m,λx hx=>(h.cu.fr x hx).step m.ext hnew,λk hk=>⟨.inl (h.cu.nP k hk).1,(h.cu.nP k hk).2⟩,h.cu.ok⟩,Nat.le_trans h.bl m.size⟩,hp,Blk.new w _ _,.inr rfl,hq⟩,⟨⟨m.ext,?_,?_⟩,?_,λk hk=>.inl hk,λk hk hf=>hf.elim id (by omega),hE⟩⟩
 ·rintro k hk (hp|rfl)
  ·exact hp
  ·omega
 ·rintro k (hp|rfl)
  ·exact Nat.lt_of_lt_of_le (h.bd k hp) m.size
  ·simp
 ·rintro k (hp|rfl)
  ·exact .inl (h.subQ k hp)
  ·exact .inr rfl
def SOpD(F P:Nat→Prop)(ad:Nat→Addr)(w:World)(c s gen root:Nat)(G:GA)(l:List Nat)(L:List PairS)(D:Nat)(e:Ending)(w':World):Prop :=
 ∃qb kb base F' P' sv st,e=.returned (.tuple #[.pointer (some ⟨qb,0,none⟩),.nilIface])∧SdI F' P' ad w' base c s gen qb kb root G l L D 0 (valO L 0 emS) sv st∧Nxt P (SdQ P' qb kb sv) F F' ad w w'∧w.heap.size≤qb
theorem sopen_any(hL:Env F ad w)(hP:∀k,P k→F k)(h:PgR F w P c s G l)(ht:G.total)(hT:TreeE G root D L)(gen:Nat) :
  Calls Tryz.prog 41 #[pgV c s gen,.int .i64 (root:Int)] w (SOpD F P ad w c s gen root G l L D):=by
 have m0:Ext w (w.alloc (.cells #[.pointer (some ⟨c,0,none⟩),.pointer (some ⟨s,0,none⟩),.int .u64 (gen:Int)] 31)):=(Mods.refl _ w).alloc _;have HN0:=oh (Nxt.ext hL hP m0);have HNW:=oh (new_cur HN0.out.env hP (h.at m0) gen (root:Int));obtain⟨st',e1,e2⟩:=edge_pos false hT;have HE1:=oh e1;have HE2:Hid (OnPos G L D st' ((0:Nat):Int)):=oh e2;have HG:=oh ht;have HM0:=oh m0;clear hL hP h m0 e1 e2 ht hT;unfold pgV at HNW ⊢
 go_enter Tryz.func41, Tryz.ntmps41
 go_wp2_with fail;refine HNW.out.mono ?_;rintro e w1 ⟨kb,base,F1,rfl,h1,n1⟩;obtain⟨s1,t1⟩:=SdI.start (L:=L) (D:=D) (i:=L.length) h1 (.inr ⟨.inr (by omega),rfl⟩) emS;have HS1:=oh s1;have HT1:=oh ((HN0.out.trans n1).trans t1);have HSZ:Hid (w.heap.size≤w1.heap.size):=oh (HN0.out.trans n1).size;have HFI:=oh (first_any s1.cu HG.out);have c0:=s1.c0;clear h1 n1 s1 t1;unfold emS at c0 HS1 HT1 HFI;go_wp2_with fail;refine HFI.out.mono ?_;rintro e w2 ⟨P2,F2,sv2,st2,k1,k2,k3⟩;rw[HE1.out] at k3;obtain⟨rfl,k4⟩:=k3;have hp:=HE2.out;rw[← k4] at hp;obtain⟨j1,j2⟩:=HS1.out.step k2 k1 hp;have HR:=oh (sread_any j1);have HJ:=oh (HT1.out.trans j2);clear k1 k2 k4 hp j1 j2 c0;go_wp2_with fail;refine HR.out.mono ?_;rintro e w3 ⟨rfl,F3,P3,sv3,st3,h3,n3⟩;have HH3:=oh h3;have HN3:=oh (HJ.out.trans n3);clear h3 n3;go_wp2_with fail;refine bodyPost_ret (v:=.tuple #[.pointer (some ⟨w1.heap.size,0,none⟩),.nilIface]) (by simp[results,Tryz.results41,go_sem]) rfl ?_;exact⟨_,_,_,_,_,_,_,rfl,HH3.out,HN3.out,HSZ.out⟩
end
theorem results_row_tmp_tmp{P:Program}{fn:Func}{p u v:Tmp}{ty:TypeId}(h:fn.results=#[.cell p ty,.tmp u,.tmp v])(tmps:Array Value)(w:World)(g:Nat)(t:TypeId)(cs:Array Value)(d:TypeDesc)
  (hp:tmps.getD p undef=.pointer (some ⟨g,0,none⟩)) (hg:Blk w g cs t)
  (hu:P.underlying ty=some d) (hd:(match d with | .struct _ | .array _ _=>true|_=>false)=true) (hi:(P.info? ty).map (·.size)=some cs.size) :
  (results fn tmps).run P w=.ok (.tuple #[.agg cs,tmps.getD u undef,tmps.getD v undef]) w:=by
 have hg':w.heap[g]? = some (.cells cs t (0,0)):=hg;have e1:=run_loadVar_row w g t ty cs (0,0) d hg' hu hd hi;have e:(results fn tmps).run P w=((asAddr (tmps.getD p undef)).run P w).andThen λa w₁=>((loadVar ty a).run P w₁).andThen λx w₂=>.ok (.tuple #[x,tmps.getD u undef,tmps.getD v undef]) w₂:=by
  simp only[results,h];simp[Sem.run_bind,Result.andThen]
 rw[e,hp];simp[asAddr,e1]
section
variable {F P P' F' P1 F1 P0 F0 Q Q':Nat→Prop}{ad:Nat→Addr}{w w' w0 w1:World}{K:TwC}{i j i' j' bx by_:Nat}{vx vy vx' vy':ByteArray}{sx sy sx' sy':Value}{stx sty stx' sty':List FrE}
theorem Tryz.chSz:(Tryz.prog.info? 67).map (·.size)=some 5:=by kernel_rfl
theorem TwI.env(h:TwI F P ad w K bx by_ i j vx vy sx sy stx sty):Env F ad w:=h.x.cu.env
theorem TwI.new(h:TwI F P ad w K bx by_ i j vx vy sx sy stx sty)(o:Obj):TwI (plusR F w.heap.size) P ad (w.alloc o) K bx by_ i j vx vy sx sy stx sty∧Nxt (twQ K P sx sy) (twQ K P sx sy) F (plusR F w.heap.size) ad w (w.alloc o):=by
 have n:=Nxt.res h.env h.sub o;have m:Mods (λ_=>False) w (w.alloc o):=(Mods.refl _ w).alloc o;have hN:∀k,k<w.heap.size→¬ F k→¬ plusR F w.heap.size k:=λk hk hn hf=>hn (n.oldF k hk hf)
 exact⟨⟨h.x.row n.env m (λ_ f=>f.elim) (λ_ h=>.inl h) hN,h.y.row n.env m (λ_ f=>f.elim) (λ_ h=>.inl h) hN,h.dj⟩,n⟩
theorem TwI.res(h:TwI F P ad w K bx by_ i j vx vy sx sy stx sty){R:Nat}(m:Mods (λk=>k=R) w w')(hR:¬ twQ K P sx sy R)(hF:F R):TwI F P ad w' K bx by_ i j vx vy sx sy stx sty:=by
 have hE:Env F ad w':=h.env.mods (m.mono (λk hk=>hk ▸ hF));refine⟨h.x.row hE m (λk hk=>hk ▸ ⟨hF,λhq=>hR (.inl hq)⟩) (λ_ h=>h) (λ_ _ h=>h),h.y.row hE m (λk hk=>hk ▸ ⟨hF,λhq=>hR ?_⟩) (λ_ h=>h) (λ_ _ h=>h),h.dj⟩;rcases hq with (hp|hc)|hq
 ·exact .inl (.inl (.inl hp))
 ·exact .inr (.inl hc)
 ·exact .inr (.inr hq)
theorem TwD.res{F1 P1:Nat→Prop}(n0:Nxt (twQ K P sx sy) (twQ K P1 sx' sy') F F1 ad w w1)(h:TwI F1 P1 ad w1 K bx by_ i j vx vy sx' sy' stx sty){R:Nat}(m:Mods (λk=>k=R) w1 w')(hw:w.heap.size≤R)(hR:¬ twQ K P1 sx' sy' R)(hF:F1 R):TwD F P ad w K bx by_ i j vx vy sx sy w' :=
 ⟨F1,P1,_,_,_,_,h.res m hR hF,n0.resD m hw hF⟩
theorem nextX(h:TwI F P ad w K bx by_ i j vx vy sx sy stx sty)(ht:K.G.total)(hD:K.dx≤16)(hlt:i<K.A.length) :
  Calls Tryz.prog 76 #[.pointer (some ⟨K.qx,0,none⟩)] w λe w'=>e=.returned .nilIface∧TwD F P ad w K bx by_ (i+1) j (valO K.A (i+1) vx) vy sx sy w':=by
 refine (snext_any h.x hlt ht hD).mono ?_;rintro e w' ⟨rfl,F2,P2,s2,st2,k,n⟩;obtain⟨h1,h2⟩:=h.stepX k n;exact⟨rfl,F2,P2,s2,sy,st2,sty,h1,h2⟩
theorem nextY(h:TwI F P ad w K bx by_ i j vx vy sx sy stx sty)(ht:K.G.total)(hD:K.dy≤16)(hlt:j<K.B.length) :
  Calls Tryz.prog 76 #[.pointer (some ⟨K.qy,0,none⟩)] w λe w'=>e=.returned .nilIface∧TwD F P ad w K bx by_ i (j+1) vx (valO K.B (j+1) vy) sx sy w':=by
 refine (snext_any h.y hlt ht hD).mono ?_;rintro e w' ⟨rfl,F2,P2,s2,st2,k,n⟩;obtain⟨h1,h2⟩:=h.stepY k n;exact⟨rfl,F2,P2,sx,s2,stx,st2,h1,h2⟩
def StpR(F P:Nat→Prop)(ad:Nat→Addr)(w:World)(K:TwC)(bx by_:Nat)(i j:Nat)(vx vy:ByteArray)(sx sy:Value)(c:ChV)(b:Bool)(e:Ending)(w':World):Prop :=
 e=.returned (.tuple #[.agg #[.string c.key,.bool c.was,.bool c.is,.string c.old,.string c.new],.bool b,.nilIface])∧TwD F P ad w K bx by_ i j vx vy sx sy w'
theorem step_del(h:TwI F P ad w K bx by_ i j vx vy sx sy stx sty)(ht:K.G.total)(hD:K.dx≤16){x:PairS}(hx:K.A[i]? = some x)(hvx:vx=x.2)(hy:K.B[j]? = none∨∃y,K.B[j]? = some y∧ltS x.1 y.1=true) :
  Calls Tryz.prog 43 #[.pointer (some ⟨K.qx,0,none⟩),.pointer (some ⟨K.qy,0,none⟩)] w (StpR F P ad w K bx by_ (i+1) j (valO K.A (i+1) vx) vy sx sy (delC x) true):=by
 obtain⟨w1,hw1⟩:∃w1,w1=w.alloc (.cells #[.string ⟨#[]⟩,.bool false,.bool false,.string ⟨#[]⟩,.string ⟨#[]⟩] 67):=⟨_,rfl⟩;have hR:Blk w1 w.heap.size #[.string ⟨#[]⟩,.bool false,.bool false,.string ⟨#[]⟩,.string ⟨#[]⟩] 67:=by rw[hw1];exact Blk.new w _ _
 obtain⟨h1,n1⟩:TwI (plusR F w.heap.size) P ad w1 K bx by_ i j vx vy sx sy stx sty∧Nxt (twQ K P sx sy) (twQ K P sx sy) F (plusR F w.heap.size) ad w w1:=by rw[hw1];exact h.new _
 have HQ:=oh h1;have HN:=oh n1;have HW1:=oh hw1;have HR:=oh hR;have HG:=oh ht;have HD:=oh hD;have HNQ:Hid (¬ twQ K P sx sy w.heap.size):=oh (λf=>by have:=h.env.lt _ (h.sub _ f);omega);have hsz:w.heap.size<w1.heap.size:=hR.lt;have x0:=h1.x.c0;have y0:=h1.y.c0;have hlt:=(List.getElem?_eq_some_iff.1 hx).1;have HX:=oh hx;have HLT:=oh hlt;have HVX:=oh hvx;have HBX:=oh (decide_eq_true hlt);rcases hy with hy|⟨y,hy,hl⟩
 have HBY:=oh (decide_eq_false (Nat.not_lt.2 (List.getElem?_eq_none_iff.1 hy)));clear h h1 n1 hw1 hR hx ht hD hlt hvx hy;rotate_left;have HBY:=oh (decide_eq_true (List.getElem?_eq_some_iff.1 hy).1);have HY:=oh hy;have e1:Op.bytesLess x.1.toList y.1.toList=true:=hl;have e2:Op.bytesLess y.1.toList x.1.toList=false:=ltS_asymm hl;clear h h1 n1 hw1 hR hx ht hD hlt hvx hy hl;rotate_left;all_goals
  go_enter Tryz.func43, Tryz.ntmps43
  go_wp2_with fail;rw[← HW1.out];go_quiet (first|(go_at_call 42;first|with_reducible exact onSq HQ.out.y _ HBY.out|with_reducible exact onSq HQ.out.x _ HBX.out)|(go_at_call 75;first|with_reducible exact keySq HQ.out.x HX.out _|with_reducible exact keySq HQ.out.y HY.out _))
  obtain⟨w2,hw2⟩:∃w2,w2=w1.drewN nq:=⟨_,rfl⟩;rw[← hw2];have HMw2:Hid (Ext w1 w2):=oh (by rw[hw2];exact (Mods.refl _ w1).drewN nq);have HQw2:=oh (HQ.out.ext HMw2.out).1;have HNw2:=oh (HQ.out.ext HMw2.out).2;clear hw2 x0 y0;have x0:=HQw2.out.x.c0;have y0:=HQw2.out.y.c0;go_wp2_with fail;have HM2:=HMw2;have HN2:=oh (HN.out.trans HNw2.out);have HX2:=oh (λW (m:Ext w2 W)=>And.intro (HQw2.out.ext m).1.x.c0 (HQw2.out.ext m).1.x.c1);have HK2:=oh (λW (m:Ext w2 W)=>keyS (HQw2.out.ext m).1.x HX.out);have q1:K.qx≠w2.heap.size:=λe=>by have:=HQw2.out.x.blk.lt;omega
  have q2:w2.heap.size≠K.qx:=λe=>q1 e.symm
  have q3:K.qy≠w2.heap.size:=λe=>by have:=HQw2.out.y.blk.lt;omega
  have q4:w2.heap.size≠K.qy:=λe=>q3 e.symm
  have zd:=HX2.out _ (Mods.refl _ w2).drew;have za:=HX2.out _ ((Mods.refl _ w2).alloc (.cells #[.string ⟨#[]⟩,.bool false,.bool false,.string ⟨#[]⟩,.string ⟨#[]⟩] 67)).drew;go_region_held3 (λw'=>w'.cell? ⟨K.qx,0,none⟩=some (.pointer (some ⟨K.kx,0,none⟩))∧w'.cell? ⟨K.qx,1,none⟩=some (.string vx))
   (first|(with_reducible exact zd)|(with_reducible exact z5)|(with_reducible exact z7)|(with_reducible exact z6)|(with_reducible exact za)|fail)
   (first
    | (go_at_call 75;(with_reducible refine (HK2.out _ ((Mods.refl _ w2).drew)).mono ?_);rintro e w5 ⟨rfl,q5,rfl⟩;have z5:=HX2.out _ ((Mods.refl _ w2).drewN (1+q5));have hB:Blk ((w2.drewN (1+q5)).alloc (.cells #[.string ⟨#[]⟩,.bool false,.bool false,.string ⟨#[]⟩,.string ⟨#[]⟩] 67)) w2.heap.size #[.string ⟨#[]⟩,.bool false,.bool false,.string ⟨#[]⟩,.string ⟨#[]⟩] 67:=Blk.new (w2.drewN (1+q5)) _ _;have b0:=hB.cell (o:=0) (v:=.string ⟨#[]⟩) rfl;have b1:=hB.cell (o:=1) (v:=.bool false) rfl;have b2:=hB.cell (o:=2) (v:=.bool false) rfl;have b3:=hB.cell (o:=3) (v:=.string ⟨#[]⟩) rfl;have b4:=hB.cell (o:=4) (v:=.string ⟨#[]⟩) rfl;have bf:=hB.frozen;have z7:=HX2.out _ (((Mods.refl _ w2).drewN (1+q5)).alloc (.cells #[.string ⟨#[]⟩,.bool false,.bool false,.string ⟨#[]⟩,.string ⟨#[]⟩] 67));have z6:=HX2.out _ (Mods.set5 (((Mods.refl _ w2).drewN (1+q5)).alloc (.cells #[.string ⟨#[]⟩,.bool false,.bool false,.string ⟨#[]⟩,.string ⟨#[]⟩] 67)) (R:=w2.heap.size) (.inl (Nat.le_refl _)) (.string x.1) (.bool true) (.bool false) (.string vx) (.string ⟨#[]⟩));have HP3:∃w3,w3=(((((((w2.drewN (1+q5)).alloc (.cells #[.string ⟨#[]⟩,.bool false,.bool false,.string ⟨#[]⟩,.string ⟨#[]⟩] 67)).setCell ⟨w2.heap.size,0,none⟩ (.string x.1)).setCell ⟨w2.heap.size,1,none⟩ (.bool true)).setCell ⟨w2.heap.size,2,none⟩ (.bool false)).setCell ⟨w2.heap.size,3,none⟩ (.string vx)).setCell ⟨w2.heap.size,4,none⟩ (.string ⟨#[]⟩))∧Blk w3 w2.heap.size #[.string x.1,.bool true,.bool false,.string vx,.string ⟨#[]⟩] 67 ∧ Ext w2 w3:=⟨_,rfl,Blk.set5 hB (.string x.1) (.bool true) (.bool false) (.string vx) (.string ⟨#[]⟩),Mods.set5 (((Mods.refl _ w2).drewN (1+q5)).alloc (.cells #[.string ⟨#[]⟩,.bool false,.bool false,.string ⟨#[]⟩,.string ⟨#[]⟩] 67)) (R:=w2.heap.size) (.inl (Nat.le_refl _)) (.string x.1) (.bool true) (.bool false) (.string vx) (.string ⟨#[]⟩)⟩)
    | (go_at_call 75;(with_reducible refine (HK2.out _ (((Mods.refl _ w2).alloc (.cells #[.string ⟨#[]⟩,.bool false,.bool false,.string ⟨#[]⟩,.string ⟨#[]⟩] 67)).drew)).mono ?_);rintro e w5 ⟨rfl,q5,rfl⟩;have z5:=HX2.out _ (((Mods.refl _ w2).alloc (.cells #[.string ⟨#[]⟩,.bool false,.bool false,.string ⟨#[]⟩,.string ⟨#[]⟩] 67)).drewN (1+q5));have hB:Blk ((w2.alloc (.cells #[.string ⟨#[]⟩,.bool false,.bool false,.string ⟨#[]⟩,.string ⟨#[]⟩] 67)).drewN (1+q5)) w2.heap.size #[.string ⟨#[]⟩,.bool false,.bool false,.string ⟨#[]⟩,.string ⟨#[]⟩] 67:=Blk.new w2 _ _;have b0:=hB.cell (o:=0) (v:=.string ⟨#[]⟩) rfl;have b1:=hB.cell (o:=1) (v:=.bool false) rfl;have b2:=hB.cell (o:=2) (v:=.bool false) rfl;have b3:=hB.cell (o:=3) (v:=.string ⟨#[]⟩) rfl;have b4:=hB.cell (o:=4) (v:=.string ⟨#[]⟩) rfl;have bf:=hB.frozen;have z7:=HX2.out _ (((Mods.refl _ w2).alloc (.cells #[.string ⟨#[]⟩,.bool false,.bool false,.string ⟨#[]⟩,.string ⟨#[]⟩] 67)).drewN (1+q5));have z6:=HX2.out _ (Mods.set5 (((Mods.refl _ w2).alloc (.cells #[.string ⟨#[]⟩,.bool false,.bool false,.string ⟨#[]⟩,.string ⟨#[]⟩] 67)).drewN (1+q5)) (R:=w2.heap.size) (.inl (Nat.le_refl _)) (.string x.1) (.bool true) (.bool false) (.string vx) (.string ⟨#[]⟩));have HP3:∃w3,w3=(((((((w2.alloc (.cells #[.string ⟨#[]⟩,.bool false,.bool false,.string ⟨#[]⟩,.string ⟨#[]⟩] 67)).drewN (1+q5)).setCell ⟨w2.heap.size,0,none⟩ (.string x.1)).setCell ⟨w2.heap.size,1,none⟩ (.bool true)).setCell ⟨w2.heap.size,2,none⟩ (.bool false)).setCell ⟨w2.heap.size,3,none⟩ (.string vx)).setCell ⟨w2.heap.size,4,none⟩ (.string ⟨#[]⟩))∧Blk w3 w2.heap.size #[.string x.1,.bool true,.bool false,.string vx,.string ⟨#[]⟩] 67 ∧ Ext w2 w3:=⟨_,rfl,Blk.set5 hB (.string x.1) (.bool true) (.bool false) (.string vx) (.string ⟨#[]⟩),Mods.set5 (((Mods.refl _ w2).alloc (.cells #[.string ⟨#[]⟩,.bool false,.bool false,.string ⟨#[]⟩,.string ⟨#[]⟩] 67)).drewN (1+q5)) (R:=w2.heap.size) (.inl (Nat.le_refl _)) (.string x.1) (.bool true) (.bool false) (.string vx) (.string ⟨#[]⟩)⟩)
    | fail)
  all_goals
   obtain⟨w3,hw3,hC,hM3⟩:=HP3;rw[← hw3];have HC:=oh hC;obtain⟨h3,n3⟩:=HQw2.out.ext hM3;have HN3:=oh (HN2.out.trans n3);have HR3:=oh (HR.out.ext (HM2.out.trans hM3));have hs3:w2.heap.size<w3.heap.size:=hC.lt;have HCQ:Hid (¬ twQ K P sx sy w2.heap.size):=oh (λf=>by have:=HQw2.out.env.lt _ (HQw2.out.sub _ f);omega);have hne3:w.heap.size≠w2.heap.size:=λe=>by have:=HM2.out.size;omega
   have hne4:w2.heap.size≠w.heap.size:=λe=>hne3 e.symm
   have HCC:=λ(W:World) (hb:Blk W w2.heap.size #[.string x.1,.bool true,.bool false,.string vx,.string ⟨#[]⟩] 67)=>And.intro (hb.cell (o:=0) (v:=.string x.1) rfl) (And.intro (hb.cell (o:=1) (v:=.bool true) rfl) (And.intro (hb.cell (o:=2) (v:=.bool false) rfl) (And.intro (hb.cell (o:=3) (v:=.string vx) rfl) (hb.cell (o:=4) (v:=.string ⟨#[]⟩) rfl))))
   have HNX:=oh (λW (m:Ext w3 W)=>nextX (h3.ext m).1 HG.out HD.out HLT.out);have HXT:=oh (λW (m:Ext w3 W)=>(h3.ext m).2);have zc:=HCC _ (hC.ext (Mods.refl _ w3).drew);have HCC:=oh HCC;clear hw3 hC hM3 h3 n3 z5 z6 z7 hB b0 b1 b2 b3 b4 bf zd za x0 y0;go_wp2_with fail;go_region_held3 (λw'=>w'.cell? ⟨w2.heap.size,0,none⟩=some (.string x.1)∧w'.cell? ⟨w2.heap.size,1,none⟩=some (.bool true)∧w'.cell? ⟨w2.heap.size,2,none⟩=some (.bool false)∧w'.cell? ⟨w2.heap.size,3,none⟩=some (.string vx)∧w'.cell? ⟨w2.heap.size,4,none⟩=some (.string ⟨#[]⟩))
    (first|(with_reducible exact zc)|(with_reducible exact zc5)|(with_reducible exact zc6)|fail)
    (first
     | (go_at_call 76;(with_reducible refine (HNX.out _ (Mods.refl _ w3).drew).mono ?_);rintro e w5 ⟨rfl,F5,P5,s5,t5,u5,v5,k5,n5⟩;have HK5:=oh k5;have HN5:=oh ((HN3.out.trans (HXT.out _ (Mods.refl _ w3).drew)).trans n5);have hR5:=n5.blk (HR3.out.drew) HNQ.out;have HNQ5:=oh (n5.not (HR3.out.lt) HNQ.out);have HF5:=oh (n5.grow _ (.inr rfl:plusR F w.heap.size w.heap.size));have hC5:=n5.blk (HC.out.drew) HCQ.out;have zc5:=HCC.out _ hC5;have zc6:=HCC.out _ (hC5.mods (Mods.set5 (F:=λk=>k=w.heap.size) (Mods.refl _ w5) (R:=w.heap.size) (.inr rfl) (.string x.1) (.bool true) (.bool false) (.string vx) (.string ⟨#[]⟩)) hne4);have r0:=hR5.cell (o:=0) (v:=.string ⟨#[]⟩) rfl;have r1:=hR5.cell (o:=1) (v:=.bool false) rfl;have r2:=hR5.cell (o:=2) (v:=.bool false) rfl;have r3:=hR5.cell (o:=3) (v:=.string ⟨#[]⟩) rfl;have r4:=hR5.cell (o:=4) (v:=.string ⟨#[]⟩) rfl;have rf:=hR5.frozen;have HR5:=oh hR5;clear k5 n5 hR5 hC5)
     | fail)
   have HRB:=oh (Blk.set5 HR5.out (.string x.1) (.bool true) (.bool false) (.string vx) (.string ⟨#[]⟩));have HMR:=oh (Mods.set5 (F:=λk=>k=w.heap.size) (Mods.refl _ w5) (R:=w.heap.size) (.inr rfl) (.string x.1) (.bool true) (.bool false) (.string vx) (.string ⟨#[]⟩));clear zc zc5 zc6 r0 r1 r2 r3 r4 rf;go_wp2_with fail;refine bodyPost_ret (results_row_tmp_tmp rfl _ _ w.heap.size 67 #[.string x.1,.bool true,.bool false,.string vx,.string ⟨#[]⟩] _ rfl HRB.out Tryz.underlying67 rfl Tryz.chSz) rfl ?_;refine⟨by rw[HVX.out];rfl,TwD.res HN5.out HK5.out HMR.out (Nat.le_refl _) HNQ5.out HF5.out⟩
end
section
variable {F P P' F' P1 F1 P0 F0 Q Q':Nat→Prop}{ad:Nat→Addr}{w w' w0 w1:World}{K:TwC}{i j i' j' bx by_:Nat}{vx vy vx' vy':ByteArray}{sx sy sx' sy':Value}{stx sty stx' sty':List FrE}
theorem step_ins(h:TwI F P ad w K bx by_ i j vx vy sx sy stx sty)(ht:K.G.total)(hD:K.dy≤16){y:PairS}(hy:K.B[j]? = some y)(hvy:vy=y.2)(hx:K.A[i]? = none∨∃x,K.A[i]? = some x∧ltS y.1 x.1=true) :
  Calls Tryz.prog 43 #[.pointer (some ⟨K.qx,0,none⟩),.pointer (some ⟨K.qy,0,none⟩)] w (StpR F P ad w K bx by_ i (j+1) vx (valO K.B (j+1) vy) sx sy (insC y) true):=by
 obtain⟨w1,hw1⟩:∃w1,w1=w.alloc (.cells #[.string ⟨#[]⟩,.bool false,.bool false,.string ⟨#[]⟩,.string ⟨#[]⟩] 67):=⟨_,rfl⟩;have hR:Blk w1 w.heap.size #[.string ⟨#[]⟩,.bool false,.bool false,.string ⟨#[]⟩,.string ⟨#[]⟩] 67:=by rw[hw1];exact Blk.new w _ _
 obtain⟨h1,n1⟩:TwI (plusR F w.heap.size) P ad w1 K bx by_ i j vx vy sx sy stx sty∧Nxt (twQ K P sx sy) (twQ K P sx sy) F (plusR F w.heap.size) ad w w1:=by rw[hw1];exact h.new _
 have HQ:=oh h1;have HN:=oh n1;have HW1:=oh hw1;have HR:=oh hR;have HG:=oh ht;have HD:=oh hD;have HNQ:Hid (¬ twQ K P sx sy w.heap.size):=oh (λf=>by have:=h.env.lt _ (h.sub _ f);omega);have hsz:w.heap.size<w1.heap.size:=hR.lt;have x0:=h1.x.c0;have y0:=h1.y.c0;have hlt:=(List.getElem?_eq_some_iff.1 hy).1;have HY:=oh hy;have HLT:=oh hlt;have HVY:=oh hvy;have HBY:=oh (decide_eq_true hlt);rcases hx with hx|⟨x,hx,hl⟩
 have HBX:=oh (decide_eq_false (Nat.not_lt.2 (List.getElem?_eq_none_iff.1 hx)));clear h h1 n1 hw1 hR hy ht hD hlt hvy hx;rotate_left;have HBX:=oh (decide_eq_true (List.getElem?_eq_some_iff.1 hx).1);have HX:=oh hx;have e1:Op.bytesLess y.1.toList x.1.toList=true:=hl;have e2:Op.bytesLess x.1.toList y.1.toList=false:=ltS_asymm hl;clear h h1 n1 hw1 hR hy ht hD hlt hvy hx hl;rotate_left;all_goals
  go_enter Tryz.func43, Tryz.ntmps43
  go_wp2_with fail;rw[← HW1.out];go_quiet (first|(go_at_call 42;first|with_reducible exact onSq HQ.out.y _ HBY.out|with_reducible exact onSq HQ.out.x _ HBX.out)|(go_at_call 75;first|with_reducible exact keySq HQ.out.x HX.out _|with_reducible exact keySq HQ.out.y HY.out _))
  obtain⟨wa,hwa⟩:∃wa,wa=w1.drewN nq:=⟨_,rfl⟩;rw[← hwa];have HMwa:Hid (Ext w1 wa):=oh (by rw[hwa];exact (Mods.refl _ w1).drewN nq);have HQwa:=oh (HQ.out.ext HMwa.out).1;have HNwa:=oh (HQ.out.ext HMwa.out).2;clear hwa x0 y0;have x0:=HQwa.out.x.c0;have y0:=HQwa.out.y.c0;go_wp2_with fail;go_quiet (first|(go_at_call 42;first|with_reducible exact onSq HQwa.out.y _ HBY.out|with_reducible exact onSq HQwa.out.x _ HBX.out)|(go_at_call 75;first|with_reducible exact keySq HQwa.out.x HX.out _|with_reducible exact keySq HQwa.out.y HY.out _))
  obtain⟨w2,hw2⟩:∃w2,w2=wa.drewN nq:=⟨_,rfl⟩;rw[← hw2];have HMw2:Hid (Ext wa w2):=oh (by rw[hw2];exact (Mods.refl _ wa).drewN nq);have HQw2:=oh (HQwa.out.ext HMw2.out).1;have HNw2:=oh (HQwa.out.ext HMw2.out).2;clear hw2 x0 y0;have x0:=HQw2.out.x.c0;have y0:=HQw2.out.y.c0;go_wp2_with fail;have HM2:=oh (HMwa.out.trans HMw2.out);have HN2:=oh ((HN.out.trans HNwa.out).trans HNw2.out);have HX2:=oh (λW (m:Ext w2 W)=>And.intro (HQw2.out.ext m).1.y.c0 (HQw2.out.ext m).1.y.c1);have HK2:=oh (λW (m:Ext w2 W)=>keyS (HQw2.out.ext m).1.y HY.out);have q1:K.qx≠w2.heap.size:=λe=>by have:=HQw2.out.x.blk.lt;omega
  have q2:w2.heap.size≠K.qx:=λe=>q1 e.symm
  have q3:K.qy≠w2.heap.size:=λe=>by have:=HQw2.out.y.blk.lt;omega
  have q4:w2.heap.size≠K.qy:=λe=>q3 e.symm
  have zd:=HX2.out _ (Mods.refl _ w2).drew;have za:=HX2.out _ ((Mods.refl _ w2).alloc (.cells #[.string ⟨#[]⟩,.bool false,.bool false,.string ⟨#[]⟩,.string ⟨#[]⟩] 67)).drew;go_region_held3 (λw'=>w'.cell? ⟨K.qy,0,none⟩=some (.pointer (some ⟨K.ky,0,none⟩))∧w'.cell? ⟨K.qy,1,none⟩=some (.string vy))
   (first|(with_reducible exact zd)|(with_reducible exact z5)|(with_reducible exact z7)|(with_reducible exact z6)|(with_reducible exact za)|fail)
   (first
    | (go_at_call 75;(with_reducible refine (HK2.out _ ((Mods.refl _ w2).drew)).mono ?_);rintro e w5 ⟨rfl,q5,rfl⟩;have z5:=HX2.out _ ((Mods.refl _ w2).drewN (1+q5));have hB:Blk ((w2.drewN (1+q5)).alloc (.cells #[.string ⟨#[]⟩,.bool false,.bool false,.string ⟨#[]⟩,.string ⟨#[]⟩] 67)) w2.heap.size #[.string ⟨#[]⟩,.bool false,.bool false,.string ⟨#[]⟩,.string ⟨#[]⟩] 67:=Blk.new (w2.drewN (1+q5)) _ _;have b0:=hB.cell (o:=0) (v:=.string ⟨#[]⟩) rfl;have b1:=hB.cell (o:=1) (v:=.bool false) rfl;have b2:=hB.cell (o:=2) (v:=.bool false) rfl;have b3:=hB.cell (o:=3) (v:=.string ⟨#[]⟩) rfl;have b4:=hB.cell (o:=4) (v:=.string ⟨#[]⟩) rfl;have bf:=hB.frozen;have z7:=HX2.out _ (((Mods.refl _ w2).drewN (1+q5)).alloc (.cells #[.string ⟨#[]⟩,.bool false,.bool false,.string ⟨#[]⟩,.string ⟨#[]⟩] 67));have z6:=HX2.out _ (Mods.set5 (((Mods.refl _ w2).drewN (1+q5)).alloc (.cells #[.string ⟨#[]⟩,.bool false,.bool false,.string ⟨#[]⟩,.string ⟨#[]⟩] 67)) (R:=w2.heap.size) (.inl (Nat.le_refl _)) (.string y.1) (.bool false) (.bool true) (.string ⟨#[]⟩) (.string vy));have HP3:∃w3,w3=(((((((w2.drewN (1+q5)).alloc (.cells #[.string ⟨#[]⟩,.bool false,.bool false,.string ⟨#[]⟩,.string ⟨#[]⟩] 67)).setCell ⟨w2.heap.size,0,none⟩ (.string y.1)).setCell ⟨w2.heap.size,1,none⟩ (.bool false)).setCell ⟨w2.heap.size,2,none⟩ (.bool true)).setCell ⟨w2.heap.size,3,none⟩ (.string ⟨#[]⟩)).setCell ⟨w2.heap.size,4,none⟩ (.string vy))∧Blk w3 w2.heap.size #[.string y.1,.bool false,.bool true,.string ⟨#[]⟩,.string vy] 67 ∧ Ext w2 w3:=⟨_,rfl,Blk.set5 hB (.string y.1) (.bool false) (.bool true) (.string ⟨#[]⟩) (.string vy),Mods.set5 (((Mods.refl _ w2).drewN (1+q5)).alloc (.cells #[.string ⟨#[]⟩,.bool false,.bool false,.string ⟨#[]⟩,.string ⟨#[]⟩] 67)) (R:=w2.heap.size) (.inl (Nat.le_refl _)) (.string y.1) (.bool false) (.bool true) (.string ⟨#[]⟩) (.string vy)⟩)
    | (go_at_call 75;(with_reducible refine (HK2.out _ (((Mods.refl _ w2).alloc (.cells #[.string ⟨#[]⟩,.bool false,.bool false,.string ⟨#[]⟩,.string ⟨#[]⟩] 67)).drew)).mono ?_);rintro e w5 ⟨rfl,q5,rfl⟩;have z5:=HX2.out _ (((Mods.refl _ w2).alloc (.cells #[.string ⟨#[]⟩,.bool false,.bool false,.string ⟨#[]⟩,.string ⟨#[]⟩] 67)).drewN (1+q5));have hB:Blk ((w2.alloc (.cells #[.string ⟨#[]⟩,.bool false,.bool false,.string ⟨#[]⟩,.string ⟨#[]⟩] 67)).drewN (1+q5)) w2.heap.size #[.string ⟨#[]⟩,.bool false,.bool false,.string ⟨#[]⟩,.string ⟨#[]⟩] 67:=Blk.new w2 _ _;have b0:=hB.cell (o:=0) (v:=.string ⟨#[]⟩) rfl;have b1:=hB.cell (o:=1) (v:=.bool false) rfl;have b2:=hB.cell (o:=2) (v:=.bool false) rfl;have b3:=hB.cell (o:=3) (v:=.string ⟨#[]⟩) rfl;have b4:=hB.cell (o:=4) (v:=.string ⟨#[]⟩) rfl;have bf:=hB.frozen;have z7:=HX2.out _ (((Mods.refl _ w2).alloc (.cells #[.string ⟨#[]⟩,.bool false,.bool false,.string ⟨#[]⟩,.string ⟨#[]⟩] 67)).drewN (1+q5));have z6:=HX2.out _ (Mods.set5 (((Mods.refl _ w2).alloc (.cells #[.string ⟨#[]⟩,.bool false,.bool false,.string ⟨#[]⟩,.string ⟨#[]⟩] 67)).drewN (1+q5)) (R:=w2.heap.size) (.inl (Nat.le_refl _)) (.string y.1) (.bool false) (.bool true) (.string ⟨#[]⟩) (.string vy));have HP3:∃w3,w3=(((((((w2.alloc (.cells #[.string ⟨#[]⟩,.bool false,.bool false,.string ⟨#[]⟩,.string ⟨#[]⟩] 67)).drewN (1+q5)).setCell ⟨w2.heap.size,0,none⟩ (.string y.1)).setCell ⟨w2.heap.size,1,none⟩ (.bool false)).setCell ⟨w2.heap.size,2,none⟩ (.bool true)).setCell ⟨w2.heap.size,3,none⟩ (.string ⟨#[]⟩)).setCell ⟨w2.heap.size,4,none⟩ (.string vy))∧Blk w3 w2.heap.size #[.string y.1,.bool false,.bool true,.string ⟨#[]⟩,.string vy] 67 ∧ Ext w2 w3:=⟨_,rfl,Blk.set5 hB (.string y.1) (.bool false) (.bool true) (.string ⟨#[]⟩) (.string vy),Mods.set5 (((Mods.refl _ w2).alloc (.cells #[.string ⟨#[]⟩,.bool false,.bool false,.string ⟨#[]⟩,.string ⟨#[]⟩] 67)).drewN (1+q5)) (R:=w2.heap.size) (.inl (Nat.le_refl _)) (.string y.1) (.bool false) (.bool true) (.string ⟨#[]⟩) (.string vy)⟩)
    | fail)
  all_goals
   obtain⟨w3,hw3,hC,hM3⟩:=HP3;rw[← hw3];have HC:=oh hC;obtain⟨h3,n3⟩:=HQw2.out.ext hM3;have HN3:=oh (HN2.out.trans n3);have HR3:=oh (HR.out.ext (HM2.out.trans hM3));have hs3:w2.heap.size<w3.heap.size:=hC.lt;have HCQ:Hid (¬ twQ K P sx sy w2.heap.size):=oh (λf=>by have:=HQw2.out.env.lt _ (HQw2.out.sub _ f);omega);have hne3:w.heap.size≠w2.heap.size:=λe=>by have:=HM2.out.size;omega
   have hne4:w2.heap.size≠w.heap.size:=λe=>hne3 e.symm
   have HCC:=λ(W:World) (hb:Blk W w2.heap.size #[.string y.1,.bool false,.bool true,.string ⟨#[]⟩,.string vy] 67)=>And.intro (hb.cell (o:=0) (v:=.string y.1) rfl) (And.intro (hb.cell (o:=1) (v:=.bool false) rfl) (And.intro (hb.cell (o:=2) (v:=.bool true) rfl) (And.intro (hb.cell (o:=3) (v:=.string ⟨#[]⟩) rfl) (hb.cell (o:=4) (v:=.string vy) rfl))))
   have HNX:=oh (λW (m:Ext w3 W)=>nextY (h3.ext m).1 HG.out HD.out HLT.out);have HXT:=oh (λW (m:Ext w3 W)=>(h3.ext m).2);have zc:=HCC _ (hC.ext (Mods.refl _ w3).drew);have HCC:=oh HCC;clear hw3 hC hM3 h3 n3 z5 z6 z7 hB b0 b1 b2 b3 b4 bf zd za x0 y0;go_wp2_with fail;go_region_held3 (λw'=>w'.cell? ⟨w2.heap.size,0,none⟩=some (.string y.1)∧w'.cell? ⟨w2.heap.size,1,none⟩=some (.bool false)∧w'.cell? ⟨w2.heap.size,2,none⟩=some (.bool true)∧w'.cell? ⟨w2.heap.size,3,none⟩=some (.string ⟨#[]⟩)∧w'.cell? ⟨w2.heap.size,4,none⟩=some (.string vy))
    (first|(with_reducible exact zc)|(with_reducible exact zc5)|(with_reducible exact zc6)|fail)
    (first
     | (go_at_call 76;(with_reducible refine (HNX.out _ (Mods.refl _ w3).drew).mono ?_);rintro e w5 ⟨rfl,F5,P5,s5,t5,u5,v5,k5,n5⟩;have HK5:=oh k5;have HN5:=oh ((HN3.out.trans (HXT.out _ (Mods.refl _ w3).drew)).trans n5);have hR5:=n5.blk (HR3.out.drew) HNQ.out;have HNQ5:=oh (n5.not (HR3.out.lt) HNQ.out);have HF5:=oh (n5.grow _ (.inr rfl:plusR F w.heap.size w.heap.size));have hC5:=n5.blk (HC.out.drew) HCQ.out;have zc5:=HCC.out _ hC5;have zc6:=HCC.out _ (hC5.mods (Mods.set5 (F:=λk=>k=w.heap.size) (Mods.refl _ w5) (R:=w.heap.size) (.inr rfl) (.string y.1) (.bool false) (.bool true) (.string ⟨#[]⟩) (.string vy)) hne4);have r0:=hR5.cell (o:=0) (v:=.string ⟨#[]⟩) rfl;have r1:=hR5.cell (o:=1) (v:=.bool false) rfl;have r2:=hR5.cell (o:=2) (v:=.bool false) rfl;have r3:=hR5.cell (o:=3) (v:=.string ⟨#[]⟩) rfl;have r4:=hR5.cell (o:=4) (v:=.string ⟨#[]⟩) rfl;have rf:=hR5.frozen;have HR5:=oh hR5;clear k5 n5 hR5 hC5)
     | fail)
   have HRB:=oh (Blk.set5 HR5.out (.string y.1) (.bool false) (.bool true) (.string ⟨#[]⟩) (.string vy));have HMR:=oh (Mods.set5 (F:=λk=>k=w.heap.size) (Mods.refl _ w5) (R:=w.heap.size) (.inr rfl) (.string y.1) (.bool false) (.bool true) (.string ⟨#[]⟩) (.string vy));clear zc zc5 zc6 r0 r1 r2 r3 r4 rf;go_wp2_with fail;refine bodyPost_ret (results_row_tmp_tmp rfl _ _ w.heap.size 67 #[.string y.1,.bool false,.bool true,.string ⟨#[]⟩,.string vy] _ rfl HRB.out Tryz.underlying67 rfl Tryz.chSz) rfl ?_;refine⟨by rw[HVY.out];rfl,TwD.res HN5.out HK5.out HMR.out (Nat.le_refl _) HNQ5.out HF5.out⟩
end
end Go.Proofs.YtchklfmggpconaaGreatDoor
