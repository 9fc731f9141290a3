import Derived.Test.YtdnbmdghmmpgcaaGreatDoorK34
import Derived.BigQuiet
import Derived.IntWalk
import Derived.Deep.RegionLawGrows
import Derived.Deep.RegionHeld3
import Derived.Deep.CutBlock
import Derived.Deep.DeepCutAuto
import Derived.Test.YtdnbmdghmmpgcaaGreatDoorK28
namespace Go.Proofs.YtdnbmdghmmpgcaaGreatDoor
open Lib renaming hid→oh
set_option maxHeartbeats 2000000
set_option maxRecDepth 100000
section
open Go.RowKit
structure FrE where
 node:NodeA
 at_:Int
 ea:Option Addr
 ka:Option Addr
 ia:Option Addr
 ec:Nat
 kc:Nat
 ic:Nat
def FrE.pl(x:FrE):NodeA × Int:=(x.node,x.at_)
def encFr(x:FrE):List Value:=[.bool x.node.leaf,.slice x.ea x.node.entries.length x.ec,.slice x.ka x.node.keys.length x.kc,.slice x.ia x.node.kids.length x.ic,.int .i64 x.at_]
theorem encFr_ok:EncOk encFr 5:=⟨λ_=>rfl,by intro x u hu;simp[encFr] at hu;rcases hu with rfl|rfl|rfl|rfl|rfl <;> rfl⟩
theorem Tryz.mkFr:(Tryz.prog.info? 297).map (λi=>(i.zero,i.size,i.bytes))=some (some (.agg #[.bool false,.slice none 0 0,.slice none 0 0,.slice none 0 0,.int .i64 0]),5,88):=by kernel_rfl
theorem Tryz.elFr:ElT Tryz.prog 293 297 (.agg #[.bool false,.slice none 0 0,.slice none 0 0,.slice none 0 0,.int .i64 0]) 5 88:=⟨Tryz.underlying293,Tryz.mkFr,rfl,by decide,by decide⟩
section
variable {F P P' F' P1 F1:Nat→Prop}{ad:Nat→Addr}{w w' w0 w1:World}{base c s gen kb:Nat}{root:Int}{G G':GA}{l l':List Nat}{sv sv':Value}{st st':List FrE}{x:FrE}
structure FrOk(F:Nat→Prop)(w:World)(x:FrE):Prop where
 es:Sl F w 4 encE (.slice x.ea x.node.entries.length x.ec) x.node.entries
 ks:Sl F w 1 encS (.slice x.ka x.node.keys.length x.kc) x.node.keys
 is:Sl F w 1 encI (.slice x.ia x.node.kids.length x.ic) x.node.kids
theorem FrOk.step(h:FrOk F w x)(m:Mods F w w')(hG:∀k,k<w.heap.size→¬ F k→¬ F' k):FrOk F' w' x:=⟨h.es.step m hG,h.ks.step m hG,h.is.step m hG⟩
def CuB(kb:Nat)(sv:Value):Nat→Prop:=λk=>k=kb∨sv.ownBlock=some k
structure CuR(F P:Nat→Prop)(w:World)(base c s gen kb:Nat)(root:Int)(sv:Value)(st:List FrE):Prop where
 blk:Blk w kb #[.pointer (some ⟨c,0,none⟩),.pointer (some ⟨s,0,none⟩),.int .u64 (gen:Int),.int .i64 root,sv] 295
 row:Own (λ_=>False) w base 297 5 encFr sv st.reverse
 fr:∀x∈st,FrOk F w x
 nP:∀k,CuB kb sv k→F k∧¬ P k
 ok:StOk (st.map FrE.pl)
theorem CuR.few(h:CuR F P w base c s gen kb root sv st):st.length≤16:=by have:=h.ok.2;simpa using this
def cuQ(P:Nat→Prop)(kb:Nat)(sv:Value):Nat→Prop:=λk=>P k∨CuB kb sv k
structure CuI(F P:Nat→Prop)(ad:Nat→Addr)(w:World)(base c s gen kb:Nat)(root:Int)(G:GA)(l:List Nat)(sv:Value)(st:List FrE):Prop where
 env:Env F ad w
 sub:∀k,P k→F k
 pg:PgR F w P c s G l
 cu:CuR F P w base c s gen kb root sv st
 bl:base≤w.heap.size
theorem CuR.lt(h:CuR F P w base c s gen kb root sv st):∀k,CuB kb sv k→k<w.heap.size:=by
 rintro k (rfl|e)
 ·exact h.blk.lt
 ·exact (h.row.lt k e).2
theorem CuI.bd(h:CuI F P ad w base c s gen kb root G l sv st):Bd (cuQ P kb sv) w:=by
 rintro k (hk|hk)
 ·exact h.pg.bd k hk
 ·exact h.cu.lt k hk
theorem CuI.subQ(h:CuI F P ad w base c s gen kb root G l sv st):∀k,cuQ P kb sv k→F k:=by
 rintro k (hk|hk)
 ·exact h.sub k hk
 ·exact (h.cu.nP k hk).1
theorem CuI.ext(h:CuI F P ad w base c s gen kb root G l sv st)(m:Ext w w'):CuI F P ad w' base c s gen kb root G l sv st∧Nxt (cuQ P kb sv) (cuQ P kb sv) F F ad w w' :=
 ⟨⟨h.env.mods m.ext,h.sub,h.pg.at m,⟨h.cu.blk.ext m,h.cu.row.ext m,λx hx=>(h.cu.fr x hx).step m.ext (λ_ _ hn=>hn),h.cu.nP,h.cu.ok⟩,Nat.le_trans h.bl m.size⟩,Nxt.ext h.env h.subQ m⟩
theorem CuI.pag(h:CuI F P ad w base c s gen kb root G l sv st)(n:Nxt P P' F F' ad w w')(g:PgR F' w' P' c s G' l') :
  CuI F' P' ad w' base c s gen kb root G' l' sv st∧Nxt (cuQ P kb sv) (cuQ P' kb sv) F F' ad w w':=by
 have hw:=h.cu;have np:=λk (hk:CuB kb sv k)=>(hw.nP k hk).2
 have m:=n.stp.mods;have nq:∀k,CuB kb sv k→F' k∧¬ P' k:=λk hk=>⟨n.grow k (hw.nP k hk).1,n.not (hw.lt k hk) (np k hk)⟩
 refine⟨⟨n.env,n.sub,g,⟨hw.blk.mods m (np kb (.inl rfl)),hw.row.mods m (λk hk=>np k (.inr hk)),λx hx=>(hw.fr x hx).step (m.mono h.sub) (λk hk hn hf=>hn (n.oldF k hk hf)),nq,hw.ok⟩,Nat.le_trans h.bl m.size⟩,
  ⟨⟨m.mono (λk hk=>.inl hk),?_,?_⟩,?_,n.grow,n.oldF,n.env⟩⟩
 ·rintro k hk (hp|hp)
  ·exact .inl (n.stp.old k hk hp)
  ·exact .inr hp
 ·rintro k (hp|hp)
  ·exact n.stp.bd k hp
  ·exact Nat.lt_of_lt_of_le (hw.lt k hp) m.size
 ·rintro k (hp|hp)
  ·exact n.sub k hp
  ·exact (nq k hp).1
theorem CuI.turn(h:CuI F P ad w base c s gen kb root G l sv st)(hw:CuR F' P w' base c s gen kb root sv' st')(m:Mods (CuB kb sv) w w')(hF:∀k,F k→F' k)(hN:∀k,k<w.heap.size→F' k→F k)
  (hlt:∀k,F' k→k<w'.heap.size) (hB:∀k,k<w.heap.size→CuB kb sv' k→CuB kb sv k) :
  CuI F' P ad w' base c s gen kb root G l sv' st'∧Nxt (cuQ P kb sv) (cuQ P kb sv') F F' ad w w':=by
 have hnew:∀k,k<w.heap.size→¬ F k→¬ F' k:=λk hk hn hf=>hn (hN k hk hf)
 have hE:Env F' ad w':=h.env.step (m.mono (λk hk=>(h.cu.nP k hk).1)) hnew hlt;have hI:CuI F' P ad w' base c s gen kb root G l sv' st' :=
  ⟨hE,λk hk=>hF k (h.sub k hk),h.pg.plus m (λk hk hq=>(h.cu.nP k hq).2 hk) (λk hk=>(h.cu.nP k hk).1) hnew,hw,Nat.le_trans h.bl m.size⟩
 refine⟨hI,⟨⟨m.mono (λk hk=>.inr hk),?_,hI.bd⟩,hI.subQ,hF,hN,hE⟩⟩;rintro k hk (hp|hp)
 ·exact .inl hp
 ·exact .inr (hB k hk hp)
theorem CuI.nul(h:CuI F P ad w base c s gen kb root G l sv st):CuI F P ad (w.setCell ⟨kb,4,none⟩ (.slice none 0 0)) base c s gen kb root G l (.slice none 0 0) []∧Nxt (cuQ P kb sv) (cuQ P kb (.slice none 0 0)) F F ad w (w.setCell ⟨kb,4,none⟩ (.slice none 0 0)):=by
 have m:Mods (λk=>k=kb) w (w.setCell ⟨kb,4,none⟩ (.slice none 0 0)):=Mods.setCell (F:=λk=>k=kb) (p:=⟨kb,4,none⟩) (Mods.refl _ w) (.inr rfl) _;refine h.turn ⟨h.cu.blk.set 4 _,Own.nil _ _ _ _ _ _,λx hx=>by simp at hx,λk hk=>?_,⟨λx hx=>by simp at hx,by simp⟩⟩ (m.mono (λk e=>.inl e)) (λ_ h=>h) (λ_ _ h=>h) (λk hk=>Nat.lt_of_lt_of_le (h.env.lt k hk) m.size) (λk hk hq=>?_)
 ·rcases hk with rfl|e
  ·exact h.cu.nP _ (.inl rfl)
  ·simp[Value.ownBlock] at e
 ·rcases hq with rfl|e
  ·exact .inl rfl
  ·simp[Value.ownBlock] at e
def CuD(F P:Nat→Prop)(ad:Nat→Addr)(w:World)(base c s gen kb:Nat)(root:Int)(G:GA)(l:List Nat)(sv:Value)(r:StC ⊕ Err)(e:Ending)(w':World):Prop :=
 ∃(P' F':Nat→Prop) (sv':Value) (st':List FrE),CuI F' P' ad w' base c s gen kb root G l sv' st'∧Nxt (cuQ P kb sv) (cuQ P' kb sv') F F' ad w w' ∧
  match r with
  | .inl sa=>e=.returned .nilIface∧st'.map FrE.pl=sa
  | .inr (el,ek)=>∃f,e=.returned (faultV f)∧ErrC F' ad w' (faultV f) el ek
theorem CuD.form{r:StC ⊕ Err}{e:Ending}(h:CuD F P ad w base c s gen kb root G l sv r e w'):∃v,e=.returned v:=by
 obtain⟨P',F',sv',st',_,_,h⟩:=h;cases r with
 | inl s1=>exact⟨_,h.1⟩
 | inr er=>obtain⟨el,ek⟩:=er;obtain⟨f,h,_⟩:=h;exact⟨_,h⟩
theorem CuD.pre{r:StC ⊕ Err}{e:Ending}(n:Nxt (cuQ P kb sv) (cuQ P1 kb sv') F F1 ad w w0)(h:CuD F1 P1 ad w0 base c s gen kb root G l sv' r e w'):CuD F P ad w base c s gen kb root G l sv r e w':=by
 obtain⟨P2,F2,sv2,st2,h1,h2,h3⟩:=h;exact⟨P2,F2,sv2,st2,h1,n.trans h2,h3⟩
theorem CuD.bad{er:Err}{f:Nat}(h:CuI F1 P1 ad w' base c s gen kb root G l sv' st')(n:Nxt (cuQ P kb sv) (cuQ P1 kb sv') F F1 ad w w')(hE:ErrC F1 ad w' (faultV f) er.1 er.2){r:StC ⊕ Err}(hr:r=.inr er) :
  CuD F P ad w base c s gen kb root G l sv r (.returned (faultV f)) w':=by
 subst hr;exact⟨P1,F1,sv',st',h,n,f,rfl,hE⟩
theorem CuD.good(h:CuI F1 P1 ad w' base c s gen kb root G l sv' st')(n:Nxt (cuQ P kb sv) (cuQ P1 kb sv') F F1 ad w w'){r:StC ⊕ Err}(hr:r=.inl (st'.map FrE.pl)) :
  CuD F P ad w base c s gen kb root G l sv r (.returned .nilIface) w':=by
 subst hr;exact⟨P1,F1,sv',st',h,n,rfl,rfl⟩
theorem CuI.put{g cp:Nat}{r:List FrE}(h:CuI F P ad w base c s gen kb root G l (.slice (some ⟨g,0,none⟩) (r.length+1) cp) (x :: r))(a:Int)(ha:FrOkA (x.node,a)) :
  CuI F P ad (w.setCell ⟨g,r.length * 5+4,none⟩ (.int .i64 a)) base c s gen kb root G l (.slice (some ⟨g,0,none⟩) (r.length+1) cp) ({ x with at_:=a } :: r)∧Nxt (cuQ P kb (.slice (some ⟨g,0,none⟩) (r.length+1) cp)) (cuQ P kb (.slice (some ⟨g,0,none⟩) (r.length+1) cp)) F F ad w (w.setCell ⟨g,r.length * 5+4,none⟩ (.int .i64 a)):=by
 have m:Mods (λk=>k=g) w (w.setCell ⟨g,r.length * 5+4,none⟩ (.int .i64 a)):=Mods.setCell (F:=λk=>k=g) (p:=⟨g,r.length * 5+4,none⟩) (Mods.refl _ w) (.inr rfl) _;have hg:CuB kb (.slice (some ⟨g,0,none⟩) (r.length+1) cp) g:=.inr rfl;have hgk:kb≠g:=λe=>Own.notB h.cu.row h.cu.blk (by decide) g rfl e.symm
 have ho:=h.cu.row;rw[List.reverse_cons] at ho;have hs:=ho.set encFr_ok.len (i:=r.length) (j:=4) (x:=x) (x':={ x with at_:=a }) (u:=.int .i64 a) (by rw[List.getElem?_append_right (by simp)];simp) (by omega) rfl;have hl:(r.reverse++[x]).set r.length { x with at_:=a }=({ x with at_:=a } :: r).reverse:=by
  rw[List.reverse_cons,List.set_append_right _ _ (by simp)];simp
 rw[hl] at hs;refine h.turn ⟨h.cu.blk.mods m hgk,hs,λy hy=>?_,h.cu.nP,⟨λy hy=>?_,by have:=h.cu.ok.2;simpa using this⟩⟩ (m.mono (λk e=>e ▸ hg)) (λ_ h=>h) (λ_ _ h=>h) (λk hk=>Nat.lt_of_lt_of_le (h.env.lt k hk) m.size) (λ_ _ h=>h)
 ·have hy':∃z∈x :: r,FrOk F w z∧y.node=z.node∧y.ea=z.ea∧y.ka=z.ka∧y.ia=z.ia∧y.ec=z.ec∧y.kc=z.kc∧y.ic=z.ic:=by
   rcases List.mem_cons.1 hy with rfl|hy
   ·exact⟨x,List.mem_cons_self,h.cu.fr x List.mem_cons_self,rfl,rfl,rfl,rfl,rfl,rfl,rfl⟩
   ·exact⟨y,List.mem_cons_of_mem _ hy,h.cu.fr y (List.mem_cons_of_mem _ hy),rfl,rfl,rfl,rfl,rfl,rfl,rfl⟩
  obtain⟨z,_,hz,e1,e2,e3,e4,e5,e6,e7⟩:=hy';have hz2:=hz.step (F':=F) (m.mono (λk e=>e ▸ (h.cu.nP g hg).1)) (λ_ _ hn=>hn);obtain⟨z1,z2,z3⟩:=hz2;rw[← e1,← e2,← e5] at z1;rw[← e1,← e3,← e6] at z2;rw[← e1,← e4,← e7] at z3;exact⟨z1,z2,z3⟩
 ·rw[List.map_cons] at hy;rcases List.mem_cons.1 hy with rfl|hy
  ·exact ha
  ·exact h.cu.ok.1 y (by rw[List.map_cons];exact List.mem_cons_of_mem _ hy)
theorem CuI.push{w4:World}{o:Obj}{K:Nat}(h:CuI F P ad w base c s gen kb root G l sv st)(hx:FrOk F w x)(hx0:FrOkA x.pl)(hlen:st.length<16)(hown:Own (λ_=>False) w4 base 297 5 encFr sv' (st.reverse++[x]))(m4:Mods (λk=>sv.ownBlock=some k) (w.alloc o) w4)
  (hat:sv'.ownBlock=sv.ownBlock∨sv'.ownBlock=some K) (hK:w.heap.size≤K) :
  CuI (plusV F sv') P ad (w4.setCell ⟨kb,4,none⟩ sv') base c s gen kb root G l sv' (x :: st)∧Nxt (cuQ P kb sv) (cuQ P kb sv') F (plusV F sv') ad w (w4.setCell ⟨kb,4,none⟩ sv'):=by
 have m5:Mods (λk=>k=kb) w4 (w4.setCell ⟨kb,4,none⟩ sv'):=Mods.setCell (F:=λk=>k=kb) (p:=⟨kb,4,none⟩) (Mods.refl _ w4) (.inr rfl) _;have b0:=h.cu.blk.alloc o;have rk:=h.cu.row.ext ((Mods.refl _ w).alloc o);have b4:=b0.mods m4 (λe=>Own.notB rk b0 (by decide) _ e rfl);have mA:Mods (CuB kb sv) w w4:=((Mods.refl _ w).alloc o).trans (m4.mono (λk e=>.inr e));have mB:Mods (CuB kb sv) w (w4.setCell ⟨kb,4,none⟩ sv'):=mA.setCell (p:=⟨kb,4,none⟩) (.inr (.inl rfl)) _;have hnew:∀k,k<w.heap.size→¬ F k→¬ plusV F sv' k:=by
  rintro k hk hn (hf|hf)
  ·exact hn hf
  ·rcases hat with e|e
   ·exact hn (h.cu.nP k (.inr (e ▸ hf))).1
   ·rw[e] at hf;injection hf with hf;omega
 have mF:=mB.mono (λk hk=>(h.cu.nP k hk).1);refine h.turn ⟨b4.set 4 sv',by rw[List.reverse_cons];exact hown.mods m5 (λg hg e=>Own.notB hown b4 (by decide) g hg e),λy hy=>?_,λk hk=>?_,⟨λy hy=>?_,by have:=h.cu.few;simp;omega⟩⟩ mB (λ_ h=>.inl h) (λk hk hf=>Classical.byContradiction λhn=>hnew k hk hn hf) ?_ ?_
 ·rcases List.mem_cons.1 hy with rfl|hy
  ·exact hx.step mF hnew
  ·exact (h.cu.fr y hy).step mF hnew
 ·rcases hk with e|e
  ·exact⟨.inl (h.cu.nP k (.inl e)).1,(h.cu.nP k (.inl e)).2⟩
  ·refine⟨.inr e,λhp=>?_⟩;rcases hat with h5|h5
   ·exact (h.cu.nP k (.inr (h5 ▸ e))).2 hp
   ·rw[h5] at e;injection e with e;have:=h.env.lt k (h.sub k hp);omega
 ·rw[List.map_cons] at hy;rcases List.mem_cons.1 hy with rfl|hy
  ·exact hx0
  ·exact h.cu.ok.1 y hy
 ·rintro k (hf|hf)
  ·exact Nat.lt_of_lt_of_le (h.env.lt k hf) mB.size
  ·exact Nat.lt_of_lt_of_le (hown.lt k hf).2 m5.size
 ·rintro k hk (e|e)
  ·exact .inl e
  ·rcases hat with h5|h5
   ·exact .inr (h5 ▸ e)
   ·rw[h5] at e;injection e with e;omega
theorem CuI.pop{g cp:Nat}{r:List FrE}(h:CuI F P ad w base c s gen kb root G l (.slice (some ⟨g,0,none⟩) (r.length+1) cp) (x :: r)) :
  CuI F P ad (w.setCell ⟨kb,4,none⟩ (.slice (some ⟨g,0,none⟩) r.length cp)) base c s gen kb root G l (.slice (some ⟨g,0,none⟩) r.length cp) r∧Nxt (cuQ P kb (.slice (some ⟨g,0,none⟩) (r.length+1) cp)) (cuQ P kb (.slice (some ⟨g,0,none⟩) r.length cp)) F F ad w (w.setCell ⟨kb,4,none⟩ (.slice (some ⟨g,0,none⟩) r.length cp)):=by
 have m:Mods (λk=>k=kb) w (w.setCell ⟨kb,4,none⟩ (.slice (some ⟨g,0,none⟩) r.length cp)):=Mods.setCell (F:=λk=>k=kb) (p:=⟨kb,4,none⟩) (Mods.refl _ w) (.inr rfl) _;have ho:=h.cu.row;rw[List.reverse_cons] at ho;have hr:Own (λ_=>False) w base 297 5 encFr (.slice (some ⟨g,0,none⟩) r.length cp) r.reverse:=by
  refine⟨?_,λ_ _ f=>f⟩;rcases ho.1.2 with ⟨h0,_⟩|⟨g',cap,cur,h0,hb,hg,h1,h2,h3,h4⟩
  ·cases h0
  ·injection h0 with h0 h0n h0c;injection h0 with h0;injection h0 with h0;subst h0 h0c;refine⟨by rw[flatMap_len encFr_ok.len],.inr ⟨g,cp,cur,by simp,hb,hg,?_,h2,h3,?_⟩⟩
   ·rw[List.length_append] at h1;omega
   ·have h5:=congrArg (List.take (r.reverse.length * 5)) h4;rw[List.take_take,List.flatMap_append,List.take_left' (by rw[flatMap_len encFr_ok.len])] at h5;rw[List.length_append] at h5;rw[← h5];congr 1
    omega
 have hB:∀k,CuB kb (.slice (some ⟨g,0,none⟩) r.length cp) k→CuB kb (.slice (some ⟨g,0,none⟩) (r.length+1) cp) k:=λk hk=>hk
 refine h.turn ⟨h.cu.blk.set 4 _,hr.mods m (λg' hg' e=>Own.notB hr h.cu.blk (by decide) g' hg' e),λy hy=>(h.cu.fr y (List.mem_cons_of_mem _ hy)).step (m.mono (λk e=>e ▸ (h.cu.nP kb (.inl rfl)).1)) (λ_ _ hn=>hn),λk hk=>h.cu.nP k (hB k hk),⟨λy hy=>h.cu.ok.1 y (by rw[List.map_cons];exact List.mem_cons_of_mem _ hy),by have:=h.cu.few;simp at this ⊢;omega⟩⟩
  (m.mono (λk e=>.inl e)) (λ_ h=>h) (λ_ _ h=>h) (λk hk=>Nat.lt_of_lt_of_le (h.env.lt k hk) m.size) (λk _ hk=>hB k hk)
theorem CuI.form{r:List FrE}(h:CuI F P ad w base c s gen kb root G l sv (x :: r)):∃g cp,sv=.slice (some ⟨g,0,none⟩) (r.length+1) cp∧r.length+1≤cp∧cp≤maxLen∧(∀o,w.frozen? ⟨g,o,none⟩=false) ∧
  w.cell? ⟨g,r.length * 5,none⟩=some (.bool x.node.leaf)∧w.cell? ⟨g,r.length * 5+1,none⟩=some (.slice x.ea x.node.entries.length x.ec)∧w.cell? ⟨g,r.length * 5+2,none⟩=some (.slice x.ka x.node.keys.length x.kc)∧w.cell? ⟨g,r.length * 5+3,none⟩=some (.slice x.ia x.node.kids.length x.ic)∧w.cell? ⟨g,r.length * 5+4,none⟩=some (.int .i64 x.at_):=by
 have ho:=h.cu.row;rw[List.reverse_cons] at ho;rcases ho.1.2 with ⟨_,h0⟩|⟨g,cap,cur,h0,hb,hg,h1,h2,h3,h4⟩
 ·simp at h0
 ·rw[List.length_append,List.length_reverse] at h0 h1;simp only[List.length_cons,List.length_nil,Nat.zero_add] at h0 h1;subst h0;have hs:=ho.sl encFr_ok.len (by have:=h.cu.few;simp at this ⊢ <;> omega);obtain⟨b,off,e,hc⟩:=hs.elem (k:=r.length) (w':=w) (by simp) (Mods.refl _ w);injection e with e;injection e with e1 e2 _;subst e1 e2;have hat:∀(i:Nat) (u:Value),(encFr x)[i]? = some u→w.cell? ⟨g,0+r.length * 5+i,none⟩=some u:=λi u hu=>hc i u (by rw[List.getElem_append_right (by simp)];simpa using hu)
  have c0:=hat 0 (.bool x.node.leaf) rfl;have c1:=hat 1 (.slice x.ea x.node.entries.length x.ec) rfl;have c2:=hat 2 (.slice x.ka x.node.keys.length x.kc) rfl;have c3:=hat 3 (.slice x.ia x.node.kids.length x.ic) rfl;have c4:=hat 4 (.int .i64 x.at_) rfl;simp only[Nat.zero_add,Nat.add_zero] at c0 c1 c2 c3 c4;exact⟨g,cap,rfl,h1,h2,λo=>Blk.frozen (c:=cur) (t := 297) hg o,c0,c1,c2,c3,c4⟩
theorem CuI.cells{g n cp:Nat}{r:List FrE}(h:CuI F P ad w base c s gen kb root G l (.slice (some ⟨g,0,none⟩) n cp) (x :: r)):(∀o,w.frozen? ⟨g,o,none⟩=false) ∧
  w.cell? ⟨g,r.length * 5,none⟩=some (.bool x.node.leaf)∧w.cell? ⟨g,r.length * 5+1,none⟩=some (.slice x.ea x.node.entries.length x.ec)∧w.cell? ⟨g,r.length * 5+2,none⟩=some (.slice x.ka x.node.keys.length x.kc)∧w.cell? ⟨g,r.length * 5+3,none⟩=some (.slice x.ia x.node.kids.length x.ic)∧w.cell? ⟨g,r.length * 5+4,none⟩=some (.int .i64 x.at_):=by
 obtain⟨g',cp',e,_,_,h1⟩:=h.form;injection e with e _ _;injection e with e;injection e with e _ _;subst e;exact h1
end
end
section
open Go.RowKit
attribute [local go_sem ↓] Go.wp_at_zero Go.wp_at_succ
section
variable {F P P' F' P1 F1:Nat→Prop}{ad:Nat→Addr}{w w' w0 w1:World}{base c s gen kb:Nat}{root:Int}{G G':GA}{l l':List Nat}{sv sv':Value}{st st':List FrE}{x:FrE}
theorem topN_any{v0 v1 v2 v3:Value}{g n m cp:Nat}(hB:Blk w kb #[v0,v1,v2,v3,.slice (some ⟨g,0,none⟩) n cp] 295)(hn:n=m+1)(hm:m≤1000) :
  Calls Tryz.prog 185 #[.pointer (some ⟨kb,0,none⟩)] w λe w'=>e=.returned (.pointer (some ⟨g,m * 5,none⟩))∧∃q,w'=w.drewN q:=by
 have k4:=hB.cell (o:=4) (v:=.slice (some ⟨g,0,none⟩) n cp) rfl;have u1:IntKind.i64.wrap ((n:Int)-1)=(m:Int):=by rw[IntWalk.i64_in _ (by omega)];omega
 have u2:(0:Int)≤(m:Int):=by omega
 have u3:(m:Int)<(n:Int):=by omega
 clear hB hn hm
 go_enter Tryz.func185, Tryz.ntmps185
 go_wp2_with fail;go_quiet (fail)
 go_wp2_with fail;go_ret;exact⟨by simp,_,rfl⟩
theorem top_any{v0 v1 v2 v3:Value}{g n m cp:Nat}(hB:Blk w kb #[v0,v1,v2,v3,.slice (some ⟨g,0,none⟩) n cp] 295)(hn:n=m+1)(hm:m≤1000) :
  Calls Tryz.prog 185 #[.pointer (some ⟨kb,0,none⟩)] w λe w'=>e=.returned (.pointer (some ⟨g,m * 5,none⟩))∧Ext w w' :=
 (topN_any hB hn hm).mono (λe w' ⟨h1,q,h2⟩=>⟨h1,by rw[h2];exact (Mods.refl _ w).drewN q⟩)
theorem top_q{v0 v1 v2 v3:Value}{g n m cp:Nat}(hB:Blk w kb #[v0,v1,v2,v3,.slice (some ⟨g,0,none⟩) n cp] 295)(hn:n=m+1)(hm:m≤1000)(q:Nat) :
  Calls Tryz.prog 185 #[.pointer (some ⟨kb,0,none⟩)] (w.drewN q) λe w'=>e=.returned (.pointer (some ⟨g,m * 5,none⟩))∧∃k,w'=w.drewN k :=
 (topN_any (hB.ext ((Mods.refl _ w).drewN q)) hn hm).mono (λe w' ⟨h1,k,h2⟩=>⟨h1,q+k,by rw[h2];unfold World.drewN;simp[Nat.add_assoc]⟩)
theorem ends_any(n:NodeA){g o ec ic:Nat}{ea ia:Option Addr}(c0:w.cell? ⟨g,o,none⟩=some (.bool n.leaf))(c1:w.cell? ⟨g,o+1,none⟩=some (.slice ea n.entries.length ec))(c3:w.cell? ⟨g,o+3,none⟩=some (.slice ia n.kids.length ic)) :
  Calls Tryz.prog 244 #[.pointer (some ⟨g,o,none⟩)] w λe w'=>e=.returned (.int .i64 (endsA n:Int))∧w=w':=by
 cases hl:n.leaf with
 | true =>
  have HE:Hid (endsA n=n.entries.length):=oh (by unfold endsA;rw[if_pos hl]);rw[hl] at c0;clear hl
  go_enter Tryz.func244, Tryz.ntmps244
  go_wp2_with fail;go_ret;rw[HE.out];exact⟨rfl,rfl⟩
 | false =>
  have HE:Hid (endsA n=n.kids.length):=oh (by unfold endsA;rw[if_neg (by rw[hl];simp)]);rw[hl] at c0;clear hl
  go_enter Tryz.func244, Tryz.ntmps244
  go_wp2_with fail;go_ret;rw[HE.out];exact⟨rfl,rfl⟩
theorem push_any(h:CuI F P ad w base c s gen kb root G l sv st)(ht:G.total)(id:Int) :
  Calls Tryz.prog 243 #[.pointer (some ⟨kb,0,none⟩),.int .i64 id] w (CuD F P ad w base c s gen kb root G l sv (pushA G (st.map FrE.pl) id)):=by
 obtain⟨pa,pc,rfl,q1,q2⟩:=_root_.id h.cu.row.form;have hfew:=h.cu.few;have hrl:st.reverse.length=st.length:=List.length_reverse;rw[hrl] at h q1 ⊢;have H:=oh h;have k4:=h.cu.blk.cell (o:=4) (v:=.slice pa st.length pc) rfl;have kf:=h.cu.blk.frozen;have HML:Hid ((st.map FrE.pl).length=st.length):=oh (by simp);by_cases h16:16≤st.length
 ·have HV:Hid (pushA G (st.map FrE.pl) id=.inr ([pgOf id],5)):=oh (by unfold pushA;rw[if_pos (by rw[HML.out];exact h16)]);have g5:=h.env.c5;have HA:=oh (λop=>at_any h.env op id _ _ _ (ErrC.sent 5 (by omega) (by omega)));have h16i:(16:Int)≤(st.length:Int):=by omega
  clear h hrl
  go_enter Tryz.func243, Tryz.ntmps243
  go_wp2_with fail;refine (HA.out _).mono ?_;rintro e w1 ⟨b,rfl,hE,hm⟩;have HE:=oh hE;have HM:=oh (H.out.ext hm);clear hE hm;go_wp2_with fail;go_ret;exact CuD.bad HM.out.1 HM.out.2 HE.out HV.out
 ·have HV:Hid (pushA G (st.map FrE.pl) id=match G.load id with | .inr e=>.inr e | .inl n=>.inl ((n,0) :: st.map FrE.pl)):=oh (by unfold pushA;rw[if_neg (by rw[HML.out];exact h16)];rfl);have k0:=h.cu.blk.cell (o:=0) (v:=.pointer (some ⟨c,0,none⟩)) rfl;have k1:=h.cu.blk.cell (o:=1) (v:=.pointer (some ⟨s,0,none⟩)) rfl;have k2:=h.cu.blk.cell (o:=2) (v:=.int .u64 (gen:Int)) rfl;have HLD:=oh (load_any h.env h.sub h.pg gen id (ht.knows id));unfold pgV at HLD;have h16i:¬ (16:Int)≤(st.length:Int):=by omega
  have H16:=oh h16;clear h hrl h16
  go_enter Tryz.func243, Tryz.ntmps243
  go_wp2_with fail;refine (HLD.out).mono ?_;rintro e w1 ⟨P1,F1,hG1,hN1,hres⟩;have H1:=oh (H.out.pag hN1 hG1);clear hG1 hN1 k0 k1 k2 k4 kf;cases hld:G.load id with
  | inr er =>
   obtain⟨el,ek⟩:=er;rw[hld] at hres;obtain⟨f,rfl,hE⟩:=hres;have HZ:Hid (pushA G (st.map FrE.pl) id=.inr (el,ek)):=oh (by rw[HV.out,hld]);have m2:Ext w1 (w1.alloc (.cells #[.bool false,.slice none 0 0,.slice none 0 0,.slice none 0 0] 272)):=(Mods.refl _ w1).alloc _;have H2:=oh (H1.out.1.ext m2);have HE:=oh (hE.mods m2.ext);clear hE hld m2;go_wp2_with fail;go_ret;exact CuD.bad H2.out.1 (H1.out.2.trans H2.out.2) HE.out HZ.out
  | inl n =>
   rw[hld] at hres;obtain⟨ve,vk,vi,rfl,hse,hsk,hsi⟩:=hres;obtain⟨ea,ec,rfl,_,_,_,_⟩:=_root_.id hse;obtain⟨ka,kc,rfl,_,_,_,_⟩:=_root_.id hsk;obtain⟨ia,ic,rfl,_,_,_,_⟩:=_root_.id hsi;have HZ:Hid (pushA G (st.map FrE.pl) id=.inl ((n,0) :: st.map FrE.pl)):=oh (by rw[HV.out,hld]);have HRT:=oh (GA.load_right hld);have m2:Ext w1 (w1.alloc (.cells #[.bool n.leaf,.slice ea n.entries.length ec,.slice ka n.keys.length kc,.slice ia n.kids.length ic] 272)):=(Mods.refl _ w1).alloc _;have H2:=oh (H1.out.1.ext m2);have HFR:Hid (FrOk F1 (w1.alloc (.cells #[.bool n.leaf,.slice ea n.entries.length ec,.slice ka n.keys.length kc,.slice ia n.kids.length ic] 272)) ⟨n,0,ea,ka,ia,ec,kc,ic⟩):=oh ⟨hse.ext m2,hsk.ext m2,hsi.ext m2⟩;have hND:=Blk.new w1 #[.bool n.leaf,.slice ea n.entries.length ec,.slice ka n.keys.length kc,.slice ia n.kids.length ic] 272;have d0:=hND.cell (o:=0) (v:=.bool n.leaf) rfl;have d1:=hND.cell (o:=1) (v:=.slice ea n.entries.length ec) rfl;have d2:=hND.cell (o:=2) (v:=.slice ka n.keys.length kc) rfl;have d3:=hND.cell (o:=3) (v:=.slice ia n.kids.length ic) rfl;have k4:=H2.out.1.cu.blk.cell (o:=4) (v:=.slice pa st.length pc) rfl;have k4b:=λo=>cellE ((Mods.refl _ _).alloc o) k4
   have hbl:=H2.out.1.bl;have HO2:Hid (Own (λ_=>False) (((w1.alloc (.cells #[.bool n.leaf,.slice ea n.entries.length ec,.slice ka n.keys.length kc,.slice ia n.kids.length ic] 272))).drew.alloc (.cells #[.bool n.leaf,.slice ea n.entries.length ec,.slice ka n.keys.length kc,.slice ia n.kids.length ic,.int .i64 0] 297)) base 297 5 encFr (.slice pa st.length pc) st.reverse):=oh ((H2.out.1.cu.row.ext (Mods.refl _ _).drew).ext ((Mods.refl _ _).alloc _));have HB2:Hid (Blk (((w1.alloc (.cells #[.bool n.leaf,.slice ea n.entries.length ec,.slice ka n.keys.length kc,.slice ia n.kids.length ic] 272))).drew.alloc (.cells #[.bool n.leaf,.slice ea n.entries.length ec,.slice ka n.keys.length kc,.slice ia n.kids.length ic,.int .i64 0] 297)) kb #[.pointer (some ⟨c,0,none⟩),.pointer (some ⟨s,0,none⟩),.int .u64 (gen:Int),.int .i64 root,.slice pa st.length pc] 295):=oh (((H2.out.1.cu.blk.drew).alloc _));clear hse hsk hsi hld m2 hND;go_wp2_with fail;go_region_law
    (first
     | (refine step_app2 Tryz.elFr encFr_ok (by rfl) _ _ (by rfl) base (.slice pa st.length pc) _ st.reverse [⟨n,0,ea,ka,ia,ec,kc,ic⟩] (by rfl) (by rfl) HO2.out (Sl.one (F:=λ_=>False) (heap_at (by simp)) (λf=>f)) (by simp only[List.length_reverse,List.length_cons,List.length_nil];omega) (by simp at hbl ⊢;omega) (λf=>f) ?_;simp only[List.length_reverse,List.length_cons,List.length_nil,Nat.zero_add];intro a11 c11 w11 hO11 hm11 hat11;have hB11:=HB2.out.mods hm11 (λe=>Own.notB HO2.out HB2.out (by decide) _ e rfl);have z4:=hB11.cell (o:=4) (v:=.slice pa st.length pc) rfl;have zf:=hB11.frozen 4;clear hB11)
     | fail)
   all_goals
    have H2D:=oh (H2.out.1.ext (Mods.refl _ _).drew);have H3:=oh (H2D.out.1.push (x:=⟨n,0,ea,ka,ia,ec,kc,ic⟩) (HFR.out.step (Mods.refl _ _).drew (λ_ _ hn=>hn)) (zero_ok HRT.out).1 (by have:=H16.out;omega) hO11 hm11 (hat11.imp (λh=>h) (λh=>h)) (by simp));clear hO11 hm11 hat11 z4 zf d0 d1 d2 d3 k4 k4b hbl;go_wp2_with fail;go_ret;exact CuD.good H3.out.1 (((H1.out.2.trans H2.out.2).trans H2D.out.2).trans H3.out.2) HZ.out
end
end
section
open Go.RowKit
end
section
open Go.RowKit
attribute [local go_sem ↓] Go.wp_at_zero Go.wp_at_succ
theorem encP_ok:EncOk encP 2:=⟨λ_=>rfl,by intro x u hu;simp[encP] at hu;rcases hu with rfl|rfl <;> rfl⟩
theorem Tryz.mkP:(Tryz.prog.info? 111).map (λi=>(i.zero,i.size,i.bytes))=some (some (.agg #[.string ⟨#[]⟩,.string ⟨#[]⟩]),2,32):=by kernel_rfl
theorem Tryz.elP:ElT Tryz.prog 22 111 (.agg #[.string ⟨#[]⟩,.string ⟨#[]⟩]) 2 32:=⟨Tryz.underlying22,Tryz.mkP,rfl,by decide,by decide⟩
section
variable {F:Nat→Prop}{w w' wr w2:World}
def PairsRes(w:World)(l:List PairS)(e:Ending)(w':World):Prop:=∃v,e=.returned v∧Own NoF w' w.heap.size 111 2 encP v l∧Ext w w'
theorem with_any(l:List PairS)(lv:Value)(hl:Sl F w 2 encP lv l)(hlen:l.length≤1000)(key value:ByteArray)(over:Bool) :
  Calls Tryz.prog 79 #[lv,.string key,.string value,.bool over] w (PairsRes w (withP key value over l)):=by
 obtain⟨la,lc,rfl,h1,h2,h3,hll⟩:=hl;unfold maxLen at h2;have HLL:=oh hll;clear hll
 go_enter Tryz.func79, Tryz.ntmps79
 go_wp2_with fail;have HO0:Hid (Own NoF (w.alloc (.cells #[] 111)) w.heap.size 111 2 encP (.slice (some ⟨w.heap.size,0,none⟩) 0 0) []):=oh
  (Own.made (l:=([]:List PairS)) (cur:=#[]) (cap:=0) (heap_at (by simp)) (by omega) (λf=>f) (Nat.le_refl _) (by simp[maxLen]) (by simp) (by simp) (λ_=>rfl))
 have HM0:Hid (Ext w (w.alloc (.cells #[] 111))):=oh ((Mods.refl _ w).alloc _);go_loopg [9,10,11] l.length (λm v9 v10 v11 wr=>∃(k:Nat) (dn:Bool) (out:List PairS),k+m=l.length∧v11=.int .i64 (k:Int)∧v10=.bool dn∧Hid (Own NoF wr w.heap.size 111 2 encP v9 out∧Ext w wr∧WthI key value over l k dn out))
 case atStart=>exact⟨0,false,[],by omega,rfl,rfl,oh ⟨HO0.out,HM0.out,WthI.start⟩⟩
 case round =>
  obtain⟨k,dn,out,hkm,rfl,rfl,HS⟩:=hrel;by_cases hlt:k<l.length
  ·obtain⟨b,off,rfl,hb,hF,hc⟩:=Sl.at HLL.out HS.out.2.1 (λ_ _ f=>f.elim) k hlt;obtain⟨x,hx⟩:∃x,l[k]? = some x:=⟨_,List.getElem?_eq_getElem hlt⟩;have hx':l[k]=x:=by rw[List.getElem?_eq_getElem hlt] at hx;exact Option.some.inj hx
   rw[hx'] at hc;have c0:=hc 0 _ rfl;simp only[Nat.add_zero] at c0;have c1:=hc 1 _ rfl;have HX:=oh hx;have HOL:Hid (out.length≤k+1):=oh (by have:=HS.out.2.2.1;omega);clear hc hx hx';have i1:(0:Int)≤(k:Int):=by omega
   have i2:(k:Int)<(l.length:Int):=by omega
   have HSZ:Hid (w.heap.size≤wr.heap.size):=oh HS.out.2.1.size;cases dn with
   | true =>
    go_wp2_with (at_builtin;refine wpl_app2 Tryz.elP encP_ok rfl _ _ rfl w.heap.size _ _ out [x] rfl rfl (HS.out.1.ext ((Mods.refl _ _).alloc _)) (Sl.one (F:=NoF) (heap_at (by simp)) (λf=>f)) (by have:=HOL.out;simp only[List.length_cons,List.length_nil];omega) (by have:=hb;have:=HSZ.out;simp;omega) (λf=>f) ?_;intro a4 c4 w4 hO4 hm4 hat4);have HS4:Hid (Own NoF w4 w.heap.size 111 2 encP _ _∧Ext w w4∧WthI key value over l (k+1) true (out++[x])):=oh ⟨hO4,(HS.out.2.1.alloc _).trans' hm4 (λi hi e=>by have:=(HS.out.1.lt i e).1;omega),HS.out.2.2.pass HX.out⟩;clear hO4 hm4 hat4;go_wp2_with fail;go_roundg (gk-1)
    case measure=>omega
    case rel=>exact⟨k+1,true,_,by omega,by go_num,rfl,HS4⟩
   | false =>
    by_cases hl:ltS x.1 key=true
    ·have e1:Op.bytesLess x.1.toList key.toList=true:=hl;have HE:=oh hl;clear hl;go_wp2_with (at_builtin;refine wpl_app2 Tryz.elP encP_ok rfl _ _ rfl w.heap.size _ _ out [x] rfl rfl (HS.out.1.ext ((Mods.refl _ _).alloc _)) (Sl.one (F:=NoF) (heap_at (by simp)) (λf=>f)) (by have:=HOL.out;simp only[List.length_cons,List.length_nil];omega) (by have:=hb;have:=HSZ.out;simp;omega) (λf=>f) ?_;intro a4 c4 w4 hO4 hm4 hat4);have HS4:Hid (Own NoF w4 w.heap.size 111 2 encP _ _∧Ext w w4∧WthI key value over l (k+1) false (out++[x])):=oh ⟨hO4,(HS.out.2.1.alloc _).trans' hm4 (λi hi e=>by have:=(HS.out.1.lt i e).1;omega),HS.out.2.2.lt HX.out HE.out⟩;clear hO4 hm4 hat4;go_wp2_with fail;go_roundg (gk-1)
     case measure=>omega
     case rel=>exact⟨k+1,false,_,by omega,by go_num,rfl,HS4⟩
    ·have hl':ltS x.1 key=false:=by simpa using hl
     have e1:Op.bytesLess x.1.toList key.toList=false:=hl';have HE:=oh hl';clear hl hl';by_cases hk:x.1=key
     ·obtain⟨xk,xv⟩:=x;simp only at hk;subst hk;cases over with
      | true =>
       go_wp2_with (at_builtin;refine wpl_app2 Tryz.elP encP_ok rfl _ _ rfl w.heap.size _ _ out [(xk,value)] rfl rfl (HS.out.1.ext ((Mods.refl _ _).alloc _)) (Sl.one (F:=NoF) (heap_at (by simp)) (λf=>f)) (by have:=HOL.out;simp only[List.length_cons,List.length_nil];omega) (by have:=HSZ.out;simp;omega) (λf=>f) ?_;intro a4 c4 w4 hO4 hm4 hat4;have y0:=cellM hm4 (cellE ((Mods.refl _ wr).alloc (.cells #[.string xk,.string value] 111)) c0) (λe=>by have:=(HS.out.1.lt _ e).1;omega);have y1:=cellM hm4 (cellE ((Mods.refl _ wr).alloc (.cells #[.string xk,.string value] 111)) c1) (λe=>by have:=(HS.out.1.lt _ e).1;omega));have HS4:Hid (Own NoF w4 w.heap.size 111 2 encP _ _∧Ext w w4∧WthI xk value true l (k+1) true (out++[(xk,value)])):=oh ⟨hO4,(HS.out.2.1.alloc _).trans' hm4 (λi hi e=>by have:=(HS.out.1.lt i e).1;omega),HS.out.2.2.eqO HX.out rfl⟩;clear hO4 hm4 hat4;go_wp2_with fail;go_roundg (gk-1)
       case measure=>omega
       case rel=>exact⟨k+1,true,_,by omega,by go_num,rfl,HS4⟩
      | false =>
       go_wp2_with (at_builtin;refine wpl_app2 Tryz.elP encP_ok rfl _ _ rfl w.heap.size _ _ out [(xk,xv)] rfl rfl (HS.out.1.ext ((Mods.refl _ _).alloc _)) (Sl.one (F:=NoF) (heap_at (by simp)) (λf=>f)) (by have:=HOL.out;simp only[List.length_cons,List.length_nil];omega) (by have:=HSZ.out;simp;omega) (λf=>f) ?_;intro a4 c4 w4 hO4 hm4 hat4);have HS4:Hid (Own NoF w4 w.heap.size 111 2 encP _ _∧Ext w w4∧WthI xk value false l (k+1) true (out++[(xk,xv)])):=oh ⟨hO4,(HS.out.2.1.alloc _).trans' hm4 (λi hi e=>by have:=(HS.out.1.lt i e).1;omega),HS.out.2.2.eqN HX.out rfl⟩;clear hO4 hm4 hat4;go_wp2_with fail;go_roundg (gk-1)
       case measure=>omega
       case rel=>exact⟨k+1,true,_,by omega,by go_num,rfl,HS4⟩
     ·have hk2:ltS key x.1=true:=(not_ltS HE.out).resolve_right hk;have e2:Op.bytesLess key.toList x.1.toList=true:=hk2;have e3:¬ x.1.toList=key.toList:=λe=>hk (toList_inj e)
      have e4:¬ x.1=key:=hk;have HK:=oh hk;clear hk hk2;go_wp2_with (first|(at_builtin;refine wpl_app2 Tryz.elP encP_ok rfl _ _ rfl w.heap.size _ _ out [(key,value)] rfl rfl (HS.out.1.ext ((Mods.refl _ _).alloc _)) (Sl.one (F:=NoF) (heap_at (by simp)) (λf=>f)) (by have:=HOL.out;simp only[List.length_cons,List.length_nil];omega) (by have:=HSZ.out;simp;omega) (λf=>f) ?_;intro a4 c4 w4 hO4 hm4 hat4;have y0:=cellM hm4 (cellE ((Mods.refl _ wr).alloc (.cells #[.string key,.string value] 111)) c0) (λe=>by have:=(HS.out.1.lt _ e).1;omega);have y1:=cellM hm4 (cellE ((Mods.refl _ wr).alloc (.cells #[.string key,.string value] 111)) c1) (λe=>by have:=(HS.out.1.lt _ e).1;omega))|(at_builtin;refine wpl_app2 Tryz.elP encP_ok rfl _ _ rfl w.heap.size _ _ (out++[(key,value)]) [x] rfl rfl (hO4.ext ((Mods.refl _ _).alloc _)) (Sl.one (F:=NoF) (heap_at (by simp)) (λf=>f)) (by have:=HOL.out;simp only[List.length_append,List.length_cons,List.length_nil];omega) (by have:=hm4.size;have:=HSZ.out;simp at *;omega) (λf=>f) ?_;intro a5 c5 w5 hO5 hm5 hat5));have HS3:Hid (Own NoF w4 w.heap.size 111 2 encP _ (out++[(key,value)])∧Ext w w4):=oh ⟨hO4,(HS.out.2.1.alloc _).trans' hm4 (λi hi e=>by have:=(HS.out.1.lt i e).1;omega)⟩;have HS4:Hid (Own NoF w5 w.heap.size 111 2 encP (.slice a5 (out.length+1+1) c5) (out++[(key,value)]++[x])∧Ext w w5∧WthI key value over l (k+1) true (out++[(key,value)]++[x])):=oh ⟨by have e:=hO5;simp only[List.length_append,List.length_cons,List.length_nil,Nat.zero_add] at e;exact e,(HS3.out.2.alloc _).trans' hm5 (λi hi e=>by have:=(HS3.out.1.lt i e).1;omega),HS.out.2.2.gt HX.out HE.out HK.out⟩;clear hO5 hm5 hat5;go_wp2_with fail;go_roundg (gk-1)
      case measure=>omega
      case rel=>exact⟨k+1,true,_,by omega,by go_num,rfl,HS4⟩
  ·have HLE:Hid (l.length≤k):=oh (by omega);have HSZ:Hid (w.heap.size≤wr.heap.size):=oh HS.out.2.1.size;have HOL:Hid (out.length≤k+1):=oh (by have:=HS.out.2.2.1;omega);have hb:w.heap.size≤wr.heap.size:=HSZ.out;cases dn with
   | true =>
    go_wp2_with fail;go_ret;exact⟨_,rfl,by rw[← HS.out.2.2.done HLE.out];exact HS.out.1,HS.out.2.1⟩
   | false =>
    go_wp2_with (at_builtin;refine wpl_app2 Tryz.elP encP_ok rfl _ _ rfl w.heap.size _ _ out [(key,value)] rfl rfl (HS.out.1.ext ((Mods.refl _ _).alloc _)) (Sl.one (F:=NoF) (heap_at (by simp)) (λf=>f)) (by have:=HOL.out;simp only[List.length_cons,List.length_nil];omega) (by have:=HSZ.out;simp;omega) (λf=>f) ?_;intro a4 c4 w4 hO4 hm4 hat4);have HS4:Hid (Own NoF w4 w.heap.size 111 2 encP _ (withP key value over l)∧Ext w w4):=oh ⟨by rw[← HS.out.2.2.last HLE.out];exact hO4,(HS.out.2.1.alloc _).trans' hm4 (λi hi e=>by have:=(HS.out.1.lt i e).1;omega)⟩;clear hO4 hm4 hat4;go_wp2_with fail;go_ret;exact⟨_,rfl,HS4.out.1,HS4.out.2⟩
end
section
variable {F:Nat→Prop}{w w' wr w2:World}
theorem pairs_any(l:List PairS)(lv:Value)(hl:Sl F w 2 encP lv l)(hlen:l.length≤900) :
  Calls Tryz.prog 64 #[lv] w (PairsRes w (pairsP l)):=by
 obtain⟨la,lc,rfl,h1,h2,h3,hll⟩:=hl;unfold maxLen at h2;have HLL:=oh hll;clear hll
 go_enter Tryz.func64, Tryz.ntmps64
 go_wp2_with fail;have HO0:Hid (Own NoF (w.alloc (.cells #[] 111)) w.heap.size 111 2 encP (.slice (some ⟨w.heap.size,0,none⟩) 0 0) []):=oh
  (Own.made (l:=([]:List PairS)) (cur:=#[]) (cap:=0) (heap_at (by simp)) (by omega) (λf=>f) (Nat.le_refl _) (by simp[maxLen]) (by simp) (by simp) (λ_=>rfl))
 have HM0:Hid (Ext w (w.alloc (.cells #[] 111))):=oh ((Mods.refl _ w).alloc _);go_loopg [3,4] l.length (λm v3 v4 wr=>∃(k:Nat),k+m=l.length∧v4=.int .i64 (k:Int)∧Hid (Own NoF wr w.heap.size 111 2 encP v3 (pairsP (l.take k))∧Ext w wr))
 case atStart=>exact⟨0,by omega,rfl,oh ⟨HO0.out,HM0.out⟩⟩
 case round =>
  obtain⟨k,hkm,rfl,HS⟩:=hrel;by_cases hlt:k<l.length
  ·obtain⟨b,off,rfl,hb,hF,hc⟩:=Sl.at HLL.out HS.out.2 (λ_ _ f=>f.elim) k hlt;obtain⟨x,hx⟩:∃x,l[k]? = some x:=⟨_,List.getElem?_eq_getElem hlt⟩;have hx':l[k]=x:=by rw[List.getElem?_eq_getElem hlt] at hx;exact Option.some.inj hx
   rw[hx'] at hc;have c0:=hc 0 _ rfl;simp only[Nat.add_zero] at c0;have c1:=hc 1 _ rfl;have HX:Hid (pairsP (l.take (k+1))=addP (pairsP (l.take k)) x):=oh (by rw[take_one l k x hx,pairsP_snoc]);clear hc hx hx';have i1:(0:Int)≤(k:Int):=by omega
   have i2:(k:Int)<(l.length:Int):=by omega
   cases hkb:keyB x.1 with
   | false =>
    have HK:=oh (key07_t x.1 wr false hkb);have HA:Hid (pairsP (l.take (k+1))=pairsP (l.take k)):=oh (by rw[HX.out];unfold addP;rw[if_neg (by rw[hkb];simp)]);clear hkb;go_wp2_with fail;refine (HK.out).mono ?_;rintro e w1 ⟨rfl,rfl⟩;go_wp2_with fail;go_roundg (gk-1)
    case measure=>omega
    case rel=>exact⟨k+1,by omega,by go_num,oh (by rw[HA.out];exact HS.out)⟩
   | true =>
    have HK:=oh (key07_t x.1 wr true hkb);by_cases hv:x.2.size≤4096
    ·have hvI:(x.2.size:Int)≤4096:=by omega
     have HA:Hid (pairsP (l.take (k+1))=withP x.1 x.2 false (pairsP (l.take k))):=oh (by rw[HX.out];unfold addP;rw[if_pos ⟨hkb,hv⟩]);have HPL:Hid ((pairsP (l.take k)).length≤900):=oh (by have:=(pairsP_ok (l.take k)).2.2;rw[List.length_take] at this;omega);have HWC:=oh (with_any (F:=NoF) (w:=wr.drew) (pairsP (l.take k)) _ ((HS.out.1.ext (Mods.refl _ wr).drew).sl encP_ok.len (by have:=HPL.out;omega)) (by have:=HPL.out;omega) x.1 x.2 false);clear hkb hv;go_wp2_with fail;refine (HK.out).mono ?_;rintro e w1 ⟨rfl,rfl⟩;go_wp2_with fail;go_region_held3 (λw'=>w'.cell? ⟨b,off+k * 2,none⟩=some (.string x.1)∧w'.cell? ⟨b,off+k * 2+1,none⟩=some (.string x.2))
      (first|(with_reducible exact⟨c0,c1⟩)|(with_reducible exact⟨y0,y1⟩)|go_keep)
      (first
       | (go_at_call 79;(with_reducible refine (HWC.out).mono ?_);rintro e w4 ⟨v4,rfl,hO4,hm4⟩;have y0:=cellE (w:=wr.drew) hm4 c0;have y1:=cellE (w:=wr.drew) hm4 c1)
       | fail)
     have HS4:Hid (Own NoF w4 w.heap.size 111 2 encP v4 (pairsP (l.take (k+1)))∧Ext w w4):=oh ⟨by rw[HA.out];exact hO4.rebase HS.out.2.size,HS.out.2.drew.trans hm4⟩;clear hO4 hm4 c0 c1 y0 y1;go_wp2_with fail;go_roundg (gk-1)
     case measure=>omega
     case rel=>exact⟨k+1,by omega,by go_num,HS4⟩
    ·have hvI:¬ (x.2.size:Int)≤4096:=by omega
     have HA:Hid (pairsP (l.take (k+1))=pairsP (l.take k)):=oh (by rw[HX.out];unfold addP;rw[if_neg (λh=>hv h.2)]);clear hkb hv;go_wp2_with fail;refine (HK.out).mono ?_;rintro e w1 ⟨rfl,rfl⟩;go_wp2_with fail;go_roundg (gk-1)
     case measure=>omega
     case rel=>exact⟨k+1,by omega,by go_num,oh (by rw[HA.out];exact HS.out)⟩
  ·have HT:Hid (l.take k=l):=oh (List.take_of_length_le (by omega));go_wp2_with fail;go_ret;exact⟨_,rfl,by have:=HS.out.1;rw[HT.out] at this;exact this,HS.out.2⟩
def FoundP(o:Option ByteArray)(w:World)(e:Ending)(w':World):Prop:=e=.returned (.tuple #[.string (o.getD e0),.bool o.isSome])∧w=w'
theorem find11_any(l:List PairS)(lv:Value)(hl:Sl F w 2 encP lv l)(hlen:l.length≤100000)(key:ByteArray) :
  Calls Tryz.prog 80 #[lv,.string key] w (FoundP (findP key l) w):=by
 obtain⟨la,lc,rfl,h1,h2,h3,hll⟩:=hl;unfold maxLen at h2;have HLL:=oh hll;clear hll
 go_enter Tryz.func80, Tryz.ntmps80
 go_wp2_with fail;go_loopg [6] l.length (λm v6 wr=>wr=w∧∃(k:Nat),k+m=l.length∧v6=.int .i64 (k:Int)∧Hid (findP key (l.take k)=none))
 case atStart=>exact⟨rfl,0,by omega,rfl,oh rfl⟩
 case round =>
  obtain⟨rfl,k,hkm,rfl,HS⟩:=hrel;by_cases hlt:k<l.length
  ·obtain⟨b,off,rfl,hb,hF,hc⟩:=Sl.at HLL.out (Mods.refl F wr) (λ_ _ f=>f) k hlt;obtain⟨x,hx⟩:∃x,l[k]? = some x:=⟨_,List.getElem?_eq_getElem hlt⟩;have hx':l[k]=x:=by rw[List.getElem?_eq_getElem hlt] at hx;exact Option.some.inj hx
   rw[hx'] at hc;have c0:=hc 0 _ rfl;simp only[Nat.add_zero] at c0;have c1:=hc 1 _ rfl;have HX:=oh hx;clear hc hx hx';have i1:(0:Int)≤(k:Int):=by omega
   have i2:(k:Int)<(l.length:Int):=by omega
   by_cases hk:x.1=key
   ·subst hk;have HR:Hid (findP x.1 l=some x.2):=oh (by
     have e:l=l.take k++x :: l.drop (k+1):=by rw[← drop_of HX.out,List.take_append_drop]
     rw[e,findP_append,HS.out,findP_cons,if_pos rfl];rfl)
    go_wp2_with fail;go_ret2
    exact⟨by rw[HR.out];rfl,rfl⟩
   ·have e3:(x.1.toList == key.toList)=false:=beq_eq_false_iff_ne.2 (λe=>hk (toList_inj e));have HS2:Hid (findP key (l.take (k+1))=none):=oh (by rw[take_one l k x HX.out,findP_append,HS.out,findP_cons,if_neg hk];rfl);go_wp2_with fail;go_roundg (gk-1)
    case measure=>omega
    case rel=>exact⟨rfl,k+1,by omega,by go_num,HS2⟩
  ·have HT:Hid (findP key l=none):=oh (by have:=HS.out;rwa [List.take_of_length_le (by omega)] at this);go_wp2_with fail;go_ret2
   exact⟨by rw[HT.out];rfl,rfl⟩
end
end
end Go.Proofs.YtdnbmdghmmpgcaaGreatDoor
