import Derived.Test.YtalpfcaakpgkmaaGreatDoorRows
import Derived.LaidEql
import Derived.Stop.Asserts
import Derived.RowKitTokens
import Derived.Lib.Hide
import Derived.Deep.LoopGhost
import Derived.Laws.BitsAllLaws
import Derived.Test.YtalpfcaakpgkmaaGreatDoorR03
namespace Go.Proofs.YtalpfcaakpgkmaaGreatDoor
open Lib renaming hid->oh
section
open Go.RowKit Go.Extern.Stop Go.Stop Go.Extern
abbrev zP(b:Nat):Value:=.iface 170 (.pointer (some ⟨b,0,none⟩))
inductive vN (F:NP) (ad:Nat->Addr) (w:World):Value->List Int->NP
 | sent (k:Nat):1<=k->k<=9->vN F ad w (.iface 448 (.pointer (some (ad k)))) [] k
 | wrap (b:Nat) (op:ByteArray) (pg:Int) (v:Value) (l:List Int) (k:Nat):b<w.heap.size->¬ F b ->
   w.heap[b]? = some (.cells #[.string op,.int .i64 pg,v] 172 (0,0))->vN F ad w v l k ->
   vN F ad w (.iface 170 (.pointer (some ⟨b,0,none⟩))) (pg :: l) k
def zEZ(ad:Nat->Addr):Prop:=(ad 0).off=0
structure yH(F:NP)(ad:Nat->Addr)(w:World):Prop where
 c1:w.cell? ⟨3,0,none⟩=some (.iface 448 (.pointer (some (ad 1))))
 c2:w.cell? ⟨0,0,none⟩=some (.iface 448 (.pointer (some (ad 2))))
 c3:w.cell? ⟨4,0,none⟩=some (.iface 448 (.pointer (some (ad 3))))
 c5:w.cell? ⟨2,0,none⟩=some (.iface 448 (.pointer (some (ad 5))))
 c7:w.cell? ⟨1,0,none⟩=some (.iface 448 (.pointer (some (ad 7))))
 c4:zEZ ad->w.cell? ⟨5,0,none⟩=some (.iface 448 (.pointer (some (ad 4))))
 c6:zEZ ad->w.cell? ⟨6,0,none⟩=some (.iface 448 (.pointer (some (ad 6))))
 c8:zEZ ad->w.cell? ⟨7,0,none⟩=some (.iface 448 (.pointer (some (ad 8))))
 c9:zEZ ad->w.cell? ⟨8,0,none⟩=some (.iface 448 (.pointer (some (ad 9))))
 ne:zEZ ad->∀i j,1<=i->i<=9->1<=j->j<=9->ad i=ad j->i=j
 row:zEZ ad->∀i,1<=i->i<=9->∃c t,w.heap[(ad i).block]? = some (.cells c t (0,0))
 size:5 <= w.heap.size
 nF:∀k,k<5 -> ¬ F k
 sizeF:zEZ ad->9 <= w.heap.size
 nFF:zEZ ad->∀k,k<9 -> ¬ F k
 nA:zEZ ad->∀i,1<=i->i<=9->¬ F (ad i).block
 lt:∀k,F k->k<w.heap.size
section
variable {F G:NP}{ad:Nat->Addr}{w w':World}{v:Value}{l:List Int}{k:Nat}
theorem vN.step(h:vN F ad w v l k)(m:zA F w w')(hG:∀k,k<w.heap.size->¬ F k->¬ G k):vN G ad w' v l k:=by
 induction h with
 | sent k h1 h2=>exact .sent k h1 h2
 | wrap b op pg v l k hb hF hc _ ih=>exact .wrap b op pg v l k (uF hb m.size) (hG b hb hF) ((m.block b hb hF).trans hc) ih
theorem vN.mods(h:vN F ad w v l k)(m:zA F w w'):vN F ad w' v l k:=h.step m (λ_ _ h=>h)
theorem vN.code(h:vN F ad w v l k):1<=k/\k<=9:=by
 induction h with
 | sent k h1 h2=>exact⟨h1,h2⟩
 | wrap _ _ _ _ _ _ _ _ _ _ ih=>exact ih
theorem vN.iface(h:vN F ad w v l k):∃t x,v=.iface t x:=by cases h <;> exact⟨_,_,rfl⟩
theorem yH.step(h:yH F ad w)(m:zA F w w')(hG:∀k,k<w.heap.size->¬ F k->¬ G k)(hz:∀k,G k->k<w'.heap.size):yH G ad w':=by
 have A1:=h.size;have hr:zEZ ad->∀i,1<=i->i<=9->(ad i).block<w.heap.size:=λhf i h1 h2=>by
  obtain⟨c,t,hc⟩:=h.row hf i h1 h2;exact (tC.1 hc).1
 have hc:∀g,g<5 -> w'.cell? ⟨g,0,none⟩=w.cell? ⟨g,0,none⟩:=λg hg=>m.cell (by omega) (h.nF g hg)
 have Af:zEZ ad->∀g,g<9 -> w'.cell? ⟨g,0,none⟩=w.cell? ⟨g,0,none⟩:=λhf g hg=>m.cell (by have:=h.sizeF hf;omega) (h.nFF hf g hg)
 exact⟨(hc _ (by decide)).trans h.c1,(hc _ (by decide)).trans h.c2,(hc _ (by decide)).trans h.c3,(hc _ (by decide)).trans h.c5,(hc _ (by decide)).trans h.c7,
  λhf=>(Af hf _ (by decide)).trans (h.c4 hf),λhf=>(Af hf _ (by decide)).trans (h.c6 hf),λhf=>(Af hf _ (by decide)).trans (h.c8 hf),λhf=>(Af hf _ (by decide)).trans (h.c9 hf),h.ne,
  λhf i h1 h2=>by rw[m.block _ (hr hf i h1 h2) (h.nA hf i h1 h2)];exact h.row hf i h1 h2,
  uP h.size m.size,λk hk=>hG k (by omega) (h.nF k hk),λhf=>uP (h.sizeF hf) m.size,λhf k hk=>hG k (by have:=h.sizeF hf;omega) (h.nFF hf k hk),λhf i h1 h2=>hG _ (hr hf i h1 h2) (h.nA hf i h1 h2),hz⟩
theorem yH.mods(h:yH F ad w)(m:zA F w w'):yH F ad w':=h.step m (λ_ _ h=>h) (λk hk=>uF (h.lt k hk) m.size)
theorem yH.new(h:yH F ad w):¬ F w.heap.size:=λf=>pB _ (h.lt _ f)
theorem vN.fault(he:vN F ad w v l k)(hL:yH F ad w)(op:ByteArray)(pg:Int) :
  vN F ad (w.alloc (.cells #[.string op,.int .i64 pg,v] 172)) (zP w.heap.size) (pg :: l) k :=
 .wrap _ op pg v l k (by simp) hL.new (heap_alloc_new w _) (he.mods ((zA.refl F w).alloc _))
end
theorem Tryz.isTypeOf(v:Value)(w:World):(callFunc 182 #[.iface 448 v]).run Tryz.prog w=.ok (.value (.iface 385 (.agg #[.pointer (some ⟨9,448,none⟩)]))) w:=by kernel_rfl
theorem Tryz.isComparable(w:World):(callFunc 354 #[.agg #[.pointer (some ⟨9,448,none⟩)]]).run Tryz.prog w=.ok (.value (.bool true)) w:=by kernel_rfl
theorem Tryz.isComp:(Tryz.prog.info? 448).map (·.comparable)=some true:=by kernel_rfl
theorem Tryz.isSize:(Tryz.prog.info? 471).map (·.size)=some 1:=by kernel_rfl
theorem Tryz.noIsE(v:Value)(xT:TypeId)(w:World):(Instr.typeAssert (.iface 448 v) xT 387 true).run Tryz.prog w=.ok (.tuple #[.nilIface,.bool false]) w:=run_typeAssert_lacksB Tryz.underlying387 (by kernel_rfl) (by kernel_rfl) v xT w
theorem Tryz.noUnwrapE(v:Value)(xT:TypeId)(w:World):(Instr.typeAssert (.iface 448 v) xT 390 true).run Tryz.prog w=.ok (.tuple #[.nilIface,.bool false]) w:=run_typeAssert_lacksB Tryz.underlying390 (by kernel_rfl) (by kernel_rfl) v xT w
theorem Tryz.noUnwrapsE(v:Value)(xT:TypeId)(w:World):(Instr.typeAssert (.iface 448 v) xT 391 true).run Tryz.prog w=.ok (.tuple #[.nilIface,.bool false]) w:=run_typeAssert_lacksB Tryz.underlying391 (by kernel_rfl) (by kernel_rfl) v xT w
theorem Tryz.noIsW(v:Value)(xT:TypeId)(w:World):(Instr.typeAssert (.iface 170 v) xT 387 true).run Tryz.prog w=.ok (.tuple #[.nilIface,.bool false]) w:=run_typeAssert_lacksB Tryz.underlying387 (by kernel_rfl) (by kernel_rfl) v xT w
theorem Tryz.hasUnwrapW(v:Value)(xT:TypeId)(w:World):(Instr.typeAssert (.iface 170 v) xT 390 true).run Tryz.prog w=.ok (.tuple #[.iface 170 v,.bool true]) w:=run_typeAssert_hasB Tryz.underlying390 (by kernel_rfl) v xT w
set_option maxRecDepth 1000000 in
theorem zRU{F:NP}{ad:Nat->Addr}{W:World}(hL:yH F ad W)(A2:zEZ ad)(j:Nat)(h1:1<=j)(h9:j<=9)(v:Value)(l:List Int)(k:Nat)(he:vN F ad W v l k) :
  Calls Tryz.prog 183 #[v,.iface 448 (.pointer (some (ad j))),.bool true] W λe w'=>e=.returned (.bool (k == j))/\W=w':=by
 obtain⟨i,hi,Ac⟩:=rA.1 Tryz.isComp;obtain⟨jz,hj,As⟩:=rA.1 Tryz.isSize;obtain⟨cb,tb,hb⟩:=hL.row A2 j h1 h9;have nE:=Tryz.noIsE;have uE:=Tryz.noUnwrapE;have vE:=Tryz.noUnwrapsE;have nW:=Tryz.noIsW;have uW:=Tryz.hasUnwrapW;have HL:=oh hL;have A9:=oh A2;clear hL A2
 go_enter Tryz.func183, Tryz.ntmps183
 go_wp2
 go_loopg [0] l.length (λn E' wl=>wl=W/\∃l',l'.length=n/\vN F ad W E' l' k)
 case atStart=>exact⟨rfl,l,rfl,he⟩
 case round =>
  obtain⟨rfl,l',hn,hc'⟩:=hrel;cases hc' with
  | sent _ k1 k9 =>
   by_cases Ag:k=j
   .subst Ag;have Au:=run_eql_iface_ptr_same (P:=Tryz.prog) wr (ad k) Tryz.underlying39 Tryz.underlying448 hi Ac hj;go_wp2
    go_ret;exact⟨by simp,rfl⟩
   .obtain⟨ca,ta,ha⟩:=HL.out.row A9.out k k1 k9;have Au:=run_eql_iface_ptr_other (P:=Tryz.prog) wr Tryz.underlying39 Tryz.underlying448 hi Ac hj (by rw[As];decide) (λe=>Ag (HL.out.ne A9.out k j k1 k9 h1 h9 e)) ha hb;go_wp2
    go_ret;exact⟨by simp[Ag],rfl⟩
  | wrap b op pg v1 l1 _ B4 hF A6 h2 =>
   have B5:=run_eql_iface_types (P:=Tryz.prog) 170 448 (.pointer (some ⟨b,0,none⟩)) (.pointer (some (ad j))) Tryz.underlying39 (by decide) wr;obtain⟨t1,x1,rfl⟩:=h2.iface;have HC:=oh h2;clear h2;have B6:wr.cell? ⟨b,2,none⟩=some (.iface t1 x1):=by rw[qS A6];rfl
   have HN:=oh hn;clear hn A6;go_wp2
   go_roundg l1.length
   case measure=>have:=HN.out;simp at this;omega
   case rel=>exact⟨rfl,l1,rfl,HC.out⟩
theorem zSS{F:NP}{ad:Nat->Addr}{W:World}(hL:yH F ad W)(A2:zEZ ad)(j:Nat)(h1:1<=j)(h9:j<=9)(v:Value)(l:List Int)(k:Nat)(he:vN F ad W v l k) :
  Calls Tryz.prog 107 #[v,.iface 448 (.pointer (some (ad j)))] W λe w'=>e=.returned (.bool (k == j))/\W=w':=by
 have tT:=Tryz.isTypeOf;have cT:=Tryz.isComparable;obtain⟨t,x,rfl⟩:=he.iface;have HL:=oh hL;have A9:=oh A2;clear hL A2
 go_enter Tryz.func107, Tryz.ntmps107
 go_wp2_with (go_at_call 183;refine (zRU HL.out A9.out j h1 h9 _ l k he).mono ?_;rintro e w' ⟨rfl,rfl⟩);go_ret;exact⟨rfl,rfl⟩
theorem zP4{F:NP}{ad:Nat->Addr}{W:World}(hL:yH F ad W)(A2:zEZ ad)(v:Value)(l:List Int)(k:Nat)(he:vN F ad W v l k) :
  Calls Tryz.prog 55 #[v] W λe w'=>e=.returned (.int .i64 k)/\W=w':=by
 have hk:=he.code;have c1:=hL.c1;have c2:=hL.c2;have c3:=hL.c3;have c4:=hL.c4 A2;have c5:=hL.c5;have c6:=hL.c6 A2;have c7:=hL.c7;have c8:=hL.c8 A2;have c9:=hL.c9 A2;obtain⟨t,x,rfl⟩:=he.iface;have HL:=oh hL;have A9:=oh A2;clear hL A2;obtain rfl|rfl|rfl|rfl|rfl|rfl|rfl|rfl|rfl:k=1\/k=2\/k=3\/k=4\/k=5\/k=6\/k=7\/k=8\/k=9:=by omega
 all_goals
  clear hk
  go_enter Tryz.func55, Tryz.ntmps55
  go_wp2_with (go_at_call 107;refine (zSS HL.out A9.out _ (by decide) (by decide) _ l _ he).mono ?_;rintro e w' ⟨rfl,rfl⟩);go_ret;exact⟨rfl,rfl⟩
theorem zP5(W:World) : Calls Tryz.prog 55 #[.nilIface] W λe w'=>e=.returned (.int .i64 0)/\W=w':=by
 go_enter Tryz.func55, Tryz.ntmps55
 go_wp2
 go_ret;exact⟨rfl,rfl⟩
theorem vI{F:NP}{ad:Nat->Addr}{w:World}(hL:yH F ad w)(op:ByteArray)(v:Value)(l:List Int)(k:Nat)(he:vN F ad w v l k) :
  Calls Tryz.prog 76 #[.string op,v] w λe w'=>∃b,e=.returned (zP b)/\vN F ad w' (zP b) (-1 :: l) k/\zF w w':=by
 obtain⟨t,x,rfl⟩:=he.iface;have HF:=oh (he.fault hL op (-1));have HL:=oh hL;clear hL he
 go_enter Tryz.func76, Tryz.ntmps76
 go_wp2
 go_ret;exact⟨_,rfl,HF.out,zr.alloc _⟩
theorem wrap_any {F : Nat -> Prop} {ad : Nat -> Addr} {w : World} (hL : yH F ad w) (op : ByteArray) (v : Value) (l : List Int) (k : Nat) (he : vN F ad w v l k) :
    Calls Tryz.prog 43 #[.string op, v] w fun e w' => ∃ b, e = .returned (zP b) /\ vN F ad w' (zP b) (-1 :: l) k /\ zF w w' := by
  obtain ⟨t, x, rfl⟩ := he.iface
  have HF := oh (he.fault hL op (-1))
  have HL := oh hL
  clear hL he
  go_enter Tryz.func43, Tryz.ntmps43
  go_wp2
  go_ret
  exact ⟨_, rfl, HF.out, zr.alloc _⟩
theorem wrap_nil (op : ByteArray) (w : World) : Calls Tryz.prog 43 #[.string op, .nilIface] w fun e w' => e = .returned .nilIface /\ w = w' := by
  go_enter Tryz.func43, Tryz.ntmps43
  go_wp2
  go_ret
  exact ⟨rfl, rfl⟩
end
section
open Go.RowKit
def zBz(pg:Int):Int:=if pg < -1 then -1 else pg
theorem zAF{F:NP}{ad:Nat->Addr}{w:World}(hL:yH F ad w)(op:ByteArray)(pg:Int)(v:Value)(l:List Int)(k:Nat)(he:vN F ad w v l k) :
  Calls Tryz.prog 60 #[.string op,.int .i64 pg,v] w λe w'=>∃b,e=.returned (zP b)/\vN F ad w' (zP b) ((zBz pg) :: l) k/\zF w w':=by
 obtain⟨t,x,rfl⟩:=he.iface;have HF:=oh (he.fault hL op (zBz pg));unfold zBz at HF ⊢;have HL:=oh hL;clear hL he;by_cases h:pg < -1
 .rw[if_pos h] at HF ⊢
  go_enter Tryz.func60, Tryz.ntmps60
  go_wp2
  go_ret;exact⟨_,rfl,HF.out,zr.alloc _⟩
 .rw[if_neg h] at HF ⊢
  go_enter Tryz.func60, Tryz.ntmps60
  go_wp2
  go_ret;exact⟨_,rfl,HF.out,zr.alloc _⟩
abbrev Err:=List Int × Nat
def zN1:Option Err->Option Err
 | none=>none
 | some (l,k)=>some (-1 :: l,k)
def zAb(F:NP)(ad:Nat->Addr)(w:World)(ev:Value):Option Err->Prop
 | none=>ev=.nilIface
 | some (l,k)=>∃b,ev=zP b/\vN F ad w (zP b) l k
section
variable {F G:NP}{ad:Nat->Addr}{w w':World}{ev:Value}{o:Option Err}
theorem zAb.step(h:zAb F ad w ev o)(m:zA F w w')(hG:∀k,k<w.heap.size->¬ F k->¬ G k):zAb G ad w' ev o:=by
 match o,h with
 | none,h=>exact h
 | some (l,k),⟨b,h1,h2⟩=>exact⟨b,h1,h2.step m hG⟩
theorem zAb.mods(h:zAb F ad w ev o)(m:zA F w w'):zAb F ad w' ev o:=h.step m (λ_ _ h=>h)
end
theorem wrap_res {F : Nat -> Prop} {ad : Nat -> Addr} {w : World} (hL : yH F ad w) (op : ByteArray) (ev : Value) (o : Option Err) (he : zAb F ad w ev o) :
    Calls Tryz.prog 43 #[.string op, ev] w fun e w' => ∃ ev', e = .returned ev' /\ zAb F ad w' ev' (zN1 o) /\ zF w w' := by
  match o, he with
  | none, he =>
    cases he
    exact (wrap_nil op w).mono fun e w' ⟨h1, h2⟩ => ⟨_, h1, rfl, h2 ▸ zA.refl _ _⟩
  | some (l, k), ⟨b, h1, h2⟩ =>
    subst h1
    exact (wrap_any hL op _ l k h2).mono fun e w' ⟨b', h3, h4, h5⟩ => ⟨_, h3, ⟨b', rfl, h4⟩, h5⟩
theorem zOg(n:Nat)(h:n<256)(w:World) : Calls Tryz.prog 276 #[.int .u8 (n:Int)] w λe w'=>e=.returned (.int .u32 (zCW n:Int))/\w=w':=by
 go_enter Tryz.func276, Tryz.ntmps276
 go_wp2
 go_loopg [3,7] 8 (λm r i wr=>∃k q:Nat,wr=w/\k+m=8/\i=.int .i64 k/\r=.int .u32 (q:Int)/\q<4294967296/\Hid (zAD m q=zCW n))
 case atStart=>exact⟨0,n,rfl,rfl,rfl,by simp,by omega,oh rfl⟩
 case round =>
  obtain⟨k,q,rfl,hk,rfl,rfl,hq,HQ⟩:=hrel;have A8:bits .and .u32 (q:Int) 1=((q % 2:Nat):Int):=by
   have:=u32_and_nat q 1 hq (by decide);rw[nat_mask1] at this;exact this
  have A0:bits .xor .u32 ((q:Int) / 2) 3988292384=(((q / 2) ^^^ 3988292384:Nat):Int):=by
   have:=u32_xor_nat (q / 2) 3988292384 (by omega) (by decide);simpa using this
  by_cases A5:k<8
  .obtain⟨m,rfl⟩:∃m,gk=m+1:=⟨gk-1,by omega⟩;have A3:=zDC q hq;by_cases A4:q % 2=1
   .have hs:Hid (zAC q=(q / 2) ^^^ 3988292384):=oh (by unfold zAC;rw[if_pos A4]);have hb:(((q % 2:Nat):Int) == 1)=true:=by rw[A4];rfl
    have HX:=oh A0;clear A4;go_wp2
    go_roundg m
    case measure=>omega
    case rel=>exact⟨k+1,zAC q,rfl,by omega,by go_num,by rw[hs.out],A3,HQ⟩
   .have hs:Hid (zAC q=q / 2):=oh (by unfold zAC;rw[if_neg A4]);have hb:(((q % 2:Nat):Int) == 1)=false:=by
     have e:q % 2=0:=by omega
     rw[e];rfl
    clear A4 A0;go_wp2
    go_roundg m
    case measure=>omega
    case rel=>exact⟨k+1,zAC q,rfl,by omega,by go_num,by rw[hs.out];exact zC1 (by omega),A3,HQ⟩
  .obtain rfl:gk=0:=by omega
   have Aa:Hid (q=zCW n):=HQ;clear A8 A0;go_wp2
   go_ret;exact⟨zKE (by rw[Aa.out]),rfl⟩
theorem zP6{F:NP}(s:Nat)(hs:s<4294967296)(bv:Value)(l:List UInt8)(w:World)(hb:Sl F w 1 zZ bv l) :
  Calls Tryz.prog 210 #[.int .u32 (s:Int),bv] w λe w'=>e=.returned (.int .u32 ((4294967295 ^^^ zBb (4294967295 ^^^ s) l:Nat):Int))/\w=w':=by
 obtain⟨a,cap,rfl,h1,h2,h3,h4⟩:=hb;unfold maxLen at h2;have Ah:∀q:Nat,q<4294967296->bits .xor .u32 IntKind.u32.max (q:Int)=((4294967295 ^^^ q:Nat):Int):=by
  intro q hq;exact u32_xor_nat 4294967295 q (by decide) hq
 have Av:=Ah s hs;have Ad:4294967295 ^^^ s<4294967296:=wU (n:=32) (by decide) hs;obtain⟨t,ht⟩:∃t,t=4294967295 ^^^ s:=⟨_,rfl⟩;rw[<- ht] at Av Ad ⊢;clear ht;have HX:=oh Ah;clear Ah
 go_enter Tryz.func210, Tryz.ntmps210
 go_wp2
 go_loopg [5,12] l.length (λm r i wr=>∃k q:Nat,wr=w/\k+m=l.length/\i=.int .i64 k/\r=.int .u32 (q:Int)/\q<4294967296/\Hid (zBb q (l.drop k)=zBb t l))
 case atStart=>exact⟨0,t,rfl,by omega,rfl,rfl,Ad,oh (by rw[List.drop_zero])⟩
 case round =>
  obtain⟨k,q,rfl,hk,rfl,rfl,hq,HQ⟩:=hrel;by_cases A5:k<l.length
  .obtain⟨b,off,rfl,hb,hF,hc⟩:=Sl.atE h4 zr k A5;obtain⟨x,hx⟩:∃x,x=l[k]:=⟨_,rfl⟩;have Aw:=hc 0 (.int .u8 (x.toNat:Int)) (by rw[hx];rfl);simp only[wC,uT] at Aw;have Ak:x.toNat<256:=x.toNat_lt;have A8:bits .xor .u8 ((q:Int) % 256) (x.toNat:Int)=(((q % 256) ^^^ x.toNat:Nat):Int):=by
    have:=u8_xor_nat (q % 256) x.toNat (by omega) Ak;simpa using this
   have hy:=wU (n:=8) (x:=q % 256) (y:=x.toNat) (by omega) (by omega);have he:=zGq _ hy;have A0:bits .xor .u32 ((q:Int) / 256) (zCW ((q % 256) ^^^ x.toNat):Int)=((zDV q x.toNat:Nat):Int):=by
    have:=u32_xor_nat (q / 256) _ (by omega) he;simpa[zDV] using this
   have HD:Hid (zBb (zDV q x.toNat) (l.drop (k+1))=zBb q (l.drop k)):=oh (by rw[wD A5,hx];rfl);have A3:=zHo q x.toNat hq Ak;obtain⟨y,Al⟩:∃y,y=(q % 256) ^^^ x.toNat:=⟨_,rfl⟩;rw[<- Al] at A8 hy he A0;obtain⟨z,A1⟩:∃z,z=zCW y:=⟨_,rfl⟩;have HZ:=oh A1;rw[<- A1] at he A0;obtain⟨q2,Aa⟩:∃q2,q2=zDV q x.toNat:=⟨_,rfl⟩;rw[<- Aa] at A3 A0 HD;clear hc hx Al A1 Aa h4;go_wp2_with fail;refine (zOg y hy _).mono ?_;rintro e w1 ⟨rfl,rfl⟩;rw[<- HZ.out];go_wp2
   go_roundg (gk-1)
   case measure=>omega
   case rel=>exact⟨k+1,q2,rfl,by omega,by go_num,rfl,A3,oh (HD.out.trans HQ.out)⟩
  .have Aa:Hid (q=zBb t l):=oh (by have:=HQ.out;rw[tG (by omega)] at this;exact this);have Am:((k:Nat):Int)=l.length:=by omega
   have B7:=HX.out q hq;go_wp2
   go_ret;exact⟨zKE (by rw[Aa.out]),rfl⟩
theorem zRV{F:NP}(bv:Value)(l:List UInt8)(w:World)(hb:Sl F w 1 zZ bv l) :
  Calls Tryz.prog 130 #[bv] w λe w'=>e=.returned (.int .u32 (zDB l:Int))/\w=w':=by
 have HB:=oh hb;obtain⟨a,cap,rfl,h1,h2,h3,h4⟩:=hb
 go_enter Tryz.func130, Tryz.ntmps130
 go_wp2_with fail;refine (zP6 0 (by decide) _ l _ HB.out).mono ?_;rintro e w1 ⟨rfl,rfl⟩;go_wp2
 go_ret;exact⟨rfl,rfl⟩
theorem zGY(n:Int)(w:World)(h0:0<=n)(h1:n<=9223372036854775807) : Calls Tryz.prog 308 #[.int .i64 n] w λe w'=>e=.returned (.int .i64 (n-28))/\w=w':=by
 have e:n-24-4=n-28:=by omega
 have E:=oh e;clear e
 go_enter Tryz.func308, Tryz.ntmps308
 go_wp2
 go_ret;exact⟨by rw[<- E.out];rfl,rfl⟩
theorem zP7(n size:Int)(w:World)(h0 : -9223372036854775808<=n)(h1:n<=9223372036854775807) : Calls Tryz.prog 314 #[.int .i64 n,.int .i64 size] w λe w'=>e=.returned (.int .i64 (zDG n size))/\w=w':=by
 by_cases hc:n<1\/size<256\/1024<size
 .have hr:zDG n size=0:=by unfold zDG;rw[if_pos hc]
  have HR:=oh hr;clear hr;rcases hc with hc|hc|hc
  .go_enter Tryz.func314, Tryz.ntmps314
   go_wp2
   go_ret;exact⟨by rw[HR.out];rfl,rfl⟩
  .by_cases hn:n<1
   all_goals
    go_enter Tryz.func314, Tryz.ntmps314
    go_wp2
    go_ret;exact⟨by rw[HR.out];rfl,rfl⟩
  .by_cases hn:n<1
   all_goals
    by_cases hs:size<256
    all_goals
     go_enter Tryz.func314, Tryz.ntmps314
     go_wp2
     go_ret;exact⟨by rw[HR.out];rfl,rfl⟩
 .have hr:zDG n size=(n-1) / (size-28)+1:=by unfold zDG;rw[if_neg hc]
  have HR:=oh hr;clear hr;have h2:0<=(n-1) / (size-28):=Int.ediv_nonneg (by omega) (by omega);have h3:(n-1) / (size-28)<=n-1:=Int.ediv_le_self _ (by omega);have h4:1<=n/\256<=size/\size<=1024:=by omega
  obtain⟨h4,h5,h6⟩:=h4;clear hc
  go_enter Tryz.func314, Tryz.ntmps314
  go_wp2_with (go_at_call 308;refine (zGY _ _ (by omega) (by omega)).mono ?_;rintro e w' ⟨rfl,rfl⟩);go_ret;exact⟨by rw[HR.out];rfl,rfl⟩
theorem zBk(s:ByteArray)(w:World) : Calls Tryz.prog 175 #[.string s] w λe w'=>e=.returned (.bool (jO s))/\w=w':=by
 by_cases h1:1<=(s.size:Int)
 all_goals
  have h2:=oh h1
  go_enter Tryz.func175, Tryz.ntmps175
  go_wp2
  go_ret;exact⟨yB (by have:=h2.out;simp only[jO];first|(rw[wL this];simp)|(rw[wM (by omega)];simp)),rfl⟩
theorem zP8(l:List zM)(k:Nat)(h:k<l.length):yM (l.take (k+1))=yM (l.take k)+zAB l[k]:=by
 rw[vO l k l[k] (by simp[h]),zAK];simp[yM]
theorem zP9(l:List ByteArray)(k:Nat)(h:k<l.length):yW (l.take (k+1))=yW (l.take k)+(5+(l[k].size:Int)):=by
 rw[vO l k l[k] (by simp[h]),jP];simp[yW]
set_option maxHeartbeats 400000 in
theorem zHz{F:NP}(n:zI)(ve vk vi:Value)(w:World)(Ax:Sl F w 4 zAQ ve n.entries)(Ay:Sl F w 1 vW vk n.keys)(hb:zH n<=4611686018427387904) :
  Calls Tryz.prog 293 #[.agg #[.bool n.leaf,ve,vk,vi]] w λe w'=>e=.returned (.int .i64 (zH n))/\zF w w':=by
 obtain⟨ae,ce,rfl,B8,Az,B9,Ai⟩:=Ax;obtain⟨ak,ck,rfl,Ba,Am,Bb,An⟩:=Ay;unfold maxLen at Az Am;have Bc:=zAt n.keys;have Bd:=zAe n.entries;obtain⟨L,hL⟩:∃L:Int,L=if n.leaf then 0 else 4:=⟨_,rfl⟩
 have Ao:zH n=2+L+yM n.entries+yW n.keys:=by rw[hL];rfl
 have Aj:0<=L/\L<=4:=by rw[hL];split <;> omega
 obtain⟨Be,Bf⟩:=Aj;have Bg:2+L+yM n.entries+yW n.keys<=4611686018427387904:=by omega
 have HW:=oh Ao;clear Ao hb;cases A7:n.leaf
 all_goals
  have HL:Hid (L=_):=oh (by rw[hL,A7]);clear hL A7
  go_enter Tryz.func293, Tryz.ntmps293
  go_wp2
  go_loopg [3,16] n.entries.length (λm t i wr=>∃k:Nat,∃z:Int,k+m=n.entries.length/\i=.int .i64 k/\t=.int .i64 z/\Hid (z=2+L+yM (n.entries.take k))/\zF w wr/\wr.cell? ⟨w.heap.size,2,none⟩=some (.slice ak n.keys.length ck))
  case atStart=>exact⟨0,_,by omega,rfl,rfl,by have:=HL.out;simp at this;simp[Hid,yM,this],zr.alloc _,by go_cell⟩
  case round =>
   obtain⟨k,z,hk,rfl,rfl,HZ,hm,Ap⟩:=hrel;have Aq:=zBv n.entries k;have Ad:=zAe (n.entries.take k);have Bh:0<=z:=by rw[HZ.out];omega
   have Bi:z<=4611686018427387904:=by rw[HZ.out];omega
   by_cases A5:k<n.entries.length
   .obtain⟨b,off,rfl,hb,hF,hc⟩:=Sl.at Ai hm (λ_ _ f=>f.elim) k A5;have c0:=hc 0 _ rfl;simp only[uT] at c0;have c1:=hc 1 _ rfl;have c2:=hc 2 _ rfl;have c3:=hc 3 _ rfl;clear hc Ai;have hs:=zP8 n.entries k A5;have B0:=zBv n.entries (k+1);have Ab:zAB n.entries[k]=2+n.entries[k].key.size+(if n.entries[k].chain=0 then 1+(n.entries[k].value.size:Int) else 8):=rfl;by_cases A1:n.entries[k].chain=0
    .rw[if_pos A1] at Ab;have B1:(n.entries[k].chain == 0)=true:=rE.2 A1;have Bj:2+L+yM (n.entries.take k)+(2+n.entries[k].key.size+(1+(n.entries[k].value.size:Int)))<=4611686018427387904:=by omega
     have Ar:z+(2+n.entries[k].key.size+(1+(n.entries[k].value.size:Int)))<=4611686018427387904:=by rw[HZ.out];omega
     have HS:=oh hs;have HE:=oh Ab;have H0:=oh A1;clear hs Ab A1;go_wp2
     go_roundg (gk-1)
     case measure=>omega
     case rel=>exact⟨k+1,_,by omega,by go_num,rfl,oh (by rw[HS.out,HE.out,HZ.out];omega),((hm.alloc _)),zR Ap _⟩
    .rw[if_neg A1] at Ab;have B1:(n.entries[k].chain == 0)=false:=uR.2 A1;have Ar:z+(2+n.entries[k].key.size+8)<=4611686018427387904:=by rw[HZ.out];omega
     have HS:=oh hs;have HE:=oh Ab;have H0:=oh A1;clear hs Ab A1;go_wp2
     go_roundg (gk-1)
     case measure=>omega
     case rel=>exact⟨k+1,_,by omega,by go_num,rfl,oh (by rw[HS.out,HE.out,HZ.out];omega),((hm.alloc _)),zR Ap _⟩
   .have Ae:k=n.entries.length:=by omega
    have B2:Hid (z=2+L+yM n.entries):=oh (by rw[HZ.out,Ae,wZ]);clear HZ Ae Ai Aq Ad;go_wp2
    obtain⟨wo,rfl⟩:∃wo:World,wo=wr:=⟨_,rfl⟩;go_loopg [3,41] n.keys.length (λm t i wr=>∃k:Nat,∃y:Int,k+m=n.keys.length/\i=.int .i64 k/\t=.int .i64 y/\Hid (y=2+L+yM n.entries+yW (n.keys.take k))/\zF w wr)
    case atStart=>exact⟨0,_,by omega,rfl,rfl,oh (by rw[B2.out];simp[yW]),hm⟩
    case round =>
     obtain⟨k,y,hk,rfl,rfl,HY,hm⟩:=hrel;have Aq:=zC2 n.keys k;have Ad:=zAt (n.keys.take k);have Bk:0<=y:=by rw[HY.out];omega
     have Bl:y<=4611686018427387904:=by rw[HY.out];omega
     by_cases A5:k<n.keys.length
     .obtain⟨b,off,rfl,hb,hF,hc⟩:=Sl.at An hm (λ_ _ f=>f.elim) k A5;have c0:=hc 0 _ rfl;simp only[wC,uT] at c0;clear hc An;have hs:=zP9 n.keys k A5;have B0:=zC2 n.keys (k+1);have Ar:y+(5+(n.keys[k].size:Int))<=4611686018427387904:=by rw[HY.out];omega
      have HS:=oh hs;clear hs;go_wp2
      go_roundg (gk-1)
      case measure=>omega
      case rel=>exact⟨k+1,_,by omega,by go_num,rfl,oh (by rw[HS.out,HY.out];omega),hm⟩
     .have Ae:k=n.keys.length:=by omega
      have B3:Hid (y=zH n):=oh (by rw[HY.out,Ae,wZ,HW.out]);clear HY Ae;go_wp2
      go_ret;exact⟨zKE B3.out,hm⟩
end
end Go.Proofs.YtalpfcaakpgkmaaGreatDoor
