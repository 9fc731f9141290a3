import Derived.Test.YtgphfebjjedeaaaGreatDoorRows
import Derived.LaidEql
import Derived.Stop.Asserts
import Derived.RowKitTokens
import Derived.Lib.Hide
import Derived.Deep.LoopGhost
import Derived.Laws.BitsAllLaws
import Derived.Test.YtgphfebjjedeaaaGreatDoorV03
namespace Go.Proofs.YtgphfebjjedeaaaGreatDoor
open Lib renaming hid->oh
section
open Go.RowKit Go.Extern.Stop Go.Stop Go.Extern
abbrev zI(b:Nat):Value:=.iface 204 (.pointer (some ⟨b,0,none⟩))
inductive yN (F:NP) (ad:Nat->Addr) (w:World):Value->List Int->NP
 | sent (k:Nat):1<=k->k<=9->yN F ad w (.iface 506 (.pointer (some (ad k)))) [] k
 | wrap (b:Nat) (op:ByteArray) (pg:Int) (v:Value) (l:List Int) (k:Nat):b<w.heap.size->¬ F b ->
   w.heap[b]? = some (.cells #[.string op,.int .i64 pg,v] 206 (0,0))->yN F ad w v l k ->
   yN F ad w (.iface 204 (.pointer (some ⟨b,0,none⟩))) (pg :: l) k
def zDm(ad:Nat->Addr):Prop:=(ad 0).off=0
structure yE(F:NP)(ad:Nat->Addr)(w:World):Prop where
 c1:w.cell? ⟨1,0,none⟩=some (.iface 506 (.pointer (some (ad 1))))
 c2:w.cell? ⟨0,0,none⟩=some (.iface 506 (.pointer (some (ad 2))))
 c3:w.cell? ⟨3,0,none⟩=some (.iface 506 (.pointer (some (ad 3))))
 c5:w.cell? ⟨5,0,none⟩=some (.iface 506 (.pointer (some (ad 5))))
 c7:w.cell? ⟨2,0,none⟩=some (.iface 506 (.pointer (some (ad 7))))
 c4:zDm ad->w.cell? ⟨4,0,none⟩=some (.iface 506 (.pointer (some (ad 4))))
 c6:zDm ad->w.cell? ⟨6,0,none⟩=some (.iface 506 (.pointer (some (ad 6))))
 c8:zDm ad->w.cell? ⟨7,0,none⟩=some (.iface 506 (.pointer (some (ad 8))))
 c9:zDm ad->w.cell? ⟨8,0,none⟩=some (.iface 506 (.pointer (some (ad 9))))
 ne:zDm ad->∀i j,1<=i->i<=9->1<=j->j<=9->ad i=ad j->i=j
 row:zDm ad->∀i,1<=i->i<=9->∃c t,w.heap[(ad i).block]? = some (.cells c t (0,0))
 size:6 <= w.heap.size
 nF:∀k,k<6 -> ¬ F k
 sizeF:zDm ad->9 <= w.heap.size
 nFF:zDm ad->∀k,k<9 -> ¬ F k
 nA:zDm ad->∀i,1<=i->i<=9->¬ F (ad i).block
 lt:∀k,F k->k<w.heap.size
section
variable {F G:NP}{ad:Nat->Addr}{w w':World}{v:Value}{l:List Int}{k:Nat}
theorem yN.step(h:yN F ad w v l k)(m:zA F w w')(hG:∀k,k<w.heap.size->¬ F k->¬ G k):yN G ad w' v l k:=by
 induction h with
 | sent k h1 h2=>exact .sent k h1 h2
 | wrap b op pg v l k hb hF hc _ ih=>exact .wrap b op pg v l k (uG hb m.size) (hG b hb hF) ((m.block b hb hF).trans hc) ih
theorem yN.mods(h:yN F ad w v l k)(m:zA F w w'):yN F ad w' v l k:=h.step m (λ_ _ h=>h)
theorem yN.code(h:yN F ad w v l k):1<=k/\k<=9:=by
 induction h with
 | sent k h1 h2=>exact⟨h1,h2⟩
 | wrap _ _ _ _ _ _ _ _ _ _ ih=>exact ih
theorem yN.iface(h:yN F ad w v l k):∃t x,v=.iface t x:=by cases h <;> exact⟨_,_,rfl⟩
theorem yE.step(h:yE F ad w)(m:zA F w w')(hG:∀k,k<w.heap.size->¬ F k->¬ G k)(hz:∀k,G k->k<w'.heap.size):yE G ad w':=by
 have hz0:=h.size;have hr:zDm ad->∀i,1<=i->i<=9->(ad i).block<w.heap.size:=λhf i h1 h2=>by
  obtain⟨c,t,hc⟩:=h.row hf i h1 h2;exact (tA.1 hc).1
 have hc:∀g,g<6 -> w'.cell? ⟨g,0,none⟩=w.cell? ⟨g,0,none⟩:=λg hg=>m.cell (by omega) (h.nF g hg)
 have hcF:zDm ad->∀g,g<9 -> w'.cell? ⟨g,0,none⟩=w.cell? ⟨g,0,none⟩:=λhf g hg=>m.cell (by have:=h.sizeF hf;omega) (h.nFF hf g hg)
 exact⟨(hc _ (by decide)).trans h.c1,(hc _ (by decide)).trans h.c2,(hc _ (by decide)).trans h.c3,(hc _ (by decide)).trans h.c5,(hc _ (by decide)).trans h.c7,
  λhf=>(hcF hf _ (by decide)).trans (h.c4 hf),λhf=>(hcF hf _ (by decide)).trans (h.c6 hf),λhf=>(hcF hf _ (by decide)).trans (h.c8 hf),λhf=>(hcF hf _ (by decide)).trans (h.c9 hf),h.ne,
  λhf i h1 h2=>by rw[m.block _ (hr hf i h1 h2) (h.nA hf i h1 h2)];exact h.row hf i h1 h2,
  uT h.size m.size,λk hk=>hG k (by omega) (h.nF k hk),λhf=>uT (h.sizeF hf) m.size,λhf k hk=>hG k (by have:=h.sizeF hf;omega) (h.nFF hf k hk),λhf i h1 h2=>hG _ (hr hf i h1 h2) (h.nA hf i h1 h2),hz⟩
theorem yE.mods(h:yE F ad w)(m:zA F w w'):yE F ad w':=h.step m (λ_ _ h=>h) (λk hk=>uG (h.lt k hk) m.size)
theorem yE.new(h:yE F ad w):¬ F w.heap.size:=λf=>pD _ (h.lt _ f)
theorem yN.fault(he:yN F ad w v l k)(hL:yE F ad w)(op:ByteArray)(pg:Int) :
  yN F ad (w.alloc (.cells #[.string op,.int .i64 pg,v] 206)) (zI w.heap.size) (pg :: l) k :=
 .wrap _ op pg v l k (by simp) hL.new (heap_alloc_new w _) (he.mods ((zA.refl F w).alloc _))
end
theorem Tryz.isTypeOf(v:Value)(w:World):(callFunc 214 #[.iface 506 v]).run Tryz.prog w=.ok (.value (.iface 427 (.agg #[.pointer (some ⟨9,506,none⟩)]))) w:=by kernel_rfl
theorem Tryz.isComparable(w:World):(callFunc 409 #[.agg #[.pointer (some ⟨9,506,none⟩)]]).run Tryz.prog w=.ok (.value (.bool true)) w:=by kernel_rfl
theorem Tryz.isComp:(Tryz.prog.info? 506).map (·.comparable)=some true:=by kernel_rfl
theorem Tryz.isSize:(Tryz.prog.info? 529).map (·.size)=some 1:=by kernel_rfl
theorem Tryz.noIsE(v:Value)(xT:TypeId)(w:World):(Instr.typeAssert (.iface 506 v) xT 429 true).run Tryz.prog w=.ok (.tuple #[.nilIface,.bool false]) w:=run_typeAssert_lacksB Tryz.underlying429 (by kernel_rfl) (by kernel_rfl) v xT w
theorem Tryz.noUnwrapE(v:Value)(xT:TypeId)(w:World):(Instr.typeAssert (.iface 506 v) xT 432 true).run Tryz.prog w=.ok (.tuple #[.nilIface,.bool false]) w:=run_typeAssert_lacksB Tryz.underlying432 (by kernel_rfl) (by kernel_rfl) v xT w
theorem Tryz.noUnwrapsE(v:Value)(xT:TypeId)(w:World):(Instr.typeAssert (.iface 506 v) xT 433 true).run Tryz.prog w=.ok (.tuple #[.nilIface,.bool false]) w:=run_typeAssert_lacksB Tryz.underlying433 (by kernel_rfl) (by kernel_rfl) v xT w
theorem Tryz.noIsW(v:Value)(xT:TypeId)(w:World):(Instr.typeAssert (.iface 204 v) xT 429 true).run Tryz.prog w=.ok (.tuple #[.nilIface,.bool false]) w:=run_typeAssert_lacksB Tryz.underlying429 (by kernel_rfl) (by kernel_rfl) v xT w
theorem Tryz.hasUnwrapW(v:Value)(xT:TypeId)(w:World):(Instr.typeAssert (.iface 204 v) xT 432 true).run Tryz.prog w=.ok (.tuple #[.iface 204 v,.bool true]) w:=run_typeAssert_hasB Tryz.underlying432 (by kernel_rfl) v xT w
set_option maxRecDepth 1000000 in
theorem zRl{F:NP}{ad:Nat->Addr}{W:World}(hL:yE F ad W)(hfu:zDm ad)(j:Nat)(h1:1<=j)(h9:j<=9)(v:Value)(l:List Int)(k:Nat)(he:yN F ad W v l k) :
  Calls Tryz.prog 215 #[v,.iface 506 (.pointer (some (ad j))),.bool true] W λe w'=>e=.returned (.bool (k == j))/\W=w':=by
 obtain⟨i,hi,hcmp⟩:=tX.1 Tryz.isComp;obtain⟨jz,hj,hjs⟩:=tX.1 Tryz.isSize;obtain⟨cb,tb,hb⟩:=hL.row hfu j h1 h9;have nE:=Tryz.noIsE;have uE:=Tryz.noUnwrapE;have vE:=Tryz.noUnwrapsE;have nW:=Tryz.noIsW;have uW:=Tryz.hasUnwrapW;have HL:=oh hL;have HFU:=oh hfu;clear hL hfu
 go_enter Tryz.func215, Tryz.ntmps215
 go_wp2
 go_loopg [0] l.length (λn E' wl=>wl=W/\∃l',l'.length=n/\yN F ad W E' l' k)
 case atStart=>exact⟨rfl,l,rfl,he⟩
 case round =>
  obtain⟨rfl,l',hn,hc'⟩:=hrel;cases hc' with
  | sent _ k1 k9 =>
   by_cases hab:k=j
   .subst hab;have heq:=run_eql_iface_ptr_same (P:=Tryz.prog) wr (ad k) Tryz.underlying29 Tryz.underlying506 hi hcmp hj;go_wp2
    go_ret;exact⟨by simp,rfl⟩
   .obtain⟨ca,ta,ha⟩:=HL.out.row HFU.out k k1 k9;have heq:=run_eql_iface_ptr_other (P:=Tryz.prog) wr Tryz.underlying29 Tryz.underlying506 hi hcmp hj (by rw[hjs];decide) (λe=>hab (HL.out.ne HFU.out k j k1 k9 h1 h9 e)) ha hb;go_wp2
    go_ret;exact⟨by simp[hab],rfl⟩
  | wrap b op pg v1 l1 _ hbz hF hcell h2 =>
   have hty:=run_eql_iface_types (P:=Tryz.prog) 204 506 (.pointer (some ⟨b,0,none⟩)) (.pointer (some (ad j))) Tryz.underlying29 (by decide) wr;obtain⟨t1,x1,rfl⟩:=h2.iface;have HC:=oh h2;clear h2;have hc2:wr.cell? ⟨b,2,none⟩=some (.iface t1 x1):=by rw[yW hcell];rfl
   have HN:=oh hn;clear hn hcell;go_wp2
   go_roundg l1.length
   case measure=>have:=HN.out;simp at this;omega
   case rel=>exact⟨rfl,l1,rfl,HC.out⟩
theorem zSd{F:NP}{ad:Nat->Addr}{W:World}(hL:yE F ad W)(hfu:zDm ad)(j:Nat)(h1:1<=j)(h9:j<=9)(v:Value)(l:List Int)(k:Nat)(he:yN F ad W v l k) :
  Calls Tryz.prog 145 #[v,.iface 506 (.pointer (some (ad j)))] W λe w'=>e=.returned (.bool (k == j))/\W=w':=by
 have tT:=Tryz.isTypeOf;have cT:=Tryz.isComparable;obtain⟨t,x,rfl⟩:=he.iface;have HL:=oh hL;have HFU:=oh hfu;clear hL hfu
 go_enter Tryz.func145, Tryz.ntmps145
 go_wp2_with (go_at_call 215;refine (zRl HL.out HFU.out j h1 h9 _ l k he).mono ?_;rintro e w' ⟨rfl,rfl⟩);go_ret;exact⟨rfl,rfl⟩
theorem zQD{F:NP}{ad:Nat->Addr}{W:World}(hL:yE F ad W)(hfu:zDm ad)(v:Value)(l:List Int)(k:Nat)(he:yN F ad W v l k) :
  Calls Tryz.prog 86 #[v] W λe w'=>e=.returned (.int .i64 k)/\W=w':=by
 have hk:=he.code;have c1:=hL.c1;have c2:=hL.c2;have c3:=hL.c3;have c4:=hL.c4 hfu;have c5:=hL.c5;have c6:=hL.c6 hfu;have c7:=hL.c7;have c8:=hL.c8 hfu;have c9:=hL.c9 hfu;obtain⟨t,x,rfl⟩:=he.iface;have HL:=oh hL;have HFU:=oh hfu;clear hL hfu;obtain rfl|rfl|rfl|rfl|rfl|rfl|rfl|rfl|rfl:k=1\/k=2\/k=3\/k=4\/k=5\/k=6\/k=7\/k=8\/k=9:=by omega
 all_goals
  clear hk
  go_enter Tryz.func86, Tryz.ntmps86
  go_wp2_with (go_at_call 145;refine (zSd HL.out HFU.out _ (by decide) (by decide) _ l _ he).mono ?_;rintro e w' ⟨rfl,rfl⟩);go_ret;exact⟨rfl,rfl⟩
theorem zQE(W:World) : Calls Tryz.prog 86 #[.nilIface] W λe w'=>e=.returned (.int .i64 0)/\W=w':=by
 go_enter Tryz.func86, Tryz.ntmps86
 go_wp2
 go_ret;exact⟨rfl,rfl⟩
theorem yR{F:NP}{ad:Nat->Addr}{w:World}(hL:yE F ad w)(op:ByteArray)(v:Value)(l:List Int)(k:Nat)(he:yN F ad w v l k) :
  Calls Tryz.prog 72 #[.string op,v] w λe w'=>∃b,e=.returned (zI b)/\yN F ad w' (zI b) (-1 :: l) k/\zG w w':=by
 obtain⟨t,x,rfl⟩:=he.iface;have HF:=oh (he.fault hL op (-1));have HL:=oh hL;clear hL he
 go_enter Tryz.func72, Tryz.ntmps72
 go_wp2
 go_ret;exact⟨_,rfl,HF.out,zr.alloc _⟩
theorem wrap_any {F : Nat -> Prop} {ad : Nat -> Addr} {w : World} (hL : yE F ad w) (op : ByteArray) (v : Value) (l : List Int) (k : Nat) (he : yN F ad w v l k) :
    Calls Tryz.prog 64 #[.string op, v] w fun e w' => ∃ b, e = .returned (zI b) /\ yN F ad w' (zI b) (-1 :: l) k /\ zG w w' := by
  obtain ⟨t, x, rfl⟩ := he.iface
  have HF := oh (he.fault hL op (-1))
  have HL := oh hL
  clear hL he
  go_enter Tryz.func64, Tryz.ntmps64
  go_wp2
  go_ret
  exact ⟨_, rfl, HF.out, zr.alloc _⟩
theorem wrap_nil (op : ByteArray) (w : World) : Calls Tryz.prog 64 #[.string op, .nilIface] w fun e w' => e = .returned .nilIface /\ w = w' := by
  go_enter Tryz.func64, Tryz.ntmps64
  go_wp2
  go_ret
  exact ⟨rfl, rfl⟩
end
section
open Go.RowKit
def zBq(pg:Int):Int:=if pg < -1 then -1 else pg
theorem jY{F:NP}{ad:Nat->Addr}{w:World}(hL:yE F ad w)(op:ByteArray)(pg:Int)(v:Value)(l:List Int)(k:Nat)(he:yN F ad w v l k) :
  Calls Tryz.prog 114 #[.string op,.int .i64 pg,v] w λe w'=>∃b,e=.returned (zI b)/\yN F ad w' (zI b) ((zBq pg) :: l) k/\zG w w':=by
 obtain⟨t,x,rfl⟩:=he.iface;have HF:=oh (he.fault hL op (zBq pg));unfold zBq at HF ⊢;have HL:=oh hL;clear hL he;by_cases h:pg < -1
 .rw[if_pos h] at HF ⊢
  go_enter Tryz.func114, Tryz.ntmps114
  go_wp2
  go_ret;exact⟨_,rfl,HF.out,zr.alloc _⟩
 .rw[if_neg h] at HF ⊢
  go_enter Tryz.func114, Tryz.ntmps114
  go_wp2
  go_ret;exact⟨_,rfl,HF.out,zr.alloc _⟩
abbrev Err:=List Int × Nat
def zQF:Option Err->Option Err
 | none=>none
 | some (l,k)=>some (-1 :: l,k)
def zCa(F:NP)(ad:Nat->Addr)(w:World)(ev:Value):Option Err->Prop
 | none=>ev=.nilIface
 | some (l,k)=>∃b,ev=zI b/\yN F ad w (zI b) l k
theorem wrap_res {F : Nat -> Prop} {ad : Nat -> Addr} {w : World} (hL : yE F ad w) (op : ByteArray) (ev : Value) (o : Option Err) (he : zCa F ad w ev o) :
    Calls Tryz.prog 64 #[.string op, ev] w fun e w' => ∃ ev', e = .returned ev' /\ zCa F ad w' ev' (zQF o) /\ zG w w' := by
  match o, he with
  | none, he =>
    cases he
    exact (wrap_nil op w).mono fun e w' ⟨h1, h2⟩ => ⟨_, h1, rfl, h2 ▸ zA.refl _ _⟩
  | some (l, k), ⟨b, h1, h2⟩ =>
    subst h1
    exact (wrap_any hL op _ l k h2).mono fun e w' ⟨b', h3, h4, h5⟩ => ⟨_, h3, ⟨b', rfl, h4⟩, h5⟩
theorem zOm(n:Nat)(h:n<256)(w:World) : Calls Tryz.prog 280 #[.int .u8 (n:Int)] w λe w'=>e=.returned (.int .u32 (zCT n:Int))/\w=w':=by
 go_enter Tryz.func280, Tryz.ntmps280
 go_wp2
 go_loopg [3,7] 8 (λm r i wr=>∃k q:Nat,wr=w/\k+m=8/\i=.int .i64 k/\r=.int .u32 (q:Int)/\q<4294967296/\Hid (zAE m q=zCT n))
 case atStart=>exact⟨0,n,rfl,rfl,rfl,by simp,by omega,oh rfl⟩
 case round =>
  obtain⟨k,q,rfl,hk,rfl,rfl,hq,HQ⟩:=hrel;have hand:bits .and .u32 (q:Int) 1=((q % 2:Nat):Int):=by
   have:=u32_and_nat q 1 hq (by decide);rw[nat_mask1] at this;exact this
  have hxor:bits .xor .u32 ((q:Int) / 2) 3988292384=(((q / 2) ^^^ 3988292384:Nat):Int):=by
   have:=u32_xor_nat (q / 2) 3988292384 (by omega) (by decide);simpa using this
  by_cases hlt:k<8
  .obtain⟨m,rfl⟩:∃m,gk=m+1:=⟨gk-1,by omega⟩;have hlt2:=zCt q hq;by_cases hodd:q % 2=1
   .have hs:Hid (jD q=(q / 2) ^^^ 3988292384):=oh (by unfold jD;rw[if_pos hodd]);have hb:(((q % 2:Nat):Int) == 1)=true:=by rw[hodd];rfl
    have HX:=oh hxor;clear hodd;go_wp2
    go_roundg m
    case measure=>omega
    case rel=>exact⟨k+1,jD q,rfl,by omega,by go_num,by rw[hs.out],hlt2,HQ⟩
   .have hs:Hid (jD q=q / 2):=oh (by unfold jD;rw[if_neg hodd]);have hb:(((q % 2:Nat):Int) == 1)=false:=by
     have e:q % 2=0:=by omega
     rw[e];rfl
    clear hodd hxor;go_wp2
    go_roundg m
    case measure=>omega
    case rel=>exact⟨k+1,jD q,rfl,by omega,by go_num,by rw[hs.out];exact zEq (by omega),hlt2,HQ⟩
  .obtain rfl:gk=0:=by omega
   have hq2:Hid (q=zCT n):=HQ;clear hand hxor;go_wp2
   go_ret;exact⟨zEp (by rw[hq2.out]),rfl⟩
theorem zQG{F:NP}(s:Nat)(hs:s<4294967296)(bv:Value)(l:List UInt8)(w:World)(hb:Sl F w 1 zO bv l) :
  Calls Tryz.prog 191 #[.int .u32 (s:Int),bv] w λe w'=>e=.returned (.int .u32 ((4294967295 ^^^ zAF (4294967295 ^^^ s) l:Nat):Int))/\w=w':=by
 obtain⟨a,cap,rfl,h1,h2,h3,h4⟩:=hb;unfold maxLen at h2;have hx0:∀q:Nat,q<4294967296->bits .xor .u32 IntKind.u32.max (q:Int)=((4294967295 ^^^ q:Nat):Int):=by
  intro q hq;exact u32_xor_nat 4294967295 q (by decide) hq
 have hx1:=hx0 s hs;have hs2:4294967295 ^^^ s<4294967296:=wY (n:=32) (by decide) hs;obtain⟨t,ht⟩:∃t,t=4294967295 ^^^ s:=⟨_,rfl⟩;rw[<- ht] at hx1 hs2 ⊢;clear ht;have HX:=oh hx0;clear hx0
 go_enter Tryz.func191, Tryz.ntmps191
 go_wp2
 go_loopg [5,12] l.length (λm r i wr=>∃k q:Nat,wr=w/\k+m=l.length/\i=.int .i64 k/\r=.int .u32 (q:Int)/\q<4294967296/\Hid (zAF q (l.drop k)=zAF t l))
 case atStart=>exact⟨0,t,rfl,by omega,rfl,rfl,hs2,oh (by rw[List.drop_zero])⟩
 case round =>
  obtain⟨k,q,rfl,hk,rfl,rfl,hq,HQ⟩:=hrel;by_cases hlt:k<l.length
  .obtain⟨b,off,rfl,hb,hF,hc⟩:=Sl.atE h4 zr k hlt;obtain⟨x,hx⟩:∃x,x=l[k]:=⟨_,rfl⟩;have hc0:=hc 0 (.int .u8 (x.toNat:Int)) (by rw[hx];rfl);simp only[uY,uO] at hc0;have hx8:x.toNat<256:=x.toNat_lt;have hand:bits .xor .u8 ((q:Int) % 256) (x.toNat:Int)=(((q % 256) ^^^ x.toNat:Nat):Int):=by
    have:=u8_xor_nat (q % 256) x.toNat (by omega) hx8;simpa using this
   have hy:=wY (n:=8) (x:=q % 256) (y:=x.toNat) (by omega) (by omega);have he:=zGo _ hy;have hxor:bits .xor .u32 ((q:Int) / 256) (zCT ((q % 256) ^^^ x.toNat):Int)=((zC7 q x.toNat:Nat):Int):=by
    have:=u32_xor_nat (q / 256) _ (by omega) he;simpa[zC7] using this
   have HD:Hid (zAF (zC7 q x.toNat) (l.drop (k+1))=zAF q (l.drop k)):=oh (by rw[wK hlt,hx];rfl);have hlt2:=zHY q x.toNat hq hx8;obtain⟨y,hy0⟩:∃y,y=(q % 256) ^^^ x.toNat:=⟨_,rfl⟩;rw[<- hy0] at hand hy he hxor;obtain⟨z,hz0⟩:∃z,z=zCT y:=⟨_,rfl⟩;have HZ:=oh hz0;rw[<- hz0] at he hxor;obtain⟨q2,hq2⟩:∃q2,q2=zC7 q x.toNat:=⟨_,rfl⟩;rw[<- hq2] at hlt2 hxor HD;clear hc hx hy0 hz0 hq2 h4;go_wp2_with fail;refine (zOm y hy _).mono ?_;rintro e w1 ⟨rfl,rfl⟩;rw[<- HZ.out];go_wp2
   go_roundg (gk-1)
   case measure=>omega
   case rel=>exact⟨k+1,q2,rfl,by omega,by go_num,rfl,hlt2,oh (HD.out.trans HQ.out)⟩
  .have hq2:Hid (q=zAF t l):=oh (by have:=HQ.out;rw[tH (by omega)] at this;exact this);have hk2:((k:Nat):Int)=l.length:=by omega
   have hx2:=HX.out q hq;go_wp2
   go_ret;exact⟨zEp (by rw[hq2.out]),rfl⟩
theorem zKI{F:NP}(bv:Value)(l:List UInt8)(w:World)(hb:Sl F w 1 zO bv l) :
  Calls Tryz.prog 124 #[bv] w λe w'=>e=.returned (.int .u32 (qR l:Int))/\w=w':=by
 have HB:=oh hb;obtain⟨a,cap,rfl,h1,h2,h3,h4⟩:=hb
 go_enter Tryz.func124, Tryz.ntmps124
 go_wp2_with fail;refine (zQG 0 (by decide) _ l _ HB.out).mono ?_;rintro e w1 ⟨rfl,rfl⟩;go_wp2
 go_ret;exact⟨rfl,rfl⟩
theorem zGP(n:Int)(w:World)(h0:0<=n)(h1:n<=9223372036854775807) : Calls Tryz.prog 352 #[.int .i64 n] w λe w'=>e=.returned (.int .i64 (n-28))/\w=w':=by
 have e:n-24-4=n-28:=by omega
 have E:=oh e;clear e
 go_enter Tryz.func352, Tryz.ntmps352
 go_wp2
 go_ret;exact⟨by rw[<- E.out];rfl,rfl⟩
theorem zQH(n size:Int)(w:World)(h0 : -9223372036854775808<=n)(h1:n<=9223372036854775807) : Calls Tryz.prog 333 #[.int .i64 n,.int .i64 size] w λe w'=>e=.returned (.int .i64 (zCv n size))/\w=w':=by
 by_cases hc:n<1\/size<256\/1024<size
 .have hr:zCv n size=0:=by unfold zCv;rw[if_pos hc]
  have HR:=oh hr;clear hr;rcases hc with hc|hc|hc
  .go_enter Tryz.func333, Tryz.ntmps333
   go_wp2
   go_ret;exact⟨by rw[HR.out];rfl,rfl⟩
  .by_cases hn:n<1
   all_goals
    go_enter Tryz.func333, Tryz.ntmps333
    go_wp2
    go_ret;exact⟨by rw[HR.out];rfl,rfl⟩
  .by_cases hn:n<1
   all_goals
    by_cases hs:size<256
    all_goals
     go_enter Tryz.func333, Tryz.ntmps333
     go_wp2
     go_ret;exact⟨by rw[HR.out];rfl,rfl⟩
 .have hr:zCv n size=(n-1) / (size-28)+1:=by unfold zCv;rw[if_neg hc]
  have HR:=oh hr;clear hr;have h2:0<=(n-1) / (size-28):=Int.ediv_nonneg (by omega) (by omega);have h3:(n-1) / (size-28)<=n-1:=Int.ediv_le_self _ (by omega);have h4:1<=n/\256<=size/\size<=1024:=by omega
  obtain⟨h4,h5,h6⟩:=h4;clear hc
  go_enter Tryz.func333, Tryz.ntmps333
  go_wp2_with (go_at_call 352;refine (zGP _ _ (by omega) (by omega)).mono ?_;rintro e w' ⟨rfl,rfl⟩);go_ret;exact⟨by rw[HR.out];rfl,rfl⟩
theorem zBd(s:ByteArray)(w:World) : Calls Tryz.prog 212 #[.string s] w λe w'=>e=.returned (.bool (qP s))/\w=w':=by
 by_cases h1:1<=(s.size:Int)
 all_goals
  have h2:=oh h1
  go_enter Tryz.func212, Tryz.ntmps212
  go_wp2
  go_ret;exact⟨zY (by have:=h2.out;simp only[qP];first|(rw[uU this];simp)|(rw[uX (by omega)];simp)),rfl⟩
theorem zQI(l:List zR)(k:Nat)(h:k<l.length):yI (l.take (k+1))=yI (l.take k)+zAe l[k]:=by
 rw[qD l k l[k] (by simp[h]),jT];simp[yI]
theorem zQJ(l:List ByteArray)(k:Nat)(h:k<l.length):yJ (l.take (k+1))=yJ (l.take k)+(5+(l[k].size:Int)):=by
 rw[qD l k l[k] (by simp[h]),jG];simp[yJ]
set_option maxHeartbeats 400000 in
theorem zHn{F:NP}(n:zJ)(ve vk vi:Value)(w:World)(hve:Sl F w 4 jW ve n.entries)(hvk:Sl F w 1 vQ vk n.keys)(hb:zH n<=4611686018427387904) :
  Calls Tryz.prog 340 #[.agg #[.bool n.leaf,ve,vk,vi]] w λe w'=>e=.returned (.int .i64 (zH n))/\zG w w':=by
 obtain⟨ae,ce,rfl,he1,he2,he3,hee⟩:=hve;obtain⟨ak,ck,rfl,hk1,hk2,hk3,hkk⟩:=hvk;unfold maxLen at he2 hk2;have hsk:=zAn n.keys;have hse:=zAm n.entries;obtain⟨L,hL⟩:∃L:Int,L=if n.leaf then 0 else 4:=⟨_,rfl⟩
 have hw0:zH n=2+L+yI n.entries+yJ n.keys:=by rw[hL];rfl
 have hL12:0<=L/\L<=4:=by rw[hL];split <;> omega
 obtain⟨hL1,hL2⟩:=hL12;have hbb:2+L+yI n.entries+yJ n.keys<=4611686018427387904:=by omega
 have HW:=oh hw0;clear hw0 hb;cases hleaf:n.leaf
 all_goals
  have HL:Hid (L=_):=oh (by rw[hL,hleaf]);clear hL hleaf
  go_enter Tryz.func340, Tryz.ntmps340
  go_wp2
  go_loopg [3,16] n.entries.length (λm t i wr=>∃k:Nat,∃z:Int,k+m=n.entries.length/\i=.int .i64 k/\t=.int .i64 z/\Hid (z=2+L+yI (n.entries.take k))/\zG w wr/\wr.cell? ⟨w.heap.size,2,none⟩=some (.slice ak n.keys.length ck))
  case atStart=>exact⟨0,_,by omega,rfl,rfl,by have:=HL.out;simp at this;simp[Hid,yI,this],zr.alloc _,by go_cell⟩
  case round =>
   obtain⟨k,z,hk,rfl,rfl,HZ,hm,hkc⟩:=hrel;have hs1:=zCm n.entries k;have hs2:=zAm (n.entries.take k);have hz1:0<=z:=by rw[HZ.out];omega
   have hz2:z<=4611686018427387904:=by rw[HZ.out];omega
   by_cases hlt:k<n.entries.length
   .obtain⟨b,off,rfl,hb,hF,hc⟩:=Sl.at hee hm (λ_ _ f=>f.elim) k hlt;have c0:=hc 0 _ rfl;simp only[uO] at c0;have c1:=hc 1 _ rfl;have c2:=hc 2 _ rfl;have c3:=hc 3 _ rfl;clear hc hee;have hs:=zQI n.entries k hlt;have hs3:=zCm n.entries (k+1);have hwe:zAe n.entries[k]=2+n.entries[k].key.size+(if n.entries[k].chain=0 then 1+(n.entries[k].value.size:Int) else 8):=rfl;by_cases hz0:n.entries[k].chain=0
    .rw[if_pos hz0] at hwe;have hzb:(n.entries[k].chain == 0)=true:=rC.2 hz0;have hb3:2+L+yI (n.entries.take k)+(2+n.entries[k].key.size+(1+(n.entries[k].value.size:Int)))<=4611686018427387904:=by omega
     have hz3:z+(2+n.entries[k].key.size+(1+(n.entries[k].value.size:Int)))<=4611686018427387904:=by rw[HZ.out];omega
     have HS:=oh hs;have HE:=oh hwe;have H0:=oh hz0;clear hs hwe hz0;go_wp2
     go_roundg (gk-1)
     case measure=>omega
     case rel=>exact⟨k+1,_,by omega,by go_num,rfl,oh (by rw[HS.out,HE.out,HZ.out];omega),((hm.alloc _)),zP hkc _⟩
    .rw[if_neg hz0] at hwe;have hzb:(n.entries[k].chain == 0)=false:=uS.2 hz0;have hz3:z+(2+n.entries[k].key.size+8)<=4611686018427387904:=by rw[HZ.out];omega
     have HS:=oh hs;have HE:=oh hwe;have H0:=oh hz0;clear hs hwe hz0;go_wp2
     go_roundg (gk-1)
     case measure=>omega
     case rel=>exact⟨k+1,_,by omega,by go_num,rfl,oh (by rw[HS.out,HE.out,HZ.out];omega),((hm.alloc _)),zP hkc _⟩
   .have hke:k=n.entries.length:=by omega
    have hzz:Hid (z=2+L+yI n.entries):=oh (by rw[HZ.out,hke,wU]);clear HZ hke hee hs1 hs2;go_wp2
    obtain⟨wo,rfl⟩:∃wo:World,wo=wr:=⟨_,rfl⟩;go_loopg [3,41] n.keys.length (λm t i wr=>∃k:Nat,∃y:Int,k+m=n.keys.length/\i=.int .i64 k/\t=.int .i64 y/\Hid (y=2+L+yI n.entries+yJ (n.keys.take k))/\zG w wr)
    case atStart=>exact⟨0,_,by omega,rfl,rfl,oh (by rw[hzz.out];simp[yJ]),hm⟩
    case round =>
     obtain⟨k,y,hk,rfl,rfl,HY,hm⟩:=hrel;have hs1:=zCn n.keys k;have hs2:=zAn (n.keys.take k);have hy1:0<=y:=by rw[HY.out];omega
     have hy2:y<=4611686018427387904:=by rw[HY.out];omega
     by_cases hlt:k<n.keys.length
     .obtain⟨b,off,rfl,hb,hF,hc⟩:=Sl.at hkk hm (λ_ _ f=>f.elim) k hlt;have c0:=hc 0 _ rfl;simp only[uY,uO] at c0;clear hc hkk;have hs:=zQJ n.keys k hlt;have hs3:=zCn n.keys (k+1);have hz3:y+(5+(n.keys[k].size:Int))<=4611686018427387904:=by rw[HY.out];omega
      have HS:=oh hs;clear hs;go_wp2
      go_roundg (gk-1)
      case measure=>omega
      case rel=>exact⟨k+1,_,by omega,by go_num,rfl,oh (by rw[HS.out,HY.out];omega),hm⟩
     .have hke:k=n.keys.length:=by omega
      have hyy:Hid (y=zH n):=oh (by rw[HY.out,hke,wU,HW.out]);clear HY hke;go_wp2
      go_ret;exact⟨zEp hyy.out,hm⟩
end
end Go.Proofs.YtgphfebjjedeaaaGreatDoor
