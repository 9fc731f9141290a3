import Derived.Test.YteabpacpngaoaaaGreatDoorRows
import Derived.Stop.Asserts
import Derived.Lib.Hide
import Derived.Deep.LoopGhost
import Derived.Test.YteabpacpngaoaaaGreatDoorC03
namespace Go.Proofs.YteabpacpngaoaaaGreatDoor
open Lib renaming hid->oh
set_option maxHeartbeats 400000
section
open Go.RowKit Go.Extern.Stop Go.Stop Go.Extern
abbrev zL(b:Nat):Value:=.iface 158 (.pointer (some ⟨b,0,none⟩))
inductive vB (F:Nat->Prop) (ad:Nat->Addr) (w:World):Value->List Int->Nat->Prop
 | sent (k:Nat):1<=k->k<=9->vB F ad w (.iface 403 (.pointer (some (ad k)))) [] k
 | wrap (b:Nat) (op:ByteArray) (pg:Int) (v:Value) (l:List Int) (k:Nat):b<w.heap.size->¬ F b ->
   w.heap[b]? = some (.cells #[.string op,.int .i64 pg,v] 160 (0,0))->vB F ad w v l k ->
   vB F ad w (.iface 158 (.pointer (some ⟨b,0,none⟩))) (pg :: l) k
def zDq(ad:Nat->Addr):Prop:=(ad 0).off=0
structure yG(F:Nat->Prop)(ad:Nat->Addr)(w:World):Prop where
 c1:w.cell? ⟨2,0,none⟩=some (.iface 403 (.pointer (some (ad 1))))
 c2:w.cell? ⟨0,0,none⟩=some (.iface 403 (.pointer (some (ad 2))))
 c3:w.cell? ⟨3,0,none⟩=some (.iface 403 (.pointer (some (ad 3))))
 c5:w.cell? ⟨5,0,none⟩=some (.iface 403 (.pointer (some (ad 5))))
 c7:w.cell? ⟨1,0,none⟩=some (.iface 403 (.pointer (some (ad 7))))
 c4:zDq ad->w.cell? ⟨4,0,none⟩=some (.iface 403 (.pointer (some (ad 4))))
 c6:zDq ad->w.cell? ⟨6,0,none⟩=some (.iface 403 (.pointer (some (ad 6))))
 c8:zDq ad->w.cell? ⟨7,0,none⟩=some (.iface 403 (.pointer (some (ad 8))))
 c9:zDq ad->w.cell? ⟨8,0,none⟩=some (.iface 403 (.pointer (some (ad 9))))
 ne:zDq ad->∀i j,1<=i->i<=9->1<=j->j<=9->ad i=ad j->i=j
 row:zDq ad->∀i,1<=i->i<=9->∃c t,w.heap[(ad i).block]? = some (.cells c t (0,0))
 size:6 <= w.heap.size
 nF:∀k,k<6 -> ¬ F k
 sizeF:zDq ad->9 <= w.heap.size
 nFF:zDq ad->∀k,k<9 -> ¬ F k
 nA:zDq ad->∀i,1<=i->i<=9->¬ F (ad i).block
 lt:∀k,F k->k<w.heap.size
section
variable {F G:Nat->Prop}{ad:Nat->Addr}{w w':World}{v:Value}{l:List Int}{k:Nat}
theorem vB.step(h:vB F ad w v l k)(m:zA F w w')(hG:∀k,k<w.heap.size->¬ F k->¬ G k):vB G ad w' v l k:=by
 induction h with
 | sent k h1 h2=>exact .sent k h1 h2
 | wrap b op pg v l k hb hF hc _ ih=>exact .wrap b op pg v l k (Nat.lt_of_lt_of_le hb m.size) (hG b hb hF) ((m.block b hb hF).trans hc) ih
theorem vB.mods(h:vB F ad w v l k)(m:zA F w w'):vB F ad w' v l k:=h.step m (λ_ _ h=>h)
theorem vB.iface(h:vB F ad w v l k):∃t x,v=.iface t x:=by cases h <;> exact⟨_,_,rfl⟩
theorem yG.step(h:yG F ad w)(m:zA F w w')(hG:∀k,k<w.heap.size->¬ F k->¬ G k)(hz:∀k,G k->k<w'.heap.size):yG G ad w':=by
 have hz0:=h.size;have hr:zDq ad->∀i,1<=i->i<=9->(ad i).block<w.heap.size:=λhf i h1 h2=>by
  obtain⟨c,t,hc⟩:=h.row hf i h1 h2;exact (Array.getElem?_eq_some_iff.1 hc).1
 have hc:∀g,g<6 -> w'.cell? ⟨g,0,none⟩=w.cell? ⟨g,0,none⟩:=λg hg=>m.cell (by omega) (h.nF g hg)
 have hcF:zDq ad->∀g,g<9 -> w'.cell? ⟨g,0,none⟩=w.cell? ⟨g,0,none⟩:=λhf g hg=>m.cell (by have:=h.sizeF hf;omega) (h.nFF hf g hg)
 exact⟨(hc _ (by decide)).trans h.c1,(hc _ (by decide)).trans h.c2,(hc _ (by decide)).trans h.c3,(hc _ (by decide)).trans h.c5,(hc _ (by decide)).trans h.c7,
  λhf=>(hcF hf _ (by decide)).trans (h.c4 hf),λhf=>(hcF hf _ (by decide)).trans (h.c6 hf),λhf=>(hcF hf _ (by decide)).trans (h.c8 hf),λhf=>(hcF hf _ (by decide)).trans (h.c9 hf),h.ne,
  λhf i h1 h2=>by rw[m.block _ (hr hf i h1 h2) (h.nA hf i h1 h2)];exact h.row hf i h1 h2,
  Nat.le_trans h.size m.size,λk hk=>hG k (by omega) (h.nF k hk),λhf=>Nat.le_trans (h.sizeF hf) m.size,λhf k hk=>hG k (by have:=h.sizeF hf;omega) (h.nFF hf k hk),λhf i h1 h2=>hG _ (hr hf i h1 h2) (h.nA hf i h1 h2),hz⟩
theorem yG.mods(h:yG F ad w)(m:zA F w w'):yG F ad w':=h.step m (λ_ _ h=>h) (λk hk=>Nat.lt_of_lt_of_le (h.lt k hk) m.size)
theorem yG.new(h:yG F ad w):¬ F w.heap.size:=λf=>Nat.lt_irrefl _ (h.lt _ f)
theorem vB.fault(he:vB F ad w v l k)(hL:yG F ad w)(op:ByteArray)(pg:Int) :
  vB F ad (w.alloc (.cells #[.string op,.int .i64 pg,v] 160)) (zL w.heap.size) (pg :: l) k :=
 .wrap _ op pg v l k (by simp) hL.new (heap_alloc_new w _) (he.mods ((zA.refl F w).alloc _))
end
theorem qN{F:Nat->Prop}{ad:Nat->Addr}{w:World}(hL:yG F ad w)(op:ByteArray)(v:Value)(l:List Int)(k:Nat)(he:vB F ad w v l k) :
  Calls Tryz.prog 43 #[.string op,v] w λe w'=>∃b,e=.returned (zL b)/\vB F ad w' (zL b) (-1 :: l) k/\zF w w':=by
 obtain⟨t,x,rfl⟩:=he.iface;have HF:=oh (he.fault hL op (-1));have HL:=oh hL;clear hL he
 go_enter Tryz.func43, Tryz.ntmps43
 go_wp2
 go_ret;exact⟨_,rfl,HF.out,(zA.refl _ _).alloc _⟩
theorem wrap_any {F : Nat -> Prop} {ad : Nat -> Addr} {w : World} (hL : yG F ad w) (op : ByteArray) (v : Value) (l : List Int) (k : Nat) (he : vB F ad w v l k) :
    Calls Tryz.prog 48 #[.string op, v] w fun e w' => ∃ b, e = .returned (zL b) /\ vB F ad w' (zL b) (-1 :: l) k /\ zF w w' := by
  obtain ⟨t, x, rfl⟩ := he.iface
  have HF := oh (he.fault hL op (-1))
  have HL := oh hL
  clear hL he
  go_enter Tryz.func48, Tryz.ntmps48
  go_wp2
  go_ret
  exact ⟨_, rfl, HF.out, (zA.refl _ _).alloc _⟩
theorem wrap_nil (op : ByteArray) (w : World) : Calls Tryz.prog 48 #[.string op, .nilIface] w fun e w' => e = .returned .nilIface /\ w = w' := by
  go_enter Tryz.func48, Tryz.ntmps48
  go_wp2
  go_ret
  exact ⟨rfl, rfl⟩
end
section
open Go.RowKit
def zB2(pg:Int):Int:=if pg < -1 then -1 else pg
theorem zAG{F:Nat->Prop}{ad:Nat->Addr}{w:World}(hL:yG F ad w)(op:ByteArray)(pg:Int)(v:Value)(l:List Int)(k:Nat)(he:vB F ad w v l k) :
  Calls Tryz.prog 80 #[.string op,.int .i64 pg,v] w λe w'=>∃b,e=.returned (zL b)/\vB F ad w' (zL b) ((zB2 pg) :: l) k/\zF w w':=by
 obtain⟨t,x,rfl⟩:=he.iface;have HF:=oh (he.fault hL op (zB2 pg));unfold zB2 at HF ⊢;have HL:=oh hL;clear hL he;by_cases h:pg < -1
 .rw[if_pos h] at HF ⊢
  go_enter Tryz.func80, Tryz.ntmps80
  go_wp2
  go_ret;exact⟨_,rfl,HF.out,(zA.refl _ _).alloc _⟩
 .rw[if_neg h] at HF ⊢
  go_enter Tryz.func80, Tryz.ntmps80
  go_wp2
  go_ret;exact⟨_,rfl,HF.out,(zA.refl _ _).alloc _⟩
abbrev Err:=List Int × Nat
def zPM:Option Err->Option Err
 | none=>none
 | some (l,k)=>some (-1 :: l,k)
def zBw(F:Nat->Prop)(ad:Nat->Addr)(w:World)(ev:Value):Option Err->Prop
 | none=>ev=.nilIface
 | some (l,k)=>∃b,ev=zL b/\vB F ad w (zL b) l k
theorem wrap_res {F : Nat -> Prop} {ad : Nat -> Addr} {w : World} (hL : yG F ad w) (op : ByteArray) (ev : Value) (o : Option Err) (he : zBw F ad w ev o) :
    Calls Tryz.prog 48 #[.string op, ev] w fun e w' => ∃ ev', e = .returned ev' /\ zBw F ad w' ev' (zPM o) /\ zF w w' := by
  match o, he with
  | none, he =>
    cases he
    exact (wrap_nil op w).mono fun e w' ⟨h1, h2⟩ => ⟨_, h1, rfl, h2 ▸ zA.refl _ _⟩
  | some (l, k), ⟨b, h1, h2⟩ =>
    subst h1
    exact (wrap_any hL op _ l k h2).mono fun e w' ⟨b', h3, h4, h5⟩ => ⟨_, h3, ⟨b', rfl, h4⟩, h5⟩
theorem zNx(n:Nat)(h:n<256)(w:World) : Calls Tryz.prog 285 #[.int .u8 (n:Int)] w λe w'=>e=.returned (.int .u32 (zCK n:Int))/\w=w':=by
 go_enter Tryz.func285, Tryz.ntmps285
 go_wp2
 go_loopg [3,7] 8 (λm r i wr=>∃k q:Nat,wr=w/\k+m=8/\i=.int .i64 k/\r=.int .u32 (q:Int)/\q<4294967296/\Hid (qS m q=zCK n))
 case atStart=>exact⟨0,n,rfl,rfl,rfl,by simp,by omega,oh rfl⟩
 case round =>
  obtain⟨k,q,rfl,hk,rfl,rfl,hq,HQ⟩:=hrel;have hand:bits .and .u32 (q:Int) 1=((q % 2:Nat):Int):=by
   have:=u32_and_nat q 1 hq (by decide);rw[nat_mask1] at this;exact this
  have hxor:bits .xor .u32 ((q:Int) / 2) 3988292384=(((q / 2) ^^^ 3988292384:Nat):Int):=by
   have:=u32_xor_nat (q / 2) 3988292384 (by omega) (by decide);simpa using this
  by_cases hlt:k<8
  .obtain⟨m,rfl⟩:∃m,gk=m+1:=⟨gk-1,by omega⟩;have hlt2:=zCz q hq;by_cases hodd:q % 2=1
   .have hs:Hid (jI q=(q / 2) ^^^ 3988292384):=oh (by unfold jI;rw[if_pos hodd]);have hb:(((q % 2:Nat):Int) == 1)=true:=by rw[hodd];rfl
    have HX:=oh hxor;clear hodd;go_wp2
    go_roundg m
    case measure=>omega
    case rel=>exact⟨k+1,jI q,rfl,by omega,by go_num,by rw[hs.out],hlt2,HQ⟩
   .have hs:Hid (jI q=q / 2):=oh (by unfold jI;rw[if_neg hodd]);have hb:(((q % 2:Nat):Int) == 1)=false:=by
     have e:q % 2=0:=by omega
     rw[e];rfl
    clear hodd hxor;go_wp2
    go_roundg m
    case measure=>omega
    case rel=>exact⟨k+1,jI q,rfl,by omega,by go_num,by rw[hs.out];exact zCj (by omega),hlt2,HQ⟩
  .obtain rfl:gk=0:=by omega
   have hq2:Hid (q=zCK n):=HQ;clear hand hxor;go_wp2
   go_ret;exact⟨zJh (by rw[hq2.out]),rfl⟩
theorem zPN{F:Nat->Prop}(s:Nat)(hs:s<4294967296)(bv:Value)(l:List UInt8)(w:World)(hb:Sl F w 1 zZ bv l) :
  Calls Tryz.prog 268 #[.int .u32 (s:Int),bv] w λe w'=>e=.returned (.int .u32 ((4294967295 ^^^ jJ (4294967295 ^^^ s) l:Nat):Int))/\w=w':=by
 obtain⟨a,cap,rfl,h1,h2,h3,h4⟩:=hb;unfold maxLen at h2;have hx0:∀q:Nat,q<4294967296->bits .xor .u32 IntKind.u32.max (q:Int)=((4294967295 ^^^ q:Nat):Int):=by
  intro q hq;exact u32_xor_nat 4294967295 q (by decide) hq
 have hx1:=hx0 s hs;have hs2:4294967295 ^^^ s<4294967296:=Nat.xor_lt_two_pow (n:=32) (by decide) hs;obtain⟨t,ht⟩:∃t,t=4294967295 ^^^ s:=⟨_,rfl⟩;rw[<- ht] at hx1 hs2 ⊢;clear ht;have HX:=oh hx0;clear hx0
 go_enter Tryz.func268, Tryz.ntmps268
 go_wp2
 go_loopg [5,12] l.length (λm r i wr=>∃k q:Nat,wr=w/\k+m=l.length/\i=.int .i64 k/\r=.int .u32 (q:Int)/\q<4294967296/\Hid (jJ q (l.drop k)=jJ t l))
 case atStart=>exact⟨0,t,rfl,by omega,rfl,rfl,hs2,oh (by rw[List.drop_zero])⟩
 case round =>
  obtain⟨k,q,rfl,hk,rfl,rfl,hq,HQ⟩:=hrel;by_cases hlt:k<l.length
  .obtain⟨b,off,rfl,hb,hF,hc⟩:=Sl.atE h4 (zA.refl _ _) k hlt;obtain⟨x,hx⟩:∃x,x=l[k]:=⟨_,rfl⟩;have hc0:=hc 0 (.int .u8 (x.toNat:Int)) (by rw[hx];rfl);simp only[Nat.mul_one,Nat.add_zero] at hc0;have hx8:x.toNat<256:=x.toNat_lt;have hand:bits .xor .u8 ((q:Int) % 256) (x.toNat:Int)=(((q % 256) ^^^ x.toNat:Nat):Int):=by
    have:=u8_xor_nat (q % 256) x.toNat (by omega) hx8;simpa using this
   have hy:=Nat.xor_lt_two_pow (n:=8) (x:=q % 256) (y:=x.toNat) (by omega) (by omega);have he:=zGP _ hy;have hxor:bits .xor .u32 ((q:Int) / 256) (zCK ((q % 256) ^^^ x.toNat):Int)=((zCl q x.toNat:Nat):Int):=by
    have:=u32_xor_nat (q / 256) _ (by omega) he;simpa[zCl] using this
   have HD:Hid (jJ (zCl q x.toNat) (l.drop (k+1))=jJ q (l.drop k)):=oh (by rw[List.drop_eq_getElem_cons hlt,hx];rfl);have hlt2:=zHI q x.toNat hq hx8;obtain⟨y,hy0⟩:∃y,y=(q % 256) ^^^ x.toNat:=⟨_,rfl⟩;rw[<- hy0] at hand hy he hxor;obtain⟨z,hz0⟩:∃z,z=zCK y:=⟨_,rfl⟩;have HZ:=oh hz0;rw[<- hz0] at he hxor;obtain⟨q2,hq2⟩:∃q2,q2=zCl q x.toNat:=⟨_,rfl⟩;rw[<- hq2] at hlt2 hxor HD;clear hc hx hy0 hz0 hq2 h4;go_wp2_with fail;refine (zNx y hy _).mono ?_;rintro e w1 ⟨rfl,rfl⟩;rw[<- HZ.out];go_wp2
   go_roundg (gk-1)
   case measure=>omega
   case rel=>exact⟨k+1,q2,rfl,by omega,by go_num,rfl,hlt2,oh (HD.out.trans HQ.out)⟩
  .have hq2:Hid (q=jJ t l):=oh (by have:=HQ.out;rw[List.drop_eq_nil_of_le (by omega)] at this;exact this);have hk2:((k:Nat):Int)=l.length:=by omega
   have hx2:=HX.out q hq;go_wp2
   go_ret;exact⟨zJh (by rw[hq2.out]),rfl⟩
theorem zQg{F:Nat->Prop}(bv:Value)(l:List UInt8)(w:World)(hb:Sl F w 1 zZ bv l) :
  Calls Tryz.prog 208 #[bv] w λe w'=>e=.returned (.int .u32 (zBQ l:Int))/\w=w':=by
 have HB:=oh hb;obtain⟨a,cap,rfl,h1,h2,h3,h4⟩:=hb
 go_enter Tryz.func208, Tryz.ntmps208
 go_wp2_with fail;refine (zPN 0 (by decide) _ l _ HB.out).mono ?_;rintro e w1 ⟨rfl,rfl⟩;go_wp2
 go_ret;exact⟨rfl,rfl⟩
theorem zF7(n:Int)(w:World)(h0:0<=n)(h1:n<=9223372036854775807) : Calls Tryz.prog 269 #[.int .i64 n] w λe w'=>e=.returned (.int .i64 (n-28))/\w=w':=by
 have e:n-24-4=n-28:=by omega
 have E:=oh e;clear e
 go_enter Tryz.func269, Tryz.ntmps269
 go_wp2
 go_ret;exact⟨by rw[<- E.out];rfl,rfl⟩
theorem zPO(n size:Int)(w:World)(h0 : -9223372036854775808<=n)(h1:n<=9223372036854775807) : Calls Tryz.prog 209 #[.int .i64 n,.int .i64 size] w λe w'=>e=.returned (.int .i64 (zC3 n size))/\w=w':=by
 by_cases hc:n<1\/size<256\/1024<size
 .have hr:zC3 n size=0:=by unfold zC3;rw[if_pos hc]
  have HR:=oh hr;clear hr;rcases hc with hc|hc|hc
  .go_enter Tryz.func209, Tryz.ntmps209
   go_wp2
   go_ret;exact⟨by rw[HR.out];rfl,rfl⟩
  .by_cases hn:n<1
   all_goals
    go_enter Tryz.func209, Tryz.ntmps209
    go_wp2
    go_ret;exact⟨by rw[HR.out];rfl,rfl⟩
  .by_cases hn:n<1
   all_goals
    by_cases hs:size<256
    all_goals
     go_enter Tryz.func209, Tryz.ntmps209
     go_wp2
     go_ret;exact⟨by rw[HR.out];rfl,rfl⟩
 .have hr:zC3 n size=(n-1) / (size-28)+1:=by unfold zC3;rw[if_neg hc]
  have HR:=oh hr;clear hr;have h2:0<=(n-1) / (size-28):=Int.ediv_nonneg (by omega) (by omega);have h3:(n-1) / (size-28)<=n-1:=Int.ediv_le_self _ (by omega);have h4:1<=n/\256<=size/\size<=1024:=by omega
  obtain⟨h4,h5,h6⟩:=h4;clear hc
  go_enter Tryz.func209, Tryz.ntmps209
  go_wp2_with (go_at_call 269;refine (zF7 _ _ (by omega) (by omega)).mono ?_;rintro e w' ⟨rfl,rfl⟩);go_ret;exact⟨by rw[HR.out];rfl,rfl⟩
theorem zCH(s:ByteArray)(w:World) : Calls Tryz.prog 139 #[.string s] w λe w'=>e=.returned (.bool (zAE s))/\w=w':=by
 by_cases h1:1<=(s.size:Int)
 all_goals
  have h2:=oh h1
  go_enter Tryz.func139, Tryz.ntmps139
  go_wp2
  go_ret;exact⟨yB (by have:=h2.out;simp only[zAE];first|(rw[decide_eq_true this];simp)|(rw[decide_eq_false (by omega)];simp)),rfl⟩
theorem zPP(l:List zV)(k:Nat)(h:k<l.length):yL (l.take (k+1))=yL (l.take k)+jV l[k]:=by
 rw[jA l k l[k] (by simp[h]),zAB];simp[yL]
theorem zPQ(l:List ByteArray)(k:Nat)(h:k<l.length):yT (l.take (k+1))=yT (l.take k)+(5+(l[k].size:Int)):=by
 rw[jA l k l[k] (by simp[h]),jF];simp[yT]
theorem zHT{F:Nat->Prop}(n:zJ)(ve vk vi:Value)(w:World)(hve:Sl F w 4 zAO ve n.entries)(hvk:Sl F w 1 vZ vk n.keys)(hb:zG n<=4611686018427387904) :
  Calls Tryz.prog 219 #[.agg #[.bool n.leaf,ve,vk,vi]] w λe w'=>e=.returned (.int .i64 (zG n))/\zF w w':=by
 obtain⟨ae,ce,rfl,he1,he2,he3,hee⟩:=hve;obtain⟨ak,ck,rfl,hk1,hk2,hk3,hkk⟩:=hvk;unfold maxLen at he2 hk2;have hsk:=zAe n.keys;have hse:=zAR n.entries;obtain⟨L,hL⟩:∃L:Int,L=if n.leaf then 0 else 4:=⟨_,rfl⟩
 have hw0:zG n=2+L+yL n.entries+yT n.keys:=by rw[hL];rfl
 have hL12:0<=L/\L<=4:=by rw[hL];split <;> omega
 obtain⟨hL1,hL2⟩:=hL12;have hbb:2+L+yL n.entries+yT n.keys<=4611686018427387904:=by omega
 have HW:=oh hw0;clear hw0 hb;cases hleaf:n.leaf
 all_goals
  have HL:Hid (L=_):=oh (by rw[hL,hleaf]);clear hL hleaf
  go_enter Tryz.func219, Tryz.ntmps219
  go_wp2
  go_loopg [3,16] n.entries.length (λm t i wr=>∃k:Nat,∃z:Int,k+m=n.entries.length/\i=.int .i64 k/\t=.int .i64 z/\Hid (z=2+L+yL (n.entries.take k))/\zF w wr/\wr.cell? ⟨w.heap.size,2,none⟩=some (.slice ak n.keys.length ck))
  case atStart=>exact⟨0,_,by omega,rfl,rfl,by have:=HL.out;simp at this;simp[Hid,yL,this],(zA.refl _ _).alloc _,by go_cell⟩
  case round =>
   obtain⟨k,z,hk,rfl,rfl,HZ,hm,hkc⟩:=hrel;have hs1:=zBd n.entries k;have hs2:=zAR (n.entries.take k);have hz1:0<=z:=by rw[HZ.out];omega
   have hz2:z<=4611686018427387904:=by rw[HZ.out];omega
   by_cases hlt:k<n.entries.length
   .obtain⟨b,off,rfl,hb,hF,hc⟩:=Sl.at hee hm (λ_ _ f=>f.elim) k hlt;have c0:=hc 0 _ rfl;simp only[Nat.add_zero] at c0;have c1:=hc 1 _ rfl;have c2:=hc 2 _ rfl;have c3:=hc 3 _ rfl;clear hc hee;have hs:=zPP n.entries k hlt;have hs3:=zBd n.entries (k+1);have hwe:jV n.entries[k]=2+n.entries[k].key.size+(if n.entries[k].chain=0 then 1+(n.entries[k].value.size:Int) else 8):=rfl;by_cases hz0:n.entries[k].chain=0
    .rw[if_pos hz0] at hwe;have hzb:(n.entries[k].chain == 0)=true:=beq_iff_eq.2 hz0;have hb3:2+L+yL (n.entries.take k)+(2+n.entries[k].key.size+(1+(n.entries[k].value.size:Int)))<=4611686018427387904:=by omega
     have hz3:z+(2+n.entries[k].key.size+(1+(n.entries[k].value.size:Int)))<=4611686018427387904:=by rw[HZ.out];omega
     have HS:=oh hs;have HE:=oh hwe;have H0:=oh hz0;clear hs hwe hz0;go_wp2
     go_roundg (gk-1)
     case measure=>omega
     case rel=>exact⟨k+1,_,by omega,by go_num,rfl,oh (by rw[HS.out,HE.out,HZ.out];omega),((hm.alloc _)),zM hkc _⟩
    .rw[if_neg hz0] at hwe;have hzb:(n.entries[k].chain == 0)=false:=beq_eq_false_iff_ne.2 hz0;have hz3:z+(2+n.entries[k].key.size+8)<=4611686018427387904:=by rw[HZ.out];omega
     have HS:=oh hs;have HE:=oh hwe;have H0:=oh hz0;clear hs hwe hz0;go_wp2
     go_roundg (gk-1)
     case measure=>omega
     case rel=>exact⟨k+1,_,by omega,by go_num,rfl,oh (by rw[HS.out,HE.out,HZ.out];omega),((hm.alloc _)),zM hkc _⟩
   .have hke:k=n.entries.length:=by omega
    have hzz:Hid (z=2+L+yL n.entries):=oh (by rw[HZ.out,hke,List.take_length]);clear HZ hke hee hs1 hs2;go_wp2
    obtain⟨wo,rfl⟩:∃wo:World,wo=wr:=⟨_,rfl⟩;go_loopg [3,41] n.keys.length (λm t i wr=>∃k:Nat,∃y:Int,k+m=n.keys.length/\i=.int .i64 k/\t=.int .i64 y/\Hid (y=2+L+yL n.entries+yT (n.keys.take k))/\zF w wr)
    case atStart=>exact⟨0,_,by omega,rfl,rfl,oh (by rw[hzz.out];simp[yT]),hm⟩
    case round =>
     obtain⟨k,y,hk,rfl,rfl,HY,hm⟩:=hrel;have hs1:=zCk n.keys k;have hs2:=zAe (n.keys.take k);have hy1:0<=y:=by rw[HY.out];omega
     have hy2:y<=4611686018427387904:=by rw[HY.out];omega
     by_cases hlt:k<n.keys.length
     .obtain⟨b,off,rfl,hb,hF,hc⟩:=Sl.at hkk hm (λ_ _ f=>f.elim) k hlt;have c0:=hc 0 _ rfl;simp only[Nat.mul_one,Nat.add_zero] at c0;clear hc hkk;have hs:=zPQ n.keys k hlt;have hs3:=zCk n.keys (k+1);have hz3:y+(5+(n.keys[k].size:Int))<=4611686018427387904:=by rw[HY.out];omega
      have HS:=oh hs;clear hs;go_wp2
      go_roundg (gk-1)
      case measure=>omega
      case rel=>exact⟨k+1,_,by omega,by go_num,rfl,oh (by rw[HS.out,HY.out];omega),hm⟩
     .have hke:k=n.keys.length:=by omega
      have hyy:Hid (y=zG n):=oh (by rw[HY.out,hke,List.take_length,HW.out]);clear HY hke;go_wp2
      go_ret;exact⟨zJh hyy.out,hm⟩
end
end Go.Proofs.YteabpacpngaoaaaGreatDoor
