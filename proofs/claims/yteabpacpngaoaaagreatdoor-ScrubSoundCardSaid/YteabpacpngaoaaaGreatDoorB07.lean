import Derived.Test.YteabpacpngaoaaaGreatDoorRows
import Derived.LaidEql
import Derived.Stop.Asserts
import Derived.RowKitTokens
import Derived.Lib.Hide
import Derived.Deep.LoopGhost
import Derived.Laws.BitsAllLaws
import Derived.Test.YteabpacpngaoaaaGreatDoorB03
namespace Go.Proofs.YteabpacpngaoaaaGreatDoor
open Lib renaming hid→oh
set_option maxHeartbeats 400000
section
open Go.RowKit Go.Extern.Stop Go.Stop Go.Extern
abbrev faultV(b:Nat):Value:=.iface 158 (.pointer (some ⟨b,0,none⟩))
inductive ErrC (F:Nat→Prop) (ad:Nat→Addr) (w:World):Value→List Int→Nat→Prop
 | sent (k:Nat):1≤k→k≤9→ErrC F ad w (.iface 403 (.pointer (some (ad k)))) [] k
 | wrap (b:Nat) (op:ByteArray) (pg:Int) (v:Value) (l:List Int) (k:Nat):b<w.heap.size→¬ F b →
   w.heap[b]? = some (.cells #[.string op,.int .i64 pg,v] 160 (0,0))→ErrC F ad w v l k →
   ErrC F ad w (.iface 158 (.pointer (some ⟨b,0,none⟩))) (pg :: l) k
def Full(ad:Nat→Addr):Prop:=(ad 0).off=0
structure Env(F:Nat→Prop)(ad:Nat→Addr)(w:World):Prop where
 c1:w.cell? ⟨2,0,none⟩=some (.iface 403 (.pointer (some (ad 1))))
 c2:w.cell? ⟨0,0,none⟩=some (.iface 403 (.pointer (some (ad 2))))
 c3:w.cell? ⟨3,0,none⟩=some (.iface 403 (.pointer (some (ad 3))))
 c5:w.cell? ⟨5,0,none⟩=some (.iface 403 (.pointer (some (ad 5))))
 c7:w.cell? ⟨1,0,none⟩=some (.iface 403 (.pointer (some (ad 7))))
 c4:Full ad→w.cell? ⟨4,0,none⟩=some (.iface 403 (.pointer (some (ad 4))))
 c6:Full ad→w.cell? ⟨6,0,none⟩=some (.iface 403 (.pointer (some (ad 6))))
 c8:Full ad→w.cell? ⟨7,0,none⟩=some (.iface 403 (.pointer (some (ad 8))))
 c9:Full ad→w.cell? ⟨8,0,none⟩=some (.iface 403 (.pointer (some (ad 9))))
 ne:Full ad→∀i j,1≤i→i≤9→1≤j→j≤9→ad i=ad j→i=j
 row:Full ad→∀i,1≤i→i≤9→∃c t,w.heap[(ad i).block]? = some (.cells c t (0,0))
 size:6 ≤ w.heap.size
 nF:∀k,k<6 → ¬ F k
 sizeF:Full ad→9 ≤ w.heap.size
 nFF:Full ad→∀k,k<9 → ¬ F k
 nA:Full ad→∀i,1≤i→i≤9→¬ F (ad i).block
 lt:∀k,F k→k<w.heap.size
section
variable {F G:Nat→Prop}{ad:Nat→Addr}{w w':World}{v:Value}{l:List Int}{k:Nat}
theorem ErrC.step(h:ErrC F ad w v l k)(m:Mods F w w')(hG:∀k,k<w.heap.size→¬ F k→¬ G k):ErrC G ad w' v l k:=by
 induction h with
 | sent k h1 h2=>exact .sent k h1 h2
 | wrap b op pg v l k hb hF hc _ ih=>exact .wrap b op pg v l k (Nat.lt_of_lt_of_le hb m.size) (hG b hb hF) ((m.block b hb hF).trans hc) ih
theorem ErrC.mods(h:ErrC F ad w v l k)(m:Mods F w w'):ErrC F ad w' v l k:=h.step m (λ_ _ h=>h)
theorem ErrC.iface(h:ErrC F ad w v l k):∃t x,v=.iface t x:=by cases h <;> exact⟨_,_,rfl⟩
theorem Env.step(h:Env F ad w)(m:Mods F w w')(hG:∀k,k<w.heap.size→¬ F k→¬ G k)(hz:∀k,G k→k<w'.heap.size):Env G ad w':=by
 have hz0:=h.size;have hr:Full ad→∀i,1≤i→i≤9→(ad i).block<w.heap.size:=λhf i h1 h2=>by
  obtain⟨c,t,hc⟩:=h.row hf i h1 h2;exact (Array.getElem?_eq_some_iff.1 hc).1
 have hc:∀g,g<6 → w'.cell? ⟨g,0,none⟩=w.cell? ⟨g,0,none⟩:=λg hg=>m.cell (by omega) (h.nF g hg)
 have hcF:Full ad→∀g,g<9 → w'.cell? ⟨g,0,none⟩=w.cell? ⟨g,0,none⟩:=λhf g hg=>m.cell (by have:=h.sizeF hf;omega) (h.nFF hf g hg)
 exact⟨(hc _ (by decide)).trans h.c1,(hc _ (by decide)).trans h.c2,(hc _ (by decide)).trans h.c3,(hc _ (by decide)).trans h.c5,(hc _ (by decide)).trans h.c7,
  λhf=>(hcF hf _ (by decide)).trans (h.c4 hf),λhf=>(hcF hf _ (by decide)).trans (h.c6 hf),λhf=>(hcF hf _ (by decide)).trans (h.c8 hf),λhf=>(hcF hf _ (by decide)).trans (h.c9 hf),h.ne,
  λhf i h1 h2=>by rw[m.block _ (hr hf i h1 h2) (h.nA hf i h1 h2)];exact h.row hf i h1 h2,
  Nat.le_trans h.size m.size,λk hk=>hG k (by omega) (h.nF k hk),λhf=>Nat.le_trans (h.sizeF hf) m.size,λhf k hk=>hG k (by have:=h.sizeF hf;omega) (h.nFF hf k hk),λhf i h1 h2=>hG _ (hr hf i h1 h2) (h.nA hf i h1 h2),hz⟩
theorem Env.mods(h:Env F ad w)(m:Mods F w w'):Env F ad w':=h.step m (λ_ _ h=>h) (λk hk=>Nat.lt_of_lt_of_le (h.lt k hk) m.size)
theorem Env.new(h:Env F ad w):¬ F w.heap.size:=λf=>Nat.lt_irrefl _ (h.lt _ f)
theorem ErrC.fault(he:ErrC F ad w v l k)(hL:Env F ad w)(op:ByteArray)(pg:Int) :
  ErrC F ad (w.alloc (.cells #[.string op,.int .i64 pg,v] 160)) (faultV w.heap.size) (pg :: l) k :=
 .wrap _ op pg v l k (by simp) hL.new (heap_alloc_new w _) (he.mods ((Mods.refl F w).alloc _))
end
theorem new_any{F:Nat→Prop}{ad:Nat→Addr}{w:World}(hL:Env F ad w)(op:ByteArray)(v:Value)(l:List Int)(k:Nat)(he:ErrC F ad w v l k) :
  Calls Tryz.prog 43 #[.string op,v] w λe w'=>∃b,e=.returned (faultV b)∧ErrC F ad w' (faultV b) (-1 :: l) k∧Ext w w':=by
 obtain⟨t,x,rfl⟩:=he.iface;have HF:=oh (he.fault hL op (-1));have HL:=oh hL;clear hL he
 go_enter Tryz.func43, Tryz.ntmps43
 go_wp2
 go_ret;exact⟨_,rfl,HF.out,(Mods.refl _ _).alloc _⟩
theorem wrap_any {F : Nat → Prop} {ad : Nat → Addr} {w : World} (hL : Env F ad w) (op : ByteArray) (v : Value) (l : List Int) (k : Nat) (he : ErrC F ad w v l k) :
    Calls Tryz.prog 48 #[.string op, v] w fun e w' => ∃ b, e = .returned (faultV b) ∧ ErrC F ad w' (faultV b) (-1 :: l) k ∧ Ext w w' := by
  obtain ⟨t, x, rfl⟩ := he.iface
  have HF := oh (he.fault hL op (-1))
  have HL := oh hL
  clear hL he
  go_enter Tryz.func48, Tryz.ntmps48
  go_wp2
  go_ret
  exact ⟨_, rfl, HF.out, (Mods.refl _ _).alloc _⟩
theorem wrap_nil (op : ByteArray) (w : World) : Calls Tryz.prog 48 #[.string op, .nilIface] w fun e w' => e = .returned .nilIface ∧ w = w' := by
  go_enter Tryz.func48, Tryz.ntmps48
  go_wp2
  go_ret
  exact ⟨rfl, rfl⟩
end
section
open Go.RowKit
def pgOf(pg:Int):Int:=if pg < -1 then -1 else pg
theorem at_any{F:Nat→Prop}{ad:Nat→Addr}{w:World}(hL:Env F ad w)(op:ByteArray)(pg:Int)(v:Value)(l:List Int)(k:Nat)(he:ErrC F ad w v l k) :
  Calls Tryz.prog 80 #[.string op,.int .i64 pg,v] w λe w'=>∃b,e=.returned (faultV b)∧ErrC F ad w' (faultV b) ((pgOf pg) :: l) k∧Ext w w':=by
 obtain⟨t,x,rfl⟩:=he.iface;have HF:=oh (he.fault hL op (pgOf pg));unfold pgOf at HF ⊢;have HL:=oh hL;clear hL he;by_cases h:pg < -1
 ·rw[if_pos h] at HF ⊢
  go_enter Tryz.func80, Tryz.ntmps80
  go_wp2
  go_ret;exact⟨_,rfl,HF.out,(Mods.refl _ _).alloc _⟩
 ·rw[if_neg h] at HF ⊢
  go_enter Tryz.func80, Tryz.ntmps80
  go_wp2
  go_ret;exact⟨_,rfl,HF.out,(Mods.refl _ _).alloc _⟩
abbrev Err:=List Int × Nat
def wrapO:Option Err→Option Err
 | none=>none
 | some (l,k)=>some (-1 :: l,k)
def ErrR(F:Nat→Prop)(ad:Nat→Addr)(w:World)(ev:Value):Option Err→Prop
 | none=>ev=.nilIface
 | some (l,k)=>∃b,ev=faultV b∧ErrC F ad w (faultV b) l k
theorem wrap_res {F : Nat → Prop} {ad : Nat → Addr} {w : World} (hL : Env F ad w) (op : ByteArray) (ev : Value) (o : Option Err) (he : ErrR F ad w ev o) :
    Calls Tryz.prog 48 #[.string op, ev] w fun e w' => ∃ ev', e = .returned ev' ∧ ErrR F ad w' ev' (wrapO o) ∧ Ext w w' := by
  match o, he with
  | none, he =>
    cases he
    exact (wrap_nil op w).mono fun e w' ⟨h1, h2⟩ => ⟨_, h1, rfl, h2 ▸ Mods.refl _ _⟩
  | some (l, k), ⟨b, h1, h2⟩ =>
    subst h1
    exact (wrap_any hL op _ l k h2).mono fun e w' ⟨b', h3, h4, h5⟩ => ⟨_, h3, ⟨b', rfl, h4⟩, h5⟩
theorem Entry_any(n:Nat)(h:n<256)(w:World) : Calls Tryz.prog 285 #[.int .u8 (n:Int)] w λe w'=>e=.returned (.int .u32 (crcEntry n:Int))∧w=w':=by
 go_enter Tryz.func285, Tryz.ntmps285
 go_wp2
 go_loopg [3,7] 8 (λm r i wr=>∃k q:Nat,wr=w∧k+m=8∧i=.int .i64 k∧r=.int .u32 (q:Int)∧q<4294967296∧Hid (crcIter m q=crcEntry n))
 case atStart=>exact⟨0,n,rfl,rfl,rfl,by simp,by omega,oh rfl⟩
 case round =>
  obtain⟨k,q,rfl,hk,rfl,rfl,hq,HQ⟩:=hrel;have hand:bits .and .u32 (q:Int) 1=((q % 2:Nat):Int):=by
   have:=u32_and_nat q 1 hq (by decide);rw[nat_mask1] at this;exact this
  have hxor:bits .xor .u32 ((q:Int) / 2) 3988292384=(((q / 2) ^^^ 3988292384:Nat):Int):=by
   have:=u32_xor_nat (q / 2) 3988292384 (by omega) (by decide);simpa using this
  by_cases hlt:k<8
  ·obtain⟨m,rfl⟩:∃m,gk=m+1:=⟨gk-1,by omega⟩;have hlt2:=crcStep_lt q hq;by_cases hodd:q % 2=1
   ·have hs:Hid (crcStep q=(q / 2) ^^^ 3988292384):=oh (by unfold crcStep;rw[if_pos hodd]);have hb:(((q % 2:Nat):Int) == 1)=true:=by rw[hodd];rfl
    have HX:=oh hxor;clear hodd;go_wp2
    go_roundg m
    case measure=>omega
    case rel=>exact⟨k+1,crcStep q,rfl,by omega,by go_num,by rw[hs.out],hlt2,HQ⟩
   ·have hs:Hid (crcStep q=q / 2):=oh (by unfold crcStep;rw[if_neg hodd]);have hb:(((q % 2:Nat):Int) == 1)=false:=by
     have e:q % 2=0:=by omega
     rw[e];rfl
    clear hodd hxor;go_wp2
    go_roundg m
    case measure=>omega
    case rel=>exact⟨k+1,crcStep q,rfl,by omega,by go_num,by rw[hs.out];exact val_int (by omega),hlt2,HQ⟩
  ·obtain rfl:gk=0:=by omega
   have hq2:Hid (q=crcEntry n):=HQ;clear hand hxor;go_wp2
   go_ret;exact⟨ret_int (by rw[hq2.out]),rfl⟩
theorem More_any{F:Nat→Prop}(s:Nat)(hs:s<4294967296)(bv:Value)(l:List UInt8)(w:World)(hb:Sl F w 1 encB bv l) :
  Calls Tryz.prog 268 #[.int .u32 (s:Int),bv] w λe w'=>e=.returned (.int .u32 ((4294967295 ^^^ crcMore (4294967295 ^^^ s) l:Nat):Int))∧w=w':=by
 obtain⟨a,cap,rfl,h1,h2,h3,h4⟩:=hb;unfold maxLen at h2;have hx0:∀q:Nat,q<4294967296→bits .xor .u32 IntKind.u32.max (q:Int)=((4294967295 ^^^ q:Nat):Int):=by
  intro q hq;exact u32_xor_nat 4294967295 q (by decide) hq
 have hx1:=hx0 s hs;have hs2:4294967295 ^^^ s<4294967296:=Nat.xor_lt_two_pow (n:=32) (by decide) hs;obtain⟨t,ht⟩:∃t,t=4294967295 ^^^ s:=⟨_,rfl⟩;rw[← ht] at hx1 hs2 ⊢;clear ht;have HX:=oh hx0;clear hx0
 go_enter Tryz.func268, Tryz.ntmps268
 go_wp2
 go_loopg [5,12] l.length (λm r i wr=>∃k q:Nat,wr=w∧k+m=l.length∧i=.int .i64 k∧r=.int .u32 (q:Int)∧q<4294967296∧Hid (crcMore q (l.drop k)=crcMore t l))
 case atStart=>exact⟨0,t,rfl,by omega,rfl,rfl,hs2,oh (by rw[List.drop_zero])⟩
 case round =>
  obtain⟨k,q,rfl,hk,rfl,rfl,hq,HQ⟩:=hrel;by_cases hlt:k<l.length
  ·obtain⟨b,off,rfl,hb,hF,hc⟩:=Sl.atE h4 (Mods.refl _ _) k hlt;obtain⟨x,hx⟩:∃x,x=l[k]:=⟨_,rfl⟩;have hc0:=hc 0 (.int .u8 (x.toNat:Int)) (by rw[hx];rfl);simp only[Nat.mul_one,Nat.add_zero] at hc0;have hx8:x.toNat<256:=x.toNat_lt;have hand:bits .xor .u8 ((q:Int) % 256) (x.toNat:Int)=(((q % 256) ^^^ x.toNat:Nat):Int):=by
    have:=u8_xor_nat (q % 256) x.toNat (by omega) hx8;simpa using this
   have hy:=Nat.xor_lt_two_pow (n:=8) (x:=q % 256) (y:=x.toNat) (by omega) (by omega);have he:=crcEntry_lt _ hy;have hxor:bits .xor .u32 ((q:Int) / 256) (crcEntry ((q % 256) ^^^ x.toNat):Int)=((crcByte q x.toNat:Nat):Int):=by
    have:=u32_xor_nat (q / 256) _ (by omega) he;simpa[crcByte] using this
   have HD:Hid (crcMore (crcByte q x.toNat) (l.drop (k+1))=crcMore q (l.drop k)):=oh (by rw[List.drop_eq_getElem_cons hlt,hx];rfl);have hlt2:=crcByte_lt q x.toNat hq hx8;obtain⟨y,hy0⟩:∃y,y=(q % 256) ^^^ x.toNat:=⟨_,rfl⟩;rw[← hy0] at hand hy he hxor;obtain⟨z,hz0⟩:∃z,z=crcEntry y:=⟨_,rfl⟩;have HZ:=oh hz0;rw[← hz0] at he hxor;obtain⟨q2,hq2⟩:∃q2,q2=crcByte q x.toNat:=⟨_,rfl⟩;rw[← hq2] at hlt2 hxor HD;clear hc hx hy0 hz0 hq2 h4;go_wp2_with fail;refine (Entry_any y hy _).mono ?_;rintro e w1 ⟨rfl,rfl⟩;rw[← HZ.out];go_wp2
   go_roundg (gk-1)
   case measure=>omega
   case rel=>exact⟨k+1,q2,rfl,by omega,by go_num,rfl,hlt2,oh (HD.out.trans HQ.out)⟩
  ·have hq2:Hid (q=crcMore t l):=oh (by have:=HQ.out;rw[List.drop_eq_nil_of_le (by omega)] at this;exact this);have hk2:((k:Nat):Int)=l.length:=by omega
   have hx2:=HX.out q hq;go_wp2
   go_ret;exact⟨ret_int (by rw[hq2.out]),rfl⟩
theorem Sum_any{F:Nat→Prop}(bv:Value)(l:List UInt8)(w:World)(hb:Sl F w 1 encB bv l) :
  Calls Tryz.prog 208 #[bv] w λe w'=>e=.returned (.int .u32 (crcSum l:Int))∧w=w':=by
 have HB:=oh hb;obtain⟨a,cap,rfl,h1,h2,h3,h4⟩:=hb
 go_enter Tryz.func208, Tryz.ntmps208
 go_wp2_with fail;refine (More_any 0 (by decide) _ l _ HB.out).mono ?_;rintro e w1 ⟨rfl,rfl⟩;go_wp2
 go_ret;exact⟨rfl,rfl⟩
theorem piece_any(n:Int)(w:World)(h0:0≤n)(h1:n≤9223372036854775807) : Calls Tryz.prog 269 #[.int .i64 n] w λe w'=>e=.returned (.int .i64 (n-28))∧w=w':=by
 have e:n-24-4=n-28:=by omega
 have E:=oh e;clear e
 go_enter Tryz.func269, Tryz.ntmps269
 go_wp2
 go_ret;exact⟨by rw[← E.out];rfl,rfl⟩
theorem need_any(n size:Int)(w:World)(h0 : -9223372036854775808≤n)(h1:n≤9223372036854775807) : Calls Tryz.prog 209 #[.int .i64 n,.int .i64 size] w λe w'=>e=.returned (.int .i64 (needN n size))∧w=w':=by
 by_cases hc:n<1∨size<256∨1024<size
 ·have hr:needN n size=0:=by unfold needN;rw[if_pos hc]
  have HR:=oh hr;clear hr;rcases hc with hc|hc|hc
  ·go_enter Tryz.func209, Tryz.ntmps209
   go_wp2
   go_ret;exact⟨by rw[HR.out];rfl,rfl⟩
  ·by_cases hn:n<1
   all_goals
    go_enter Tryz.func209, Tryz.ntmps209
    go_wp2
    go_ret;exact⟨by rw[HR.out];rfl,rfl⟩
  ·by_cases hn:n<1
   all_goals
    by_cases hs:size<256
    all_goals
     go_enter Tryz.func209, Tryz.ntmps209
     go_wp2
     go_ret;exact⟨by rw[HR.out];rfl,rfl⟩
 ·have hr:needN n size=(n-1) / (size-28)+1:=by unfold needN;rw[if_neg hc]
  have HR:=oh hr;clear hr;have h2:0≤(n-1) / (size-28):=Int.ediv_nonneg (by omega) (by omega);have h3:(n-1) / (size-28)≤n-1:=Int.ediv_le_self _ (by omega);have h4:1≤n∧256≤size∧size≤1024:=by omega
  obtain⟨h4,h5,h6⟩:=h4;clear hc
  go_enter Tryz.func209, Tryz.ntmps209
  go_wp2_with (go_at_call 269;refine (piece_any _ _ (by omega) (by omega)).mono ?_;rintro e w' ⟨rfl,rfl⟩);go_ret;exact⟨by rw[HR.out];rfl,rfl⟩
theorem key_any(s:ByteArray)(w:World) : Calls Tryz.prog 139 #[.string s] w λe w'=>e=.returned (.bool (keyB s))∧w=w':=by
 by_cases h1:1≤(s.size:Int)
 all_goals
  have h2:=oh h1
  go_enter Tryz.func139, Tryz.ntmps139
  go_wp2
  go_ret;exact⟨ret_bool (by have:=h2.out;simp only[keyB];first|(rw[decide_eq_true this];simp)|(rw[decide_eq_false (by omega)];simp)),rfl⟩
theorem sumE_one(l:List EntryA)(k:Nat)(h:k<l.length):sumE (l.take (k+1))=sumE (l.take k)+weightE l[k]:=by
 rw[take_one l k l[k] (by simp[h]),sumE_append];simp[sumE]
theorem sumK_one(l:List ByteArray)(k:Nat)(h:k<l.length):sumK (l.take (k+1))=sumK (l.take k)+(5+(l[k].size:Int)):=by
 rw[take_one l k l[k] (by simp[h]),sumK_append];simp[sumK]
theorem weight_any{F:Nat→Prop}(n:NodeA)(ve vk vi:Value)(w:World)(hve:Sl F w 4 encE ve n.entries)(hvk:Sl F w 1 encS vk n.keys)(hb:weightN n≤4611686018427387904) :
  Calls Tryz.prog 219 #[.agg #[.bool n.leaf,ve,vk,vi]] w λe w'=>e=.returned (.int .i64 (weightN n))∧Ext w w':=by
 obtain⟨ae,ce,rfl,he1,he2,he3,hee⟩:=hve;obtain⟨ak,ck,rfl,hk1,hk2,hk3,hkk⟩:=hvk;unfold maxLen at he2 hk2;have hsk:=sumK_nonneg n.keys;have hse:=sumE_nonneg n.entries;obtain⟨L,hL⟩:∃L:Int,L=if n.leaf then 0 else 4:=⟨_,rfl⟩
 have hw0:weightN n=2+L+sumE n.entries+sumK n.keys:=by rw[hL];rfl
 have hL12:0≤L∧L≤4:=by rw[hL];split <;> omega
 obtain⟨hL1,hL2⟩:=hL12;have hbb:2+L+sumE n.entries+sumK n.keys≤4611686018427387904:=by omega
 have HW:=oh hw0;clear hw0 hb;cases hleaf:n.leaf
 all_goals
  have HL:Hid (L=_):=oh (by rw[hL,hleaf]);clear hL hleaf
  go_enter Tryz.func219, Tryz.ntmps219
  go_wp2
  go_loopg [3,16] n.entries.length (λm t i wr=>∃k:Nat,∃z:Int,k+m=n.entries.length∧i=.int .i64 k∧t=.int .i64 z∧Hid (z=2+L+sumE (n.entries.take k))∧Ext w wr∧wr.cell? ⟨w.heap.size,2,none⟩=some (.slice ak n.keys.length ck))
  case atStart=>exact⟨0,_,by omega,rfl,rfl,by have:=HL.out;simp at this;simp[Hid,sumE,this],(Mods.refl _ _).alloc _,by go_cell⟩
  case round =>
   obtain⟨k,z,hk,rfl,rfl,HZ,hm,hkc⟩:=hrel;have hs1:=sumE_take_le n.entries k;have hs2:=sumE_nonneg (n.entries.take k);have hz1:0≤z:=by rw[HZ.out];omega
   have hz2:z≤4611686018427387904:=by rw[HZ.out];omega
   by_cases hlt:k<n.entries.length
   ·obtain⟨b,off,rfl,hb,hF,hc⟩:=Sl.at hee hm (λ_ _ f=>f.elim) k hlt;have c0:=hc 0 _ rfl;simp only[Nat.add_zero] at c0;have c1:=hc 1 _ rfl;have c2:=hc 2 _ rfl;have c3:=hc 3 _ rfl;clear hc hee;have hs:=sumE_one n.entries k hlt;have hs3:=sumE_take_le n.entries (k+1);have hwe:weightE n.entries[k]=2+n.entries[k].key.size+(if n.entries[k].chain=0 then 1+(n.entries[k].value.size:Int) else 8):=rfl;by_cases hz0:n.entries[k].chain=0
    ·rw[if_pos hz0] at hwe;have hzb:(n.entries[k].chain == 0)=true:=beq_iff_eq.2 hz0;have hb3:2+L+sumE (n.entries.take k)+(2+n.entries[k].key.size+(1+(n.entries[k].value.size:Int)))≤4611686018427387904:=by omega
     have hz3:z+(2+n.entries[k].key.size+(1+(n.entries[k].value.size:Int)))≤4611686018427387904:=by rw[HZ.out];omega
     have HS:=oh hs;have HE:=oh hwe;have H0:=oh hz0;clear hs hwe hz0;go_wp2
     go_roundg (gk-1)
     case measure=>omega
     case rel=>exact⟨k+1,_,by omega,by go_num,rfl,oh (by rw[HS.out,HE.out,HZ.out];omega),((hm.alloc _)),cell_alloc hkc _⟩
    ·rw[if_neg hz0] at hwe;have hzb:(n.entries[k].chain == 0)=false:=beq_eq_false_iff_ne.2 hz0;have hz3:z+(2+n.entries[k].key.size+8)≤4611686018427387904:=by rw[HZ.out];omega
     have HS:=oh hs;have HE:=oh hwe;have H0:=oh hz0;clear hs hwe hz0;go_wp2
     go_roundg (gk-1)
     case measure=>omega
     case rel=>exact⟨k+1,_,by omega,by go_num,rfl,oh (by rw[HS.out,HE.out,HZ.out];omega),((hm.alloc _)),cell_alloc hkc _⟩
   ·have hke:k=n.entries.length:=by omega
    have hzz:Hid (z=2+L+sumE n.entries):=oh (by rw[HZ.out,hke,List.take_length]);clear HZ hke hee hs1 hs2;go_wp2
    obtain⟨wo,rfl⟩:∃wo:World,wo=wr:=⟨_,rfl⟩;go_loopg [3,41] n.keys.length (λm t i wr=>∃k:Nat,∃y:Int,k+m=n.keys.length∧i=.int .i64 k∧t=.int .i64 y∧Hid (y=2+L+sumE n.entries+sumK (n.keys.take k))∧Ext w wr)
    case atStart=>exact⟨0,_,by omega,rfl,rfl,oh (by rw[hzz.out];simp[sumK]),hm⟩
    case round =>
     obtain⟨k,y,hk,rfl,rfl,HY,hm⟩:=hrel;have hs1:=sumK_take_le n.keys k;have hs2:=sumK_nonneg (n.keys.take k);have hy1:0≤y:=by rw[HY.out];omega
     have hy2:y≤4611686018427387904:=by rw[HY.out];omega
     by_cases hlt:k<n.keys.length
     ·obtain⟨b,off,rfl,hb,hF,hc⟩:=Sl.at hkk hm (λ_ _ f=>f.elim) k hlt;have c0:=hc 0 _ rfl;simp only[Nat.mul_one,Nat.add_zero] at c0;clear hc hkk;have hs:=sumK_one n.keys k hlt;have hs3:=sumK_take_le n.keys (k+1);have hz3:y+(5+(n.keys[k].size:Int))≤4611686018427387904:=by rw[HY.out];omega
      have HS:=oh hs;clear hs;go_wp2
      go_roundg (gk-1)
      case measure=>omega
      case rel=>exact⟨k+1,_,by omega,by go_num,rfl,oh (by rw[HS.out,HY.out];omega),hm⟩
     ·have hke:k=n.keys.length:=by omega
      have hyy:Hid (y=weightN n):=oh (by rw[HY.out,hke,List.take_length,HW.out]);clear HY hke;go_wp2
      go_ret;exact⟨ret_int hyy.out,hm⟩
theorem chains1_any(k v:ByteArray)(b:Nat)(size:Int)(w:World)(hv:v.size≤4096)(hb:b<w.heap.size)(hc:w.cell? ⟨b,0,none⟩=some (.int .i64 size)) :
  Calls Tryz.prog 230 #[.agg #[.string k,.string v],.pointer (some ⟨b,0,none⟩)] w λe w'=>e=.returned (.int .i64 (chainP size (k,v)))∧Ext w w':=by
 by_cases h:(v.size:Int)≤24
 ·have HR:=oh (show chainP size (k,v)=0 by unfold chainP;rw[if_pos h])
  go_enter Tryz.func230, Tryz.ntmps230
  go_wp2
  go_ret;exact⟨by rw[HR.out];rfl,(Mods.refl _ _).alloc _⟩
 ·have HR:=oh (show chainP size (k,v)=needN v.size size by unfold chainP;rw[if_neg h])
  go_enter Tryz.func230, Tryz.ntmps230
  go_wp2_with (go_at_call 209;refine (need_any _ _ _ (by omega) (by omega)).mono ?_;rintro e w' ⟨rfl,rfl⟩);go_ret;exact⟨by rw[HR.out];rfl,(Mods.refl _ _).alloc _⟩
theorem total1_any{F:Nat→Prop}(g:PairB→Int)(lv:Value)(l:List PairB)(c:Value)(fn:FuncId)(w:World)(hl:Sl F w 2 encP lv l)(hg:∀x∈l,0≤g x∧g x≤8192)
  (hcf:∀(args:Array Value) (w:World),(callFunc fn args).run Tryz.prog w=.ok (.enter fn args) w)
  (hof:∀x∈l,∀w1,Ext w w1→Calls Tryz.prog fn #[.agg #[.string x.1,.string x.2],c] w1 λe w'=>e=.returned (.int .i64 (g x))∧Ext w1 w') :
  Calls Tryz.prog 229 #[lv,.func (.func fn) #[] #[c]] w λe w'=>e=.returned (.int .i64 (sumBy g l))∧Ext w w':=by
 obtain⟨a,cap,rfl,h1,h2,h3,h4⟩:=hl;unfold maxLen at h2;have HO:=oh hof;have HG:=oh hg;clear hof hg
 go_enter Tryz.func229, Tryz.ntmps229
 go_wp2
 go_loopg [5,10] l.length (λn t i wr=>∃k:Nat,∃z:Int,k+n=l.length∧i=.int .i64 k∧t=.int .i64 z∧Hid (z=sumBy g (l.take k))∧Ext w wr)
 case atStart=>exact⟨0,0,by omega,rfl,rfl,oh rfl,Mods.refl _ _⟩
 case round =>
  obtain⟨k,z,hk,rfl,rfl,HZ,hm⟩:=hrel;by_cases hlt:k<l.length
  ·obtain⟨b,off,rfl,hb,hF,hc⟩:=Sl.at h4 hm (λ_ _ f=>f.elim) k hlt;have c0:=hc 0 _ rfl;have c1:=hc 1 _ rfl;simp only[Nat.add_zero] at c0;clear hc h4;have hs:=oh (sumBy_take g l k l[k] (by simp[hlt]));have hb1:=sumBy_le g 8192 (l.take k) (λx hx=>HG.out x (mem_take hx));have hb2:=HG.out l[k] (by simp);have hlen:(l.take k).length≤l.length:=by simp;omega
   have hz1:0≤z∧z≤8192 * (l.take k).length:=by rw[HZ.out];exact hb1
   obtain⟨b1,b2⟩:=hz1;obtain⟨b3,b4⟩:=hb2;clear hb1;go_wp2
   refine (HO.out l[k] (by simp) _ (hm.alloc _)).mono ?_;rintro e w' ⟨rfl,hm2⟩;go_wp2
   go_roundg (gk-1)
   case measure=>omega
   case rel=>exact⟨k+1,_,by omega,by go_num,rfl,oh (by rw[hs.out,HZ.out]),(hm.alloc _).trans' hm2 (λ_ _ f=>f.elim)⟩
  ·have hke:k=l.length:=by omega
   have hzz:Hid (z=sumBy g l):=oh (by rw[HZ.out,hke,List.take_length]);clear HZ hke h4;go_wp2
   go_ret;exact⟨ret_int hzz.out,hm⟩
theorem chains_any{F:Nat→Prop}(lv:Value)(l:List PairB)(size:Int)(w:World)(hl:Sl F w 2 encP lv l)(hr:∀p∈l,p.1.size≤32∧p.2.size≤4096) :
  Calls Tryz.prog 158 #[lv,.int .i64 size] w λe w'=>e=.returned (.int .i64 (sumBy (chainP size) l))∧Ext w w':=by
 have hcf:∀(args:Array Value) (w:World),(callFunc 230 args).run Tryz.prog w=.ok (.enter 230 args) w:=λ_ _=>by kernel_rfl
 have hlm:=hl.mods ((Mods.refl _ w).alloc (.cells #[.int .i64 size] 3));have HT:=oh (total1_any (chainP size) lv l (.pointer (some ⟨w.heap.size,0,none⟩)) 230 _ hlm (λx hx=>by
   have:=needN_le x.2.size size (by have:=(hr x hx).2;omega);unfold chainP;split <;> omega) hcf
   (λx hx w1 m=>chains1_any x.1 x.2 w.heap.size size w1 (hr x hx).2 (by have:=m.size;simp at this;omega) (by rw[m.cell (by simp) (λf=>f)];simp)))
 clear hcf
 go_enter Tryz.func158, Tryz.ntmps158
 go_wp2_with fail;refine HT.out.mono ?_;rintro e w' ⟨rfl,hm⟩;go_wp2
 go_ret;exact⟨rfl,((Mods.refl _ w).alloc _).trans hm⟩
end
end Go.Proofs.YteabpacpngaoaaaGreatDoor
