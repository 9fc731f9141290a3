import Derived.WalkKit
import Derived.WalkSpells
import Derived.WalkLawsBesides
import Derived.Handy
import Derived.RowKit
namespace Go.Proofs.YteabpacpngaoaaaGreatDoor
section
open Go.RowKit
theorem ret_int{k:IntKind}{a b:Int}(h:a=b):Ending.returned (.int k a)=.returned (.int k b):=by rw[h]
theorem ret_bool{a b:Bool}(h:a=b):Ending.returned (.bool a)=.returned (.bool b):=by rw[h]
theorem val_int{k:IntKind}{a b:Int}(h:a=b):Value.int k a=.int k b:=by rw[h]
theorem cell_lt{w:World}{b o:Nat}{v:Value}(h:w.cell? ⟨b,o,none⟩=some v):b<w.heap.size:=World.block_lt_of_cell? w ⟨b,o,none⟩ h
theorem cell_alloc{w:World}{b o:Nat}{v:Value}(h:w.cell? ⟨b,o,none⟩=some v)(x:Obj):(w.alloc x).cell? ⟨b,o,none⟩=some v :=
 (World.cell?_of_block (w:=w) (Below.heap_alloc w x b (cell_lt h))).trans h
theorem cells_of_block{w:World}{b:Nat}{c:Array Value}{t:TypeId}{fz:Nat × Nat}(h:w.heap[b]? = some (.cells c t fz))(o:Nat):w.cell? ⟨b,o,none⟩=c[o]?:=by
 simp[World.cell?,h]
theorem heap_at{w:World}{o:Obj}{b:Nat}(h:b=w.heap.size):(w.alloc o).heap[b]? = some o:=by subst h;exact heap_alloc_new w o
structure Mods(F:Nat→Prop)(w w':World):Prop where
 os:w'.os=w.os
 tape:w'.tape=w.tape
 output:w'.output=w.output
 size:w.heap.size≤w'.heap.size
 block:∀k,k<w.heap.size→¬ F k→w'.heap[k]? = w.heap[k]?
abbrev Ext(w w':World):Prop:=Mods (λ_=>False) w w'
section
variable {F G:Nat→Prop}{w w1 w2 w':World}
theorem Mods.refl(F:Nat→Prop)(w:World):Mods F w w:=⟨rfl,rfl,rfl,Nat.le_refl _,λ_ _ _=>rfl⟩
theorem Mods.trans(h:Mods F w w1)(k:Mods F w1 w2):Mods F w w2 :=
 ⟨k.os.trans h.os,k.tape.trans h.tape,k.output.trans h.output,Nat.le_trans h.size k.size,λi hi hn=>(k.block i (Nat.lt_of_lt_of_le hi h.size) hn).trans (h.block i hi hn)⟩
theorem Mods.trans'(h:Mods F w w1)(k:Mods G w1 w2)(hG:∀i,i<w.heap.size→G i→F i):Mods F w w2 :=
 ⟨k.os.trans h.os,k.tape.trans h.tape,k.output.trans h.output,Nat.le_trans h.size k.size,λi hi hn=>(k.block i (Nat.lt_of_lt_of_le hi h.size) (λg=>hn (hG i hi g))).trans (h.block i hi hn)⟩
theorem Mods.mono(h:Mods F w w')(hG:∀i,F i→G i):Mods G w w':=⟨h.os,h.tape,h.output,h.size,λi hi hn=>h.block i hi (λf=>hn (hG i f))⟩
theorem Mods.drew(h:Mods F w w1):Mods F w w1.drew:=⟨h.os,h.tape,h.output,h.size,h.block⟩
theorem Mods.drewN(h:Mods F w w1)(n:Nat):Mods F w (w1.drewN n):=⟨h.os,h.tape,h.output,h.size,h.block⟩
theorem Mods.alloc(h:Mods F w w1)(o:Obj):Mods F w (w1.alloc o) :=
 ⟨h.os,h.tape,h.output,Nat.le_trans h.size (by simp),λi hi hn=>(Below.heap_alloc _ _ _ (Nat.lt_of_lt_of_le hi h.size)).trans (h.block i hi hn)⟩
theorem Mods.setCell(h:Mods F w w1){p:Addr}(hp:w.heap.size≤p.block∨F p.block)(u:Value):Mods F w (w1.setCell p u) :=
 ⟨h.os,h.tape,h.output,Nat.le_trans h.size (by simp[World.setCell]),λi hi hn=>(Below.heap_setCell _ _ _ _ (by rintro rfl;rcases hp with hp|hp;omega;exact hn hp)).trans (h.block i hi hn)⟩
theorem Mods.grown{row:Option Nat}(h:Mods F w w1)(hg:w1.grownBy w2 row)(hr:∀k,row=some k→w.heap.size≤k∨F k):Mods F w w2 :=
 ⟨hg.os.trans h.os,hg.tape.trans h.tape,hg.output.trans h.output,Nat.le_trans h.size hg.size,
  λi hi hn=>(hg.block i (Nat.lt_of_lt_of_le hi h.size) (λe=>by rcases hr i e.symm with h|h;omega;exact hn h)).trans (h.block i hi hn)⟩
theorem Mods.below(h:Ext w w'):Below w.heap.size w w':=⟨h.os,h.tape,h.output,h.size,λi hi=>h.block i hi (λf=>f)⟩
theorem Mods.ext(h:Ext w w'):Mods F w w':=h.mono (λ_ f=>f.elim)
theorem Mods.cell(h:Mods F w w'){b o:Nat}(hb:b<w.heap.size)(hF:¬ F b):w'.cell? ⟨b,o,none⟩=w.cell? ⟨b,o,none⟩:=World.cell?_of_block (w:=w) (h.block b hb hF)
theorem Mods.frozen(h:Mods F w w'){b o:Nat}(hb:b<w.heap.size)(hF:¬ F b):w'.frozen? ⟨b,o,none⟩=w.frozen? ⟨b,o,none⟩:=World.frozen?_of_block (w:=w) (h.block b hb hF)
end
def Sl{α:Type}(F:Nat→Prop)(w:World)(sz:Nat)(enc:α→List Value)(v:Value)(l:List α):Prop :=
 ∃a cap,v=.slice a l.length cap∧l.length≤cap∧cap≤maxLen∧l.length≤140737488355328 ∧
  (l=[]∨∃b off,a=some ⟨b,off,none⟩∧b<w.heap.size∧¬ F b∧∀i x,l[i]? = some x→∀j u,(enc x)[j]? = some u→w.cell? ⟨b,off+i * sz+j,none⟩=some u)
section
variable {α:Type}{F G:Nat→Prop}{w w':World}{sz:Nat}{enc:α→List Value}{v:Value}{l:List α}
theorem Sl.mods(h:Sl F w sz enc v l)(m:Mods F w w'):Sl F w' sz enc v l:=by
 obtain⟨a,cap,rfl,h1,h2,h3,h4⟩:=h;refine⟨a,cap,rfl,h1,h2,h3,?_⟩;rcases h4 with h4|⟨b,off,rfl,hb,hF,hc⟩
 ·exact .inl h4
 ·exact .inr ⟨b,off,rfl,Nat.lt_of_lt_of_le hb m.size,hF,λi x hi j u hu=>(m.cell hb hF).trans (hc i x hi j u hu)⟩
theorem Sl.step(h:Sl F w sz enc v l)(m:Mods F w w')(hG:∀k,k<w.heap.size→¬ F k→¬ G k):Sl G w' sz enc v l:=by
 obtain⟨a,cap,rfl,h1,h2,h3,h4⟩:=h;refine⟨a,cap,rfl,h1,h2,h3,?_⟩;rcases h4 with h4|⟨b,off,rfl,hb,hF,hc⟩
 ·exact .inl h4
 ·exact .inr ⟨b,off,rfl,Nat.lt_of_lt_of_le hb m.size,hG b hb hF,λi x hi j u hu=>(m.cell hb hF).trans (hc i x hi j u hu)⟩
theorem Sl.anti(h:Sl F w sz enc v l)(hG:∀k,k<w.heap.size→G k→F k):Sl G w sz enc v l :=
 h.step (Mods.refl _ _) (λk hk hF hg=>hF (hG k hk hg))
theorem Sl.at{a:Option Addr}(h:l=[]∨∃b off,a=some ⟨b,off,none⟩∧b<w.heap.size∧¬ F b∧∀i x,l[i]? = some x→∀j u,(enc x)[j]? = some u→w.cell? ⟨b,off+i * sz+j,none⟩=some u)
  (m:Mods G w w') (hG:∀k,k<w.heap.size→G k→F k) (k:Nat) (hk:k<l.length) :
  ∃b off,a=some ⟨b,off,none⟩∧b<w.heap.size∧¬ F b∧∀j u,(enc l[k])[j]? = some u→w'.cell? ⟨b,off+k * sz+j,none⟩=some u:=by
 rcases h with h|⟨b,off,ha,hb,hF,hc⟩
 ·rw[h] at hk;simp at hk
 ·exact⟨b,off,ha,hb,hF,λj u hu=>(m.cell hb (λg=>hF (hG b hb g))).trans (hc k l[k] (by simp[hk]) j u hu)⟩
theorem Sl.atE{a:Option Addr}(h:l=[]∨∃b off,a=some ⟨b,off,none⟩∧b<w.heap.size∧¬ F b∧∀i x,l[i]? = some x→∀j u,(enc x)[j]? = some u→w.cell? ⟨b,off+i * sz+j,none⟩=some u)
  (m:Ext w w') (k:Nat) (hk:k<l.length) :
  ∃b off,a=some ⟨b,off,none⟩∧b<w.heap.size∧¬ F b∧∀j u,(enc l[k])[j]? = some u→w'.cell? ⟨b,off+k * sz+j,none⟩=some u :=
 Sl.at h m (λ_ _ f=>f.elim) k hk
theorem Sl.one{x:α}{b:Nat}{t:TypeId}{fz:Nat × Nat}(h:w.heap[b]? = some (.cells (enc x).toArray t fz))(hF:¬ F b):Sl F w sz enc (.slice (some ⟨b,0,none⟩) 1 1) [x]:=by
 refine⟨_,1,rfl,Nat.le_refl _,by simp[maxLen],by simp,.inr ⟨b,0,rfl,(Array.getElem?_eq_some_iff.1 h).1,hF,λi y hi j u hu=>?_⟩⟩;match i,hi with
 | 0,hi =>
  simp at hi;subst hi;rw[cells_of_block h];simpa using hu
theorem Sl.nil(F:Nat→Prop)(w:World)(sz:Nat)(enc:α→List Value):Sl F w sz enc (.slice none 0 0) []:=⟨none,0,rfl,Nat.le_refl _,by simp[maxLen],by simp,.inl rfl⟩
end
structure EntryA where
 key:ByteArray
 value:ByteArray
 chain:Int
 size:Int
structure NodeA where
 leaf:Bool
 entries:List EntryA
 keys:List ByteArray
 kids:List Int
def encE(e:EntryA):List Value:=[.string e.key,.string e.value,.int .i64 e.chain,.int .i64 e.size]
def encP(p:ByteArray × ByteArray):List Value:=[.string p.1,.string p.2]
def encS(s:ByteArray):List Value:=[.string s]
def encI(n:Int):List Value:=[.int .i64 n]
def encB(b:UInt8):List Value:=[.int .u8 (b.toNat:Int)]
def encV(v:Value):List Value:=[v]
def keyB(s:ByteArray):Bool:=decide (1≤(s.size:Int)) && decide ((s.size:Int)≤32)
theorem keyB_iff(s:ByteArray):keyB s=true ↔ 1≤s.size∧s.size≤32:=by simp[keyB];omega
def leS(a b:ByteArray):Bool:=Op.bytesLess a.toList b.toList || a.toList == b.toList
def ltS(a b:ByteArray):Bool:=Op.bytesLess a.toList b.toList
def weightE(e:EntryA):Int:=2+e.key.size+(if e.chain=0 then 1+(e.value.size:Int) else 8)
def sumE:List EntryA→Int
 | []=>0
 | e :: r=>weightE e+sumE r
def sumK:List ByteArray→Int
 | []=>0
 | k :: r=>(5+(k.size:Int))+sumK r
def weightN(n:NodeA):Int:=2+(if n.leaf then 0 else 4)+sumE n.entries+sumK n.keys
theorem weightE_nonneg(e:EntryA):2≤weightE e:=by unfold weightE;split <;> omega
theorem sumE_nonneg(l:List EntryA):0≤sumE l:=by
 induction l with
 | nil=>simp[sumE]
 | cons e r ih=>have:=weightE_nonneg e;simp only[sumE];omega
theorem sumK_nonneg(l:List ByteArray):0≤sumK l:=by
 induction l with
 | nil=>simp[sumK]
 | cons e r ih=>simp only[sumK];omega
theorem sumE_append(l r:List EntryA):sumE (l++r)=sumE l+sumE r:=by
 induction l with
 | nil=>simp[sumE]
 | cons e l ih=>simp only[List.cons_append,sumE,ih];omega
theorem sumK_append(l r:List ByteArray):sumK (l++r)=sumK l+sumK r:=by
 induction l with
 | nil=>simp[sumK]
 | cons e l ih=>simp only[List.cons_append,sumK,ih];omega
theorem take_one{α:Type}(l:List α)(k:Nat)(x:α)(h:l[k]? = some x):l.take (k+1)=l.take k++[x]:=by
 rw[List.take_add_one,h];rfl
theorem sumE_take_le(l:List EntryA)(k:Nat):sumE (l.take k)≤sumE l:=by
 have:=sumE_append (l.take k) (l.drop k);rw[List.take_append_drop] at this;have:=sumE_nonneg (l.drop k);omega
theorem sumK_take_le(l:List ByteArray)(k:Nat):sumK (l.take k)≤sumK l:=by
 have:=sumK_append (l.take k) (l.drop k);rw[List.take_append_drop] at this;have:=sumK_nonneg (l.drop k);omega
end
section
def leB:Nat→Nat→List UInt8
 | 0,_=>[]
 | W+1,n=>UInt8.ofNat n :: leB W (n / 256)
def ofLe:List UInt8→Nat
 | []=>0
 | x :: l=>x.toNat+256 * ofLe l
theorem leB_length:∀W n,(leB W n).length=W
 | 0,_=>rfl
 | W+1,n=>by simp[leB,leB_length W]
theorem ofLe_leB:∀W n,ofLe (leB W n)=n % 256 ^ W
 | 0,n=>by simp[leB,ofLe,Nat.mod_one]
 | W+1,n=>by
  rw[leB,ofLe,ofLe_leB W];rw[Nat.pow_succ,Nat.mul_comm (256 ^ W) 256,Nat.mod_mul];simp
theorem ofLe_lt:∀l,ofLe l<256 ^ l.length
 | []=>by simp[ofLe]
 | x :: l=>by
  have:=ofLe_lt l;have hx:=x.toNat_lt;rw[ofLe,List.length_cons,Nat.pow_succ];omega
theorem ofLe_take_step(l:List UInt8)(q m W:Nat)(x:UInt8)(hm:m<W)(hx:l[q+m]? = some x) :
  ofLe ((l.drop (q+m)).take (W-m))=ofLe ((l.drop (q+(m+1))).take (W-(m+1))) * 256+x.toNat:=by
 obtain⟨hlt,he⟩:=List.getElem?_eq_some_iff.1 hx;rw[List.drop_eq_getElem_cons hlt,he,show W-m=(W-(m+1))+1 by omega,List.take_succ_cons,ofLe];rw[show q+m+1=q+(m+1) by omega];omega
theorem ofLe_take_lt(l:List UInt8)(q m W:Nat):ofLe ((l.drop (q+m)).take (W-m))<256 ^ (W-m) :=
 Nat.lt_of_lt_of_le (ofLe_lt _) (Nat.pow_le_pow_right (by decide) (by simp[List.length_take];omega))
def crcStep(r:Nat):Nat:=if r % 2=1 then (r / 2) ^^^ 3988292384 else r / 2
def crcIter:Nat→Nat→Nat
 | 0,r=>r
 | k+1,r=>crcIter k (crcStep r)
def crcEntry(n:Nat):Nat:=crcIter 8 n
def crcByte(r x:Nat):Nat:=(r / 256) ^^^ crcEntry ((r % 256) ^^^ x)
def crcMore(r:Nat):List UInt8→Nat
 | []=>r
 | x :: l=>crcMore (crcByte r x.toNat) l
def crcSum(l:List UInt8):Nat:=4294967295 ^^^ crcMore 4294967295 l
theorem crcStep_lt(r:Nat)(h:r<4294967296):crcStep r<4294967296:=by
 unfold crcStep;split
 ·exact Nat.xor_lt_two_pow (n:=32) (by omega) (by decide)
 ·omega
theorem crcIter_lt:∀k r,r<4294967296→crcIter k r<4294967296
 | 0,_,h=>h
 | k+1,r,h=>crcIter_lt k _ (crcStep_lt r h)
theorem crcEntry_lt(n:Nat)(h:n<256):crcEntry n<4294967296:=crcIter_lt 8 n (by omega)
theorem crcByte_lt(r x:Nat)(h:r<4294967296)(hx:x<256):crcByte r x<4294967296 :=
 Nat.xor_lt_two_pow (n:=32) (by omega) (crcEntry_lt _ (Nat.xor_lt_two_pow (n:=8) (by omega) hx))
theorem crcMore_lt:∀(l:List UInt8) (r:Nat),r<4294967296→crcMore r l<4294967296
 | [],_,h=>h
 | x :: l,r,h=>crcMore_lt l _ (crcByte_lt r x.toNat h x.toNat_lt)
theorem crcSum_lt(l:List UInt8):crcSum l<4294967296:=Nat.xor_lt_two_pow (n:=32) (by decide) (crcMore_lt l _ (by decide))
structure PageA where
 kind:Int
 id:Int
 gen:Nat
 body:List UInt8
def kindB(k:Int):Bool:=decide (k=1) || decide (k=2) || decide (k=3) || decide (k=4) || decide (k=5)
def sizedB(s:Int):Bool:=decide (256≤s) && decide (s≤1024)
def pgCheck(p:PageA)(size:Int):Option (List Int × Nat) :=
 if sizedB size=false then some ([-1],2)
 else if kindB p.kind=false∨p.id<0∨256≤p.id∨size-24<(p.body.length:Int) then some ([-1],1) else none
def rawP(p:PageA)(size:Nat):List UInt8 :=
 leB 1 p.kind.toNat++leB 1 0++leB 2 p.body.length++leB 4 p.id.toNat++leB 8 p.gen++leB 4 0++p.body++List.replicate (size-4-(20+p.body.length)) 0
def sealP(p:PageA)(size:Nat):List UInt8:=rawP p size++leB 4 (crcSum (rawP p size))
theorem rawP_length(p:PageA)(size:Nat)(h:p.body.length+24≤size):(rawP p size).length=size-4:=by
 simp only[rawP,List.length_append,leB_length,List.length_replicate];omega
theorem sealP_length(p:PageA)(size:Nat)(h:p.body.length+24≤size):(sealP p size).length=size:=by
 rw[sealP,List.length_append,rawP_length p size h,leB_length];omega
theorem pgCheck_none{p:PageA}{size:Int}(h:pgCheck p size=none):256≤size∧size≤1024∧kindB p.kind=true∧0≤p.id∧p.id<256∧(p.body.length:Int)+24≤size:=by
 unfold pgCheck at h;split at h
 ·cases h
 ·rename_i h1;split at h
  ·cases h
  ·rename_i h2;simp only[not_or,Bool.not_eq_false,Int.not_lt,Int.not_le] at h1 h2;simp only[sizedB,Bool.and_eq_true,decide_eq_true_eq] at h1;exact⟨h1.1,h1.2,h2.1,h2.2.1,h2.2.2.1,by omega⟩
theorem kindB_range{k:Int}(h:kindB k=true):1≤k∧k≤5:=by
 simp only[kindB,Bool.or_eq_true,decide_eq_true_eq] at h;omega
def numAt(l:List UInt8)(i W:Nat):Nat:=ofLe ((l.drop i).take W)
def readP(l:List UInt8):PageA :=
  { kind:=(numAt l 0 1:Nat),id:=(numAt l 4 4:Nat),gen:=numAt l 8 8,
    body:=if numAt l 2 2≤l.length-24 then (l.drop 20).take (numAt l 2 2) else [] }
theorem numAt_lt(l:List UInt8)(i W:Nat):numAt l i W<256 ^ W :=
 Nat.lt_of_lt_of_le (ofLe_lt _) (Nat.pow_le_pow_right (by decide) (by simp[List.length_take];omega))
def openB(l:List UInt8):Bool:=decide (pgCheck (readP l) (l.length:Int)=none) && decide (sealP (readP l) l.length=l)
def openId(l:List UInt8):Int:=if 256≤(readP l).id then -1 else (readP l).id
def openAtP(l:List UInt8)(id:Int):PageA ⊕ (List Int × Nat) :=
 if openB l=false then .inr ([-1,openId l],5) else if (readP l).id≠id then .inr ([if id < -1 then -1 else id],5) else .inl (readP l)
theorem readP_gen(l:List UInt8):(readP l).gen<18446744073709551616:=numAt_lt l 8 8
theorem readP_id(l:List UInt8):0≤(readP l).id∧(readP l).id<4294967296:=by
 have:=numAt_lt l 4 4;have h:(readP l).id=(numAt l 4 4:Nat):=rfl;constructor
 ·omega
 ·rw[h];have:numAt l 4 4<4294967296:=this;omega
structure DiskA where
 blocks:Nat
 size:Nat
 lasting:List (List UInt8)
 waiting:List (Nat × List UInt8)
 lit:Bool
 after:Int
 torn:Int
 cut:Int
 keep:List Bool
 off:Bool
 count:Int
def lookW(i:Nat):List (Nat × List UInt8)→Option (List UInt8)
 | []=>none
 | (j,b) :: l=>match lookW i l with
  | some c=>some c
  | none=>if j=i then some b else none
def DiskA.look(D:DiskA)(i:Nat):List UInt8:=(lookW i D.waiting).getD (D.lasting.getD i [])
def DiskA.check(D:DiskA)(i:Int):Option (List Int × Nat):=if i<0∨(D.blocks:Int)≤i then some ([if i < -1 then -1 else i],2) else none
def DiskA.on(D:DiskA)(i:Int):Option (List Int × Nat) :=
 match D.check i with
 | some e=>some e
 | none=>if D.off then some ([if i < -1 then -1 else i],7) else none
def settle:List (List UInt8)→List (Nat × List UInt8)→List (List UInt8)
 | l,[]=>l
 | l,(i,b) :: r=>settle (l.set i b) r
def crashes(keep:List Bool)(torn cut:Int):Nat→List (List UInt8)→List (Nat × List UInt8)→List (List UInt8)
 | _,l,[]=>l
 | k,l,(i,b) :: r =>
  let old:=l.getD i []
  let c:=(max 0 (min cut (b.length:Int))).toNat
  crashes keep torn cut (k+1) (if (k:Int)=torn then l.set i (b.take c++old.drop c) else if keep.getD k false then l.set i (b++old.drop b.length) else l) r
def DiskA.crash(D:DiskA)(keep:List Bool)(torn cut:Int):DiskA:={ D with lasting:=crashes keep torn cut 0 D.lasting D.waiting,waiting:=[] }
def DiskA.burns(D:DiskA):Bool × DiskA :=
 if D.lit && decide (D.after=0) then
  (true,{ D with lit:=false,after:=0,torn:=0,cut:=0,keep:=[],off:=true }.crash D.keep D.torn D.cut)
 else (false,{ D with after:=RowKit.wrap64 (D.after-1),count:=RowKit.wrap64 (D.count+1) })
def newDisk(blocks size:Nat):DiskA :=
  { blocks:=blocks,size:=size,lasting:=List.replicate blocks (List.replicate size 0),waiting:=[],lit:=false,after:=0,torn:=0,cut:=0,keep:=[],off:=false,count:=0 }
theorem lookW_append(i:Nat)(l r:List (Nat × List UInt8)):lookW i (l++r)=(lookW i r).or (lookW i l):=by
 induction l with
 | nil=>simp[lookW]
 | cons x l ih =>
  obtain⟨j,b⟩:=x;rw[List.cons_append,lookW,ih,lookW];cases lookW i r <;> cases lookW i l <;> rfl
theorem lookW_none(i:Nat):∀(l:List (Nat × List UInt8)),(∀p∈l,p.1≠i)→lookW i l=none
 | [],_=>rfl
 | (j,b) :: l,h=>by
  rw[lookW,lookW_none i l (λp hp=>h p (List.mem_cons_of_mem _ hp)),if_neg (h (j,b) List.mem_cons_self)]
theorem lookW_at(i:Nat)(l:List (Nat × List UInt8))(k:Nat)(b:List UInt8)(hk:l[k]? = some (i,b))(h:∀j p,k<j→l[j]? = some p→p.1≠i):lookW i l=some b:=by
 obtain⟨hlt,he⟩:=List.getElem?_eq_some_iff.1 hk;have h1:l=l.take k++(i,b) :: l.drop (k+1):=by
  rw[← he,← List.drop_eq_getElem_cons hlt,List.take_append_drop]
 have h2:lookW i (l.drop (k+1))=none:=lookW_none i _ (λp hp=>by
  obtain⟨j,hj,he2⟩:=List.getElem_of_mem hp;rw[List.getElem_drop] at he2;have hj2:k+1+j<l.length:=by simp at hj;omega
  exact h (k+1+j) p (by omega) (by rw[List.getElem?_eq_getElem hj2,he2]))
 rw[h1,lookW_append,lookW,h2,if_pos rfl];rfl
theorem numAt_mid(A B:List UInt8)(W n:Nat)(i:Nat)(hi:A.length=i)(hn:n<256 ^ W):numAt (A++(leB W n++B)) i W=n:=by
 unfold numAt;rw[List.drop_append_of_le_length (by omega),List.drop_of_length_le (by omega),List.nil_append,List.take_append_of_le_length (by rw[leB_length];omega),List.take_of_length_le (by rw[leB_length];omega),ofLe_leB];exact Nat.mod_eq_of_lt hn
def layB(k n i g:Nat)(b R:List UInt8):List UInt8:=leB 1 k++(leB 1 0++(leB 2 n++(leB 4 i++(leB 8 g++(leB 4 0++(b++R))))))
theorem layB_0(k n i g:Nat)(b R:List UInt8)(h:k<256):numAt (layB k n i g b R) 0 1=k:=numAt_mid [] _ 1 k 0 rfl (by simpa using h)
theorem layB_2(k n i g:Nat)(b R:List UInt8)(h:n<65536):numAt (layB k n i g b R) 2 2=n:=by
 unfold layB;have:leB 1 k++(leB 1 0++(leB 2 n++(leB 4 i++(leB 8 g++(leB 4 0++(b++R))))))=(leB 1 k++leB 1 0)++(leB 2 n++(leB 4 i++(leB 8 g++(leB 4 0++(b++R))))):=by simp only[List.append_assoc]
 rw[this];exact numAt_mid _ _ 2 n 2 (by simp[leB_length]) (by simpa using h)
theorem layB_4(k n i g:Nat)(b R:List UInt8)(h:i<4294967296):numAt (layB k n i g b R) 4 4=i:=by
 unfold layB;have:leB 1 k++(leB 1 0++(leB 2 n++(leB 4 i++(leB 8 g++(leB 4 0++(b++R))))))=(leB 1 k++leB 1 0++leB 2 n)++(leB 4 i++(leB 8 g++(leB 4 0++(b++R)))):=by simp only[List.append_assoc]
 rw[this];exact numAt_mid _ _ 4 i 4 (by simp[leB_length]) (by simpa using h)
theorem layB_8(k n i g:Nat)(b R:List UInt8)(h:g<256 ^ 8):numAt (layB k n i g b R) 8 8=g:=by
 unfold layB;have:leB 1 k++(leB 1 0++(leB 2 n++(leB 4 i++(leB 8 g++(leB 4 0++(b++R))))))=(leB 1 k++leB 1 0++leB 2 n++leB 4 i)++(leB 8 g++(leB 4 0++(b++R))):=by simp only[List.append_assoc]
 rw[this];exact numAt_mid _ _ 8 g 8 (by simp[leB_length]) h
theorem layB_b(k n i g:Nat)(b R:List UInt8):((layB k n i g b R).drop 20).take b.length=b:=by
 unfold layB;have:leB 1 k++(leB 1 0++(leB 2 n++(leB 4 i++(leB 8 g++(leB 4 0++(b++R))))))=(leB 1 k++leB 1 0++leB 2 n++leB 4 i++leB 8 g++leB 4 0)++(b++R):=by simp only[List.append_assoc]
 rw[this,List.drop_append_of_le_length (by simp[leB_length]),List.drop_of_length_le (by simp[leB_length]),List.nil_append,List.take_append_of_le_length (Nat.le_refl _),List.take_of_length_le (Nat.le_refl _)]
theorem sealP_lay(p:PageA)(size:Nat):∃R,sealP p size=layB p.kind.toNat p.body.length p.id.toNat p.gen p.body R:=by
 refine⟨List.replicate (size-4-(20+p.body.length)) 0++leB 4 (crcSum (rawP p size)),?_⟩;unfold sealP;generalize leB 4 (crcSum (rawP p size))=C
 unfold rawP layB;simp only[List.append_assoc]
theorem sealP_read{p:PageA}{size:Nat}(hc:pgCheck p size=none)(hg:p.gen<18446744073709551616):readP (sealP p size)=p:=by
 obtain⟨h1,h2,h3,h4,h5,h6⟩:=pgCheck_none hc;have hk:=kindB_range h3;have hlen:=sealP_length p size (by omega);obtain⟨R,hR⟩:=sealP_lay p size;unfold readP;rw[hlen,hR,layB_0 _ _ _ _ _ _ (by omega),layB_2 _ _ _ _ _ _ (by omega),layB_4 _ _ _ _ _ _ (by omega),layB_8 _ _ _ _ _ _ (by exact hg),layB_b,if_pos (by omega)];obtain⟨pk,pi,pg,pb⟩:=p;simp only[PageA.mk.injEq,and_true] at *;exact⟨by omega,by omega⟩
theorem seal_open{p:PageA}{size:Nat}(hc:pgCheck p size=none)(hg:p.gen<18446744073709551616):openB (sealP p size)=true:=by
 have hlen:=sealP_length p size (by have:=pgCheck_none hc;omega);unfold openB;rw[sealP_read hc hg,hlen,hc];simp
theorem seal_openAt{p:PageA}{size:Nat}(hc:pgCheck p size=none)(hg:p.gen<18446744073709551616):openAtP (sealP p size) p.id=.inl p:=by
 unfold openAtP;rw[seal_open hc hg,sealP_read hc hg];simp
theorem xor_div2(a b:Nat):(a ^^^ b) / 2=(a / 2) ^^^ (b / 2):=by
 apply Nat.eq_of_testBit_eq;intro i
 simp[Nat.testBit_xor,Nat.testBit_div_two]
theorem xor_mod2(a b:Nat):(a ^^^ b) % 2=(a+b) % 2:=by
 have h:=Nat.testBit_xor a b 0;simp only[Nat.testBit_zero] at h;have h1:=Nat.mod_two_eq_zero_or_one a;have h2:=Nat.mod_two_eq_zero_or_one b;have h3:=Nat.mod_two_eq_zero_or_one (a ^^^ b);rcases h1 with h1|h1 <;> rcases h2 with h2|h2 <;> rcases h3 with h3|h3 <;> rw[h1,h2,h3] at h <;> first|omega|(simp at h;done)|(exfalso;revert h;decide)
theorem crcStep_xor(a b:Nat):crcStep (a ^^^ b)=crcStep a ^^^ crcStep b:=by
 unfold crcStep;rw[xor_mod2,xor_div2];have ha:=Nat.mod_two_eq_zero_or_one a;have hb:=Nat.mod_two_eq_zero_or_one b;rcases ha with ha|ha <;> rcases hb with hb|hb
 ·rw[if_neg (by omega),if_neg (by omega),if_neg (by omega)]
 ·rw[if_pos (by omega),if_neg (by omega),if_pos (by omega),Nat.xor_assoc]
 ·rw[if_pos (by omega),if_pos (by omega),if_neg (by omega),Nat.xor_assoc,Nat.xor_assoc,Nat.xor_comm (b / 2)]
 ·rw[if_neg (by omega),if_pos (by omega),if_pos (by omega)];rw[Nat.xor_assoc,← Nat.xor_assoc 3988292384,Nat.xor_comm 3988292384,Nat.xor_assoc,Nat.xor_self,Nat.xor_zero]
theorem crcStep_two(v:Nat):crcStep (2 * v)=v:=by unfold crcStep;rw[if_neg (by omega)];omega
theorem crcStep_inj(a b:Nat)(ha:a<4294967296)(hb:b<4294967296)(h:crcStep a=crcStep b):a=b:=by
 unfold crcStep at h;have ha2:a / 2<2147483648:=by omega
 have hb2:b / 2<2147483648:=by omega
 have big:∀x y,x<2147483648→y<2147483648→x ^^^ 3988292384=y→False:=by
  intro x y hx hy e;have e2:x ^^^ y=3988292384:=by rw[← e,← Nat.xor_assoc,Nat.xor_self,Nat.zero_xor]
  have:=Nat.xor_lt_two_pow (n:=31) hx hy;omega
 split at h <;> split at h
 ·have:a / 2=b / 2:=by
   have e:=congrArg (· ^^^ 3988292384) h;simpa[Nat.xor_assoc,Nat.xor_self] using e
  omega
 ·exact (big _ _ ha2 hb2 h).elim
 ·exact (big _ _ hb2 ha2 h.symm).elim
 ·omega
def stepBit(r:Nat)(b:Bool):Nat:=crcStep (r ^^^ b.toNat)
def val:List Bool→Nat
 | []=>0
 | b :: l=>b.toNat+2 * val l
theorem xor_bit(b:Bool)(v:Nat):b.toNat+2 * v=b.toNat ^^^ (2 * v):=by
 apply Nat.eq_of_testBit_eq;intro i
 cases i with
 | zero=>cases b <;> simp[Nat.testBit_zero] <;> omega
 | succ i =>
  rw[Nat.testBit_xor];simp only[Nat.testBit_succ];cases b <;> simp <;> congr 1 <;> omega
theorem fold_val:∀(l:List Bool) (s:Nat),l.foldl stepBit s=crcIter l.length (s ^^^ val l)
 | [],s=>by simp[crcIter,val]
 | b :: l,s=>by
  rw[List.foldl_cons,fold_val l,List.length_cons,crcIter,val,xor_bit,← Nat.xor_assoc,crcStep_xor,crcStep_two];rfl
theorem val_lt:∀l:List Bool,val l<2 ^ l.length
 | []=>by simp[val]
 | b :: l=>by have:=val_lt l;rw[val,List.length_cons,Nat.pow_succ];cases b <;> simp <;> omega
theorem val_inj:∀(l m:List Bool),l.length=m.length→val l=val m→l=m
 | [],[],_,_=>rfl
 | [],_ :: _,h,_=>by simp at h
 | _ :: _,[],h,_=>by simp at h
 | b :: l,c :: m,h,hv=>by
  simp only[val] at hv;have hb:b=c:=by cases b <;> cases c <;> simp at hv <;> first|rfl|omega
  subst hb;rw[val_inj l m (by simpa using h) (by omega)]
theorem crcIter_inj:∀k a b,a<4294967296→b<4294967296→crcIter k a=crcIter k b→a=b
 | 0,_,_,_,_,h=>h
 | k+1,a,b,ha,hb,h=>crcStep_inj a b ha hb (crcIter_inj k _ _ (crcStep_lt a ha) (crcStep_lt b hb) h)
theorem bit_lt(b:Bool):b.toNat<4294967296:=by cases b <;> decide
theorem stepBit_lt(s:Nat)(b:Bool)(h:s<4294967296):stepBit s b<4294967296:=crcStep_lt _ (Nat.xor_lt_two_pow (n:=32) h (bit_lt b))
theorem fold_lt:∀(l:List Bool) (s:Nat),s<4294967296→l.foldl stepBit s<4294967296
 | [],_,h=>h
 | b :: l,s,h=>fold_lt l _ (stepBit_lt s b h)
theorem xor_cancel(a b c:Nat)(h:a ^^^ b=a ^^^ c):b=c:=by
 have e:=congrArg (a ^^^ ·) h;simpa[← Nat.xor_assoc,Nat.xor_self] using e
theorem stepBit_inj(a b:Nat)(x:Bool)(ha:a<4294967296)(hb:b<4294967296)(h:stepBit a x=stepBit b x):a=b:=by
 have:=crcStep_inj _ _ (Nat.xor_lt_two_pow (n:=32) ha (bit_lt x)) (Nat.xor_lt_two_pow (n:=32) hb (bit_lt x)) h;rw[Nat.xor_comm a,Nat.xor_comm b] at this;exact xor_cancel _ _ _ this
theorem fold_inj:∀(l:List Bool) (a b:Nat),a<4294967296→b<4294967296→l.foldl stepBit a=l.foldl stepBit b→a=b
 | [],_,_,_,_,h=>h
 | x :: l,a,b,ha,hb,h=>stepBit_inj a b x ha hb (fold_inj l _ _ (stepBit_lt a x ha) (stepBit_lt b x hb) h)
theorem burst(p x y q:List Bool)(s:Nat)(hs:s<4294967296)(hl:x.length=y.length)(h32:x.length≤32)(h:(p++x++q).foldl stepBit s=(p++y++q).foldl stepBit s):x=y:=by
 simp only[List.foldl_append] at h;have h0:=fold_lt p s hs;have h1:=fold_inj q _ _ (fold_lt x _ h0) (fold_lt y _ h0) h;generalize p.foldl stepBit s=s0 at h0 h1
 rw[fold_val,fold_val,hl] at h1;have hp:(2:Nat) ^ y.length≤2 ^ 32:=Nat.pow_le_pow_right (by omega) (by omega);have hvx:=val_lt x;have hvy:=val_lt y;rw[hl] at hvx;have h2:=crcIter_inj _ _ _ (Nat.xor_lt_two_pow (n:=32) h0 (by omega)) (Nat.xor_lt_two_pow (n:=32) h0 (by omega)) h1;exact val_inj _ _ hl (xor_cancel _ _ _ h2)
def bitAt(l:List UInt8)(p:Nat):Bool:=(l.getD (p / 8) 0).toNat.testBit (p % 8)
end
end Go.Proofs.YteabpacpngaoaaaGreatDoor
