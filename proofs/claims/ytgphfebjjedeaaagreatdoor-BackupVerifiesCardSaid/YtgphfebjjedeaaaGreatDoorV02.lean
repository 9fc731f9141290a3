import Derived.Test.YtgphfebjjedeaaaGreatDoorV00
import Derived.WalkKit
import Derived.WalkSpells
import Derived.WalkLawsBesides
import Derived.Handy
import Derived.RowKit
namespace Go.Proofs.YtgphfebjjedeaaaGreatDoor
section
inductive gT|mk(c s g:Nat)
inductive gV|mk
inductive gW|mk
abbrev gP:=gT.mk
abbrev gB:=gV.mk
abbrev gE:=gW.mk
variable{c s g:Nat}
instance:CoeDep gT (.mk c s g) (Array Value):=⟨#[.pointer (some ⟨c,0,none⟩),.pointer (some ⟨s,0,none⟩),.int .u64 (g:Int)]⟩
instance:CoeDep gT (.mk c s g) Obj:=⟨.cells #[.pointer (some ⟨c,0,none⟩),.pointer (some ⟨s,0,none⟩),.int .u64 (g:Int)] 140⟩
instance:CoeDep gV .mk (Array Value):=⟨#[.bool false,.slice none 0 0,.slice none 0 0,.slice none 0 0]⟩
instance:CoeDep gV .mk Obj:=⟨.cells #[.bool false,.slice none 0 0,.slice none 0 0,.slice none 0 0] 277⟩
instance:CoeDep gW .mk (Array Value):=⟨#[.int .i64 0,.int .i64 0,.int .u64 0,.slice none 0 0]⟩
instance:CoeDep gW .mk Obj:=⟨.cells #[.int .i64 0,.int .i64 0,.int .u64 0,.slice none 0 0] 272⟩
end
section
open Go.RowKit
theorem zEp{k:IntKind}{a b:Int}(h:a=b):Ending.returned (.int k a)=.returned (.int k b):=by rw[h]
theorem zY{a b:Bool}(h:a=b):Ending.returned (.bool a)=.returned (.bool b):=by rw[h]
theorem zEq{k:IntKind}{a b:Int}(h:a=b):Value.int k a=.int k b:=by rw[h]
theorem yH{w:World}{b o:Nat}{v:Value}(h:w.cell? ⟨b,o,none⟩=some v):b<w.heap.size:=World.block_lt_of_cell? w ⟨b,o,none⟩ h
theorem zP{w:World}{b o:Nat}{v:Value}(h:w.cell? ⟨b,o,none⟩=some v)(x:Obj):(w.alloc x).cell? ⟨b,o,none⟩=some v :=
 (World.cell?_of_block (w:=w) (Below.heap_alloc w x b (yH h))).trans h
theorem yW{w:World}{b:Nat}{c:Array Value}{t:TypeId}{fz:Nat × Nat}(h:w.heap[b]? = some (.cells c t fz))(o:Nat):w.cell? ⟨b,o,none⟩=c[o]?:=by
 simp[World.cell?,h]
theorem zM{w:World}{o:Obj}{b:Nat}(h:b=w.heap.size):(w.alloc o).heap[b]? = some o:=by subst h;exact heap_alloc_new w o
structure zA(F:NP)(w w':World):Prop where
 os:w'.os=w.os
 tape:w'.tape=w.tape
 output:w'.output=w.output
 size:w.heap.size<=w'.heap.size
 block:∀k,k<w.heap.size->¬ F k->w'.heap[k]? = w.heap[k]?
abbrev zG(w w':World):Prop:=zA (λ_=>False) w w'
section
variable {F G:NP}{w w1 w2 w':World}
theorem zA.refl(F:NP)(w:World):zA F w w:=⟨rfl,rfl,rfl,uJ _,λ_ _ _=>rfl⟩
theorem zr{F:NP}{w:World}:zA F w w:=zA.refl F w
theorem zss{F:NP}(w:World):zA F w w:=zA.refl F w
theorem zA.trans(h:zA F w w1)(k:zA F w1 w2):zA F w w2 :=
 ⟨k.os.trans h.os,k.tape.trans h.tape,k.output.trans h.output,uT h.size k.size,λi hi hn=>(k.block i (uG hi h.size) hn).trans (h.block i hi hn)⟩
theorem zA.trans'(h:zA F w w1)(k:zA G w1 w2)(hG:∀i,i<w.heap.size->G i->F i):zA F w w2 :=
 ⟨k.os.trans h.os,k.tape.trans h.tape,k.output.trans h.output,uT h.size k.size,λi hi hn=>(k.block i (uG hi h.size) (λg=>hn (hG i hi g))).trans (h.block i hi hn)⟩
theorem zA.mono(h:zA F w w')(hG:∀i,F i->G i):zA G w w':=⟨h.os,h.tape,h.output,h.size,λi hi hn=>h.block i hi (λf=>hn (hG i f))⟩
theorem zA.drew(h:zA F w w1):zA F w w1.drew:=⟨h.os,h.tape,h.output,h.size,h.block⟩
theorem zA.drewN(h:zA F w w1)(n:Nat):zA F w (w1.drewN n):=⟨h.os,h.tape,h.output,h.size,h.block⟩
theorem zA.alloc(h:zA F w w1)(o:Obj):zA F w (w1.alloc o) :=
 ⟨h.os,h.tape,h.output,uT h.size (by simp),λi hi hn=>(Below.heap_alloc _ _ _ (uG hi h.size)).trans (h.block i hi hn)⟩
theorem zA.setCell(h:zA F w w1){p:Addr}(hp:w.heap.size<=p.block\/F p.block)(u:Value):zA F w (w1.setCell p u) :=
 ⟨h.os,h.tape,h.output,uT h.size (by simp[World.setCell]),λi hi hn=>(Below.heap_setCell _ _ _ _ (by rintro rfl;rcases hp with hp|hp;omega;exact hn hp)).trans (h.block i hi hn)⟩
theorem zA.grown{row:Option Nat}(h:zA F w w1)(hg:w1.grownBy w2 row)(hr:∀k,row=some k->w.heap.size<=k\/F k):zA F w w2 :=
 ⟨hg.os.trans h.os,hg.tape.trans h.tape,hg.output.trans h.output,uT h.size hg.size,
  λi hi hn=>(hg.block i (uG hi h.size) (λe=>by rcases hr i e.symm with h|h;omega;exact hn h)).trans (h.block i hi hn)⟩
theorem zA.below(h:zG w w'):Below w.heap.size w w':=⟨h.os,h.tape,h.output,h.size,λi hi=>h.block i hi (λf=>f)⟩
theorem zA.ext(h:zG w w'):zA F w w':=h.mono (λ_ f=>f.elim)
theorem zA.cell(h:zA F w w'){b o:Nat}(hb:b<w.heap.size)(hF:¬ F b):w'.cell? ⟨b,o,none⟩=w.cell? ⟨b,o,none⟩:=World.cell?_of_block (w:=w) (h.block b hb hF)
theorem zA.frozen(h:zA F w w'){b o:Nat}(hb:b<w.heap.size)(hF:¬ F b):w'.frozen? ⟨b,o,none⟩=w.frozen? ⟨b,o,none⟩:=World.frozen?_of_block (w:=w) (h.block b hb hF)
end
def Sl{α:Type}(F:NP)(w:World)(sz:Nat)(enc:α->List Value)(v:Value)(l:List α):Prop :=
 ∃a cap,v=.slice a l.length cap/\l.length<=cap/\cap<=maxLen/\l.length<=140737488355328 /\
  (l=[]\/∃b off,a=some ⟨b,off,none⟩/\b<w.heap.size/\¬ F b/\∀i x,l[i]? = some x->∀j u,(enc x)[j]? = some u->w.cell? ⟨b,off+i * sz+j,none⟩=some u)
section
variable {α:Type}{F G:NP}{w w':World}{sz:Nat}{enc:α->List Value}{v:Value}{l:List α}
theorem Sl.mods(h:Sl F w sz enc v l)(m:zA F w w'):Sl F w' sz enc v l:=by
 obtain⟨a,cap,rfl,h1,h2,h3,h4⟩:=h;refine⟨a,cap,rfl,h1,h2,h3,?_⟩;rcases h4 with h4|⟨b,off,rfl,hb,hF,hc⟩
 .exact .inl h4
 .exact .inr ⟨b,off,rfl,uG hb m.size,hF,λi x hi j u hu=>(m.cell hb hF).trans (hc i x hi j u hu)⟩
theorem Sl.step(h:Sl F w sz enc v l)(m:zA F w w')(hG:∀k,k<w.heap.size->¬ F k->¬ G k):Sl G w' sz enc v l:=by
 obtain⟨a,cap,rfl,h1,h2,h3,h4⟩:=h;refine⟨a,cap,rfl,h1,h2,h3,?_⟩;rcases h4 with h4|⟨b,off,rfl,hb,hF,hc⟩
 .exact .inl h4
 .exact .inr ⟨b,off,rfl,uG hb m.size,hG b hb hF,λi x hi j u hu=>(m.cell hb hF).trans (hc i x hi j u hu)⟩
theorem Sl.anti(h:Sl F w sz enc v l)(hG:∀k,k<w.heap.size->G k->F k):Sl G w sz enc v l :=
 h.step zr (λk hk hF hg=>hF (hG k hk hg))
theorem Sl.at{a:Option Addr}(h:l=[]\/∃b off,a=some ⟨b,off,none⟩/\b<w.heap.size/\¬ F b/\∀i x,l[i]? = some x->∀j u,(enc x)[j]? = some u->w.cell? ⟨b,off+i * sz+j,none⟩=some u)
  (m:zA G w w') (hG:∀k,k<w.heap.size->G k->F k) (k:Nat) (hk:k<l.length) :
  ∃b off,a=some ⟨b,off,none⟩/\b<w.heap.size/\¬ F b/\∀j u,(enc l[k])[j]? = some u->w'.cell? ⟨b,off+k * sz+j,none⟩=some u:=by
 rcases h with h|⟨b,off,ha,hb,hF,hc⟩
 .rw[h] at hk;simp at hk
 .exact⟨b,off,ha,hb,hF,λj u hu=>(m.cell hb (λg=>hF (hG b hb g))).trans (hc k l[k] (by simp[hk]) j u hu)⟩
theorem Sl.atE{a:Option Addr}(h:l=[]\/∃b off,a=some ⟨b,off,none⟩/\b<w.heap.size/\¬ F b/\∀i x,l[i]? = some x->∀j u,(enc x)[j]? = some u->w.cell? ⟨b,off+i * sz+j,none⟩=some u)
  (m:zG w w') (k:Nat) (hk:k<l.length) :
  ∃b off,a=some ⟨b,off,none⟩/\b<w.heap.size/\¬ F b/\∀j u,(enc l[k])[j]? = some u->w'.cell? ⟨b,off+k * sz+j,none⟩=some u :=
 Sl.at h m (λ_ _ f=>f.elim) k hk
theorem Sl.one{x:α}{b:Nat}{t:TypeId}{fz:Nat × Nat}(h:w.heap[b]? = some (.cells (enc x).toArray t fz))(hF:¬ F b):Sl F w sz enc (.slice (some ⟨b,0,none⟩) 1 1) [x]:=by
 refine⟨_,1,rfl,uJ _,by simp[maxLen],by simp,.inr ⟨b,0,rfl,(tA.1 h).1,hF,λi y hi j u hu=>?_⟩⟩;match i,hi with
 | 0,hi =>
  simp at hi;subst hi;rw[yW h];simpa using hu
theorem Sl.nil(F:NP)(w:World)(sz:Nat)(enc:α->List Value):Sl F w sz enc (.slice none 0 0) []:=⟨none,0,rfl,uJ _,by simp[maxLen],by simp,.inl rfl⟩
end
structure zR where
 key:ByteArray
 value:ByteArray
 chain:Int
 size:Int
structure zJ where
 leaf:Bool
 entries:List zR
 keys:List ByteArray
 kids:List Int
def jW(e:zR):List Value:=[.string e.key,.string e.value,.int .i64 e.chain,.int .i64 e.size]
def vI(p:ByteArray × ByteArray):List Value:=[.string p.1,.string p.2]
def vQ(s:ByteArray):List Value:=[.string s]
def yL(n:Int):List Value:=[.int .i64 n]
def zO(b:UInt8):List Value:=[.int .u8 (b.toNat:Int)]
def qP(s:ByteArray):Bool:=decide (1<=(s.size:Int)) && decide ((s.size:Int)<=32)
theorem jX(s:ByteArray):qP s=true ↔ 1<=s.size/\s.size<=32:=by simp[qP];omega
def leS(a b:ByteArray):Bool:=Op.bytesLess a.toList b.toList || a.toList == b.toList
def qH(a b:ByteArray):Bool:=Op.bytesLess a.toList b.toList
def zAe(e:zR):Int:=2+e.key.size+(if e.chain=0 then 1+(e.value.size:Int) else 8)
def yI:List zR->Int
 | []=>0
 | e :: r=>zAe e+yI r
def yJ:List ByteArray->Int
 | []=>0
 | k :: r=>(5+(k.size:Int))+yJ r
def zH(n:zJ):Int:=2+(if n.leaf then 0 else 4)+yI n.entries+yJ n.keys
theorem zBs(e:zR):2<=zAe e:=by unfold zAe;split <;> omega
theorem zAm(l:List zR):0<=yI l:=by
 induction l with
 | nil=>simp[yI]
 | cons e r ih=>have:=zBs e;simp only[yI];omega
theorem zAn(l:List ByteArray):0<=yJ l:=by
 induction l with
 | nil=>simp[yJ]
 | cons e r ih=>simp only[yJ];omega
theorem jT(l r:List zR):yI (l++r)=yI l+yI r:=by
 induction l with
 | nil=>simp[yI]
 | cons e l ih=>simp only[wX,yI,ih];omega
theorem jG(l r:List ByteArray):yJ (l++r)=yJ l+yJ r:=by
 induction l with
 | nil=>simp[yJ]
 | cons e l ih=>simp only[wX,yJ,ih];omega
theorem qD{α:Type}(l:List α)(k:Nat)(x:α)(h:l[k]? = some x):l.take (k+1)=l.take k++[x]:=by
 rw[List.take_add_one,h];rfl
theorem zCm(l:List zR)(k:Nat):yI (l.take k)<=yI l:=by
 have:=jT (l.take k) (l.drop k);rw[wC] at this;have:=zAm (l.drop k);omega
theorem zCn(l:List ByteArray)(k:Nat):yJ (l.take k)<=yJ l:=by
 have:=jG (l.take k) (l.drop k);rw[wC] at this;have:=zAn (l.drop k);omega
end
section
def zV:Nat->Nat->List UInt8
 | 0,_=>[]
 | W+1,n=>UInt8.ofNat n :: zV W (n / 256)
def zBp:List UInt8->Nat
 | []=>0
 | x :: l=>x.toNat+256 * zBp l
theorem zC:∀W n,(zV W n).length=W
 | 0,_=>rfl
 | W+1,n=>by simp[zV,zC W]
theorem zFk:∀W n,zBp (zV W n)=n % 256 ^ W
 | 0,n=>by simp[zV,zBp,Nat.mod_one]
 | W+1,n=>by
  rw[zV,zBp,zFk W];rw[tS,pL (256 ^ W) 256,Nat.mod_mul];simp
theorem zC6:∀l,zBp l<256 ^ l.length
 | []=>by simp[zBp]
 | x :: l=>by
  have:=zC6 l;have hx:=x.toNat_lt;rw[zBp,uD,tS];omega
theorem zHW(l:List UInt8)(q m W:Nat)(x:UInt8)(hm:m<W)(hx:l[q+m]? = some x) :
  zBp ((l.drop (q+m)).take (W-m))=zBp ((l.drop (q+(m+1))).take (W-(m+1))) * 256+x.toNat:=by
 obtain⟨hlt,he⟩:=uB.1 hx;rw[wK hlt,he,show W-m=(W-(m+1))+1 by omega,nV,zBp];rw[show q+m+1=q+(m+1) by omega];omega
theorem zJ9(l:List UInt8)(q m W:Nat):zBp ((l.drop (q+m)).take (W-m))<256 ^ (W-m) :=
 uG (zC6 _) (wW (by decide) (by simp;omega))
def jD(r:Nat):Nat:=if r % 2=1 then (r / 2) ^^^ 3988292384 else r / 2
def zAE:Nat->Nat->Nat
 | 0,r=>r
 | k+1,r=>zAE k (jD r)
def zCT(n:Nat):Nat:=zAE 8 n
def zC7(r x:Nat):Nat:=(r / 256) ^^^ zCT ((r % 256) ^^^ x)
def zAF(r:Nat):List UInt8->Nat
 | []=>r
 | x :: l=>zAF (zC7 r x.toNat) l
def qR(l:List UInt8):Nat:=4294967295 ^^^ zAF 4294967295 l
theorem zCt(r:Nat)(h:r<4294967296):jD r<4294967296:=by
 unfold jD;split
 .exact wY (n:=32) (by omega) (by decide)
 .omega
theorem zHX:∀k r,r<4294967296->zAE k r<4294967296
 | 0,_,h=>h
 | k+1,r,h=>zHX k _ (zCt r h)
theorem zGo(n:Nat)(h:n<256):zCT n<4294967296:=zHX 8 n (by omega)
theorem zHY(r x:Nat)(h:r<4294967296)(hx:x<256):zC7 r x<4294967296 :=
 wY (n:=32) (by omega) (zGo _ (wY (n:=8) (by omega) hx))
theorem zHZ:∀(l:List UInt8) (r:Nat),r<4294967296->zAF r l<4294967296
 | [],_,h=>h
 | x :: l,r,h=>zHZ l _ (zHY r x.toNat h x.toNat_lt)
theorem zBi(l:List UInt8):qR l<4294967296:=wY (n:=32) (by decide) (zHZ l _ (by decide))
structure yF where
 kind:Int
 id:Int
 gen:Nat
 body:List UInt8
def zCu(k:Int):Bool:=decide (k=1) || decide (k=2) || decide (k=3) || decide (k=4) || decide (k=5)
def zAg(s:Int):Bool:=decide (256<=s) && decide (s<=1024)
def qC(p:yF)(size:Int):Option (List Int × Nat) :=
 if zAg size=false then some ([-1],2)
 else if zCu p.kind=false\/p.id<0\/256<=p.id\/size-24<(p.body.length:Int) then some ([-1],1) else none
def zFJ(p:yF)(size:Nat):List UInt8 :=
 zV 1 p.kind.toNat++zV 1 0++zV 2 p.body.length++zV 4 p.id.toNat++zV 8 p.gen++zV 4 0++p.body++List.replicate (size-4-(20+p.body.length)) 0
def zA5(p:yF)(size:Nat):List UInt8:=zFJ p size++zV 4 (qR (zFJ p size))
theorem zGp(p:yF)(size:Nat)(h:p.body.length+24<=size):(zFJ p size).length=size-4:=by
 simp only[zFJ,uC,zC,pE];omega
theorem zAO(p:yF)(size:Nat)(h:p.body.length+24<=size):(zA5 p size).length=size:=by
 rw[zA5,uC,zGp p size h,zC];omega
theorem jE{p:yF}{size:Int}(h:qC p size=none):256<=size/\size<=1024/\zCu p.kind=true/\0<=p.id/\p.id<256/\(p.body.length:Int)+24<=size:=by
 unfold qC at h;split at h
 .cases h
 .rename_i h1;split at h
  .cases h
  .rename_i h2;simp only[not_or,pX,Int.not_lt,Int.not_le] at h1 h2;simp only[zAg,uL,uR] at h1;exact⟨h1.1,h1.2,h2.1,h2.2.1,h2.2.2.1,by omega⟩
theorem zGq{k:Int}(h:zCu k=true):1<=k/\k<=5:=by
 simp only[zCu,pC,uR] at h;omega
def zZ(l:List UInt8)(i W:Nat):Nat:=zBp ((l.drop i).take W)
def zBY(l:List UInt8):yF :=
  { kind:=(zZ l 0 1:Nat),id:=(zZ l 4 4:Nat),gen:=zZ l 8 8,
    body:=if zZ l 2 2<=l.length-24 then (l.drop 20).take (zZ l 2 2) else [] }
theorem vB(l:List UInt8)(i W:Nat):zZ l i W<256 ^ W :=
 uG (zC6 _) (wW (by decide) (by simp;omega))
def zDU(l:List UInt8):Bool:=decide (qC (zBY l) (l.length:Int)=none) && decide (zA5 (zBY l) l.length=l)
def zFK(l:List UInt8):Int:=if 256<=(zBY l).id then -1 else (zBY l).id
def yT(l:List UInt8)(id:Int):yF ⊕ (List Int × Nat) :=
 if zDU l=false then .inr ([-1,zFK l],5) else if (zBY l).id≠id then .inr ([if id < -1 then -1 else id],5) else .inl (zBY l)
theorem zEr(l:List UInt8):(zBY l).gen<18446744073709551616:=vB l 8 8
theorem zP0(l:List UInt8):0<=(zBY l).id/\(zBY l).id<4294967296:=by
 have:=vB l 4 4;have h:(zBY l).id=(zZ l 4 4:Nat):=rfl;constructor
 .omega
 .rw[h];have:zZ l 4 4<4294967296:=this;omega
structure zT where
 blocks:Nat
 size:Nat
 lasting:List (List UInt8)
 waiting:List (Nat × List UInt8)
 lit:Bool
 after:Int
 torn:Int
 cut:Int
 keep:List Bool
 off:Bool
 count:Int
def zBZ(i:Nat):List (Nat × List UInt8)->Option (List UInt8)
 | []=>none
 | (j,b) :: l=>match zBZ i l with
  | some c=>some c
  | none=>if j=i then some b else none
def zT.look(D:zT)(i:Nat):List UInt8:=(zBZ i D.waiting).getD (D.lasting.getD i [])
def zT.check(D:zT)(i:Int):Option (List Int × Nat):=if i<0\/(D.blocks:Int)<=i then some ([if i < -1 then -1 else i],2) else none
def zT.on(D:zT)(i:Int):Option (List Int × Nat) :=
 match D.check i with
 | some e=>some e
 | none=>if D.off then some ([if i < -1 then -1 else i],7) else none
def settle:List (List UInt8)->List (Nat × List UInt8)->List (List UInt8)
 | l,[]=>l
 | l,(i,b) :: r=>settle (l.set i b) r
def zN2(keep:List Bool)(torn cut:Int):Nat->List (List UInt8)->List (Nat × List UInt8)->List (List UInt8)
 | _,l,[]=>l
 | k,l,(i,b) :: r =>
  let old:=l.getD i []
  let c:=(max 0 (min cut (b.length:Int))).toNat
  zN2 keep torn cut (k+1) (if (k:Int)=torn then l.set i (b.take c++old.drop c) else if keep.getD k false then l.set i (b++old.drop b.length) else l) r
def zT.crash(D:zT)(keep:List Bool)(torn cut:Int):zT:={ D with lasting:=zN2 keep torn cut 0 D.lasting D.waiting,waiting:=[] }
def zT.burns(D:zT):Bool × zT :=
 if D.lit && decide (D.after=0) then
  (true,{ D with lit:=false,after:=0,torn:=0,cut:=0,keep:=[],off:=true }.crash D.keep D.torn D.cut)
 else (false,{ D with after:=RowKit.wrap64 (D.after-1),count:=RowKit.wrap64 (D.count+1) })
def zBN(blocks size:Nat):zT :=
  { blocks:=blocks,size:=size,lasting:=List.replicate blocks (List.replicate size 0),waiting:=[],lit:=false,after:=0,torn:=0,cut:=0,keep:=[],off:=false,count:=0 }
theorem zFl(i:Nat)(l r:List (Nat × List UInt8)):zBZ i (l++r)=(zBZ i r).or (zBZ i l):=by
 induction l with
 | nil=>simp[zBZ]
 | cons x l ih =>
  obtain⟨j,b⟩:=x;rw[wX,zBZ,ih,zBZ];cases zBZ i r <;> cases zBZ i l <;> rfl
theorem zDh(i:Nat):∀(l:List (Nat × List UInt8)),(∀p∈l,p.1≠i)->zBZ i l=none
 | [],_=>rfl
 | (j,b) :: l,h=>by
  rw[zBZ,zDh i l (λp hp=>h p (uI _ hp)),if_neg (h (j,b) uH)]
theorem zP1(i:Nat)(l:List (Nat × List UInt8))(k:Nat)(b:List UInt8)(hk:l[k]? = some (i,b))(h:∀j p,k<j->l[j]? = some p->p.1≠i):zBZ i l=some b:=by
 obtain⟨hlt,he⟩:=uB.1 hk;have h1:l=l.take k++(i,b) :: l.drop (k+1):=by
  rw[<- he,<- wK hlt,wC]
 have h2:zBZ i (l.drop (k+1))=none:=zDh i _ (λp hp=>by
  obtain⟨j,hj,he2⟩:=wI hp;rw[List.getElem_drop] at he2;have hj2:k+1+j<l.length:=by simp at hj;omega
  exact h (k+1+j) p (by omega) (by rw[uA hj2,he2]))
 rw[h1,zFl,zBZ,h2,if_pos rfl];rfl
theorem vC(A B:List UInt8)(W n:Nat)(i:Nat)(hi:A.length=i)(hn:n<256 ^ W):zZ (A++(zV W n++B)) i W=n:=by
 unfold zZ;rw[List.drop_append_of_le_length (by omega),rJ (by omega),wN,rF (by rw[zC];omega),wB (by rw[zC];omega),zFk];exact rL hn
def zHa(k n i g:Nat)(b R:List UInt8):List UInt8:=zV 1 k++(zV 1 0++(zV 2 n++(zV 4 i++(zV 8 g++(zV 4 0++(b++R))))))
theorem zSU(k n i g:Nat)(b R:List UInt8)(h:k<256):zZ (zHa k n i g b R) 0 1=k:=vC [] _ 1 k 0 rfl (by simpa using h)
theorem zSV(k n i g:Nat)(b R:List UInt8)(h:n<65536):zZ (zHa k n i g b R) 2 2=n:=by
 unfold zHa;have:zV 1 k++(zV 1 0++(zV 2 n++(zV 4 i++(zV 8 g++(zV 4 0++(b++R))))))=(zV 1 k++zV 1 0)++(zV 2 n++(zV 4 i++(zV 8 g++(zV 4 0++(b++R))))):=by simp only[uM]
 rw[this];exact vC _ _ 2 n 2 (by simp[zC]) (by simpa using h)
theorem zSW(k n i g:Nat)(b R:List UInt8)(h:i<4294967296):zZ (zHa k n i g b R) 4 4=i:=by
 unfold zHa;have:zV 1 k++(zV 1 0++(zV 2 n++(zV 4 i++(zV 8 g++(zV 4 0++(b++R))))))=(zV 1 k++zV 1 0++zV 2 n)++(zV 4 i++(zV 8 g++(zV 4 0++(b++R)))):=by simp only[uM]
 rw[this];exact vC _ _ 4 i 4 (by simp[zC]) (by simpa using h)
theorem zSX(k n i g:Nat)(b R:List UInt8)(h:g<256 ^ 8):zZ (zHa k n i g b R) 8 8=g:=by
 unfold zHa;have:zV 1 k++(zV 1 0++(zV 2 n++(zV 4 i++(zV 8 g++(zV 4 0++(b++R))))))=(zV 1 k++zV 1 0++zV 2 n++zV 4 i)++(zV 8 g++(zV 4 0++(b++R))):=by simp only[uM]
 rw[this];exact vC _ _ 8 g 8 (by simp[zC]) h
theorem zSY(k n i g:Nat)(b R:List UInt8):((zHa k n i g b R).drop 20).take b.length=b:=by
 unfold zHa;have:zV 1 k++(zV 1 0++(zV 2 n++(zV 4 i++(zV 8 g++(zV 4 0++(b++R))))))=(zV 1 k++zV 1 0++zV 2 n++zV 4 i++zV 8 g++zV 4 0)++(b++R):=by simp only[uM]
 rw[this,List.drop_append_of_le_length (by simp[zC]),rJ (by simp[zC]),wN,rF (uJ _),wB (uJ _)]
theorem zOe(p:yF)(size:Nat):∃R,zA5 p size=zHa p.kind.toNat p.body.length p.id.toNat p.gen p.body R:=by
 refine⟨List.replicate (size-4-(20+p.body.length)) 0++zV 4 (qR (zFJ p size)),?_⟩;unfold zA5;generalize zV 4 (qR (zFJ p size))=C
 unfold zFJ zHa;simp only[uM]
theorem zHb{p:yF}{size:Nat}(hc:qC p size=none)(hg:p.gen<18446744073709551616):zBY (zA5 p size)=p:=by
 obtain⟨h1,h2,h3,h4,h5,h6⟩:=jE hc;have hk:=zGq h3;have hlen:=zAO p size (by omega);obtain⟨R,hR⟩:=zOe p size;unfold zBY;rw[hlen,hR,zSU _ _ _ _ _ _ (by omega),zSV _ _ _ _ _ _ (by omega),zSW _ _ _ _ _ _ (by omega),zSX _ _ _ _ _ _ (by exact hg),zSY,if_pos (by omega)];obtain⟨pk,pi,pg,pb⟩:=p;simp only[yF.mk.injEq,and_true] at *;exact⟨by omega,by omega⟩
theorem zOf{p:yF}{size:Nat}(hc:qC p size=none)(hg:p.gen<18446744073709551616):zDU (zA5 p size)=true:=by
 have hlen:=zAO p size (by have:=jE hc;omega);unfold zDU;rw[zHb hc hg,hlen,hc];simp
theorem zEH{p:yF}{size:Nat}(hc:qC p size=none)(hg:p.gen<18446744073709551616):yT (zA5 p size) p.id=.inl p:=by
 unfold yT;rw[zOf hc hg,zHb hc hg];simp
theorem zP2(a b:Nat):(a ^^^ b) / 2=(a / 2) ^^^ (b / 2):=by
 apply rG;intro i
 simp[Nat.testBit_div_two]
theorem zP3(a b:Nat):(a ^^^ b) % 2=(a+b) % 2:=by
 have h:=pR a b 0;simp only[Nat.testBit_zero] at h;have h1:=tJ a;have h2:=tJ b;have h3:=tJ (a ^^^ b);rcases h1 with h1|h1 <;> rcases h2 with h2|h2 <;> rcases h3 with h3|h3 <;> rw[h1,h2,h3] at h <;> first|omega|(simp at h;done)|(exfalso;revert h;decide)
theorem zEI(a b:Nat):jD (a ^^^ b)=jD a ^^^ jD b:=by
 unfold jD;rw[zP3,zP2];have ha:=tJ a;have hb:=tJ b;rcases ha with ha|ha <;> rcases hb with hb|hb
 .rw[if_neg (by omega),if_neg (by omega),if_neg (by omega)]
 .rw[if_pos (by omega),if_neg (by omega),if_pos (by omega),tR]
 .rw[if_pos (by omega),if_pos (by omega),if_neg (by omega),tR,tR,pY (b / 2)]
 .rw[if_neg (by omega),if_pos (by omega),if_pos (by omega)];rw[tR,<- tR 3988292384,pY 3988292384,tR,Nat.xor_self,Nat.xor_zero]
theorem zGr:∀k a b,zAE k (a ^^^ b)=zAE k a ^^^ zAE k b
 | 0,_,_=>rfl
 | k+1,a,b=>by rw[zAE,zEI,zGr k];rfl
theorem zEJ(v:Nat):jD (2 * v)=v:=by unfold jD;rw[if_neg (by omega)];omega
theorem zGs:∀k v,zAE k (2 ^ k * v)=v
 | 0,v=>by simp[zAE]
 | k+1,v=>by rw[zAE,tS,pL (2 ^ k) 2,Nat.mul_assoc,zEJ,zGs k]
theorem zGt(a b:Nat)(ha:a<4294967296)(hb:b<4294967296)(h:jD a=jD b):a=b:=by
 unfold jD at h;have ha2:a / 2<2147483648:=by omega
 have hb2:b / 2<2147483648:=by omega
 have big:∀x y,x<2147483648->y<2147483648->x ^^^ 3988292384=y->False:=by
  intro x y hx hy e;have e2:x ^^^ y=3988292384:=by rw[<- e,<- tR,Nat.xor_self,Nat.zero_xor]
  have:=wY (n:=31) hx hy;omega
 split at h <;> split at h
 .have:a / 2=b / 2:=by
   have e:=congrArg (· ^^^ 3988292384) h;simpa[tR,Nat.xor_self] using e
  omega
 .exact (big _ _ ha2 hb2 h).elim
 .exact (big _ _ hb2 ha2 h.symm).elim
 .omega
def zCP(r:Nat)(b:Bool):Nat:=jD (r ^^^ b.toNat)
def val:List Bool->Nat
 | []=>0
 | b :: l=>b.toNat+2 * val l
theorem zRf(b:Bool)(v:Nat):b.toNat+2 * v=b.toNat ^^^ (2 * v):=by
 apply rG;intro i
 cases i with
 | zero=>cases b <;> simp[Nat.testBit_zero] <;> omega
 | succ i =>
  rw[pR];simp only[Nat.testBit_succ];cases b <;> simp <;> congr 1 <;> omega
theorem zHc:∀(l:List Bool) (s:Nat),l.foldl zCP s=zAE l.length (s ^^^ val l)
 | [],s=>by simp[zAE,val]
 | b :: l,s=>by
  rw[nQ,zHc l,uD,zAE,val,zRf,<- tR,zEI,zEJ];rfl
theorem zMk:∀l:List Bool,val l<2 ^ l.length
 | []=>by simp[val]
 | b :: l=>by have:=zMk l;rw[val,uD,tS];cases b <;> simp <;> omega
theorem zN3:∀(l m:List Bool),l.length=m.length->val l=val m->l=m
 | [],[],_,_=>rfl
 | [],_ :: _,h,_=>by simp at h
 | _ :: _,[],h,_=>by simp at h
 | b :: l,c :: m,h,hv=>by
  simp only[val] at hv;have hb:b=c:=by cases b <;> cases c <;> simp at hv <;> first|rfl|omega
  subst hb;rw[zN3 l m (by simpa using h) (by omega)]
theorem zGu:∀k a b,a<4294967296->b<4294967296->zAE k a=zAE k b->a=b
 | 0,_,_,_,_,h=>h
 | k+1,a,b,ha,hb,h=>zGt a b ha hb (zGu k _ _ (zCt a ha) (zCt b hb) h)
theorem zMl(b:Bool):b.toNat<4294967296:=by cases b <;> decide
theorem zFL(s:Nat)(b:Bool)(h:s<4294967296):zCP s b<4294967296:=zCt _ (wY (n:=32) h (zMl b))
theorem zHP:∀(l:List Bool) (s:Nat),s<4294967296->l.foldl zCP s<4294967296
 | [],_,h=>h
 | b :: l,s,h=>zHP l _ (zFL s b h)
theorem zHd(a b c:Nat)(h:a ^^^ b=a ^^^ c):b=c:=by
 have e:=congrArg (a ^^^ ·) h;simpa[<- tR,Nat.xor_self] using e
theorem zKu(a b:Nat)(x:Bool)(ha:a<4294967296)(hb:b<4294967296)(h:zCP a x=zCP b x):a=b:=by
 have:=zGt _ _ (wY (n:=32) ha (zMl x)) (wY (n:=32) hb (zMl x)) h;rw[pY a,pY b] at this;exact zHd _ _ _ this
theorem zKv:∀(l:List Bool) (a b:Nat),a<4294967296->b<4294967296->l.foldl zCP a=l.foldl zCP b->a=b
 | [],_,_,_,_,h=>h
 | x :: l,a,b,ha,hb,h=>zKu a b x ha hb (zKv l _ _ (zFL a x ha) (zFL b x hb) h)
theorem zTk(p x y q:List Bool)(s:Nat)(hs:s<4294967296)(hl:x.length=y.length)(h32:x.length<=32)(h:(p++x++q).foldl zCP s=(p++y++q).foldl zCP s):x=y:=by
 simp only[pZ] at h;have h0:=zHP p s hs;have h1:=zKv q _ _ (zHP x _ h0) (zHP y _ h0) h;generalize p.foldl zCP s=s0 at h0 h1
 rw[zHc,zHc,hl] at h1;have hp:(2:Nat) ^ y.length<=2 ^ 32:=wW (by omega) (by omega);have hvx:=zMk x;have hvy:=zMk y;rw[hl] at hvx;have h2:=zGu _ _ _ (wY (n:=32) h0 (by omega)) (wY (n:=32) h0 (by omega)) h1;exact zN3 _ _ hl (zHd _ _ _ h2)
def zFm(l:List UInt8)(p:Nat):Bool:=(l.getD (p / 8) 0).toNat.testBit (p % 8)
structure zX where
 page:yF
 full:Bool
 dirty:Bool
 used:Bool
 pins:Nat
def qS:zX:=⟨⟨0,0,0,[]⟩,false,false,false,0⟩
structure CaA where
 disk:zT
 slots:List zX
 hand:Nat
def zX.has(s:zX)(id:Nat):Bool:=s.full && decide (s.page.id=(id:Int))
def zX.wet(s:zX):Bool:=s.full && s.dirty
def CaA.vw(C:CaA)(id:Nat):yF ⊕ (List Int × Nat) :=
 match C.slots.find? (·.has id) with
 | some s=>.inl s.page
 | none=>yT (C.disk.look id) id
def CaA.cost(C:CaA):Nat:=C.disk.waiting.length+C.slots.countP (·.wet)
def zKA(p:yF)(size:Nat):Prop:=qC p size=none/\p.gen<18446744073709551616
structure vR(C:CaA):Prop where
 n3:3<=C.slots.length
 n64:C.slots.length<=64
 hand:C.hand<C.slots.length
 s256:256<=C.disk.size
 s1024:C.disk.size<=1024
 b8:8<=C.disk.blocks
 b256:C.disk.blocks<=256
 lenL:C.disk.lasting.length=C.disk.blocks
 len:∀id:Nat,id<C.disk.blocks->(C.disk.look id).length=C.disk.size
 off:C.disk.off=false
 lit:C.disk.lit=false
 page:∀(i:Nat) (s:zX),C.slots[i]? = some s->s.full=true->0<=s.page.id/\s.page.id<C.disk.blocks/\zKA s.page C.disk.size
 pins:∀(i:Nat) (s:zX),C.slots[i]? = some s->s.pins=0
 one:∀(i j:Nat) (s t:zX),C.slots[i]? = some s->C.slots[j]? = some t->s.full=true->t.full=true->s.page.id=t.page.id->i=j
 clean:∀(i:Nat) (s:zX),C.slots[i]? = some s->s.full=true->s.dirty=false->yT (C.disk.look s.page.id.toNat) s.page.id=.inl s.page
theorem qA{s:zX}{id:Nat}:s.has id=true ↔ s.full=true/\s.page.id=(id:Int):=by simp[zX.has]
theorem vR.vw_at{C:CaA}(h:vR C){i:Nat}{s:zX}{id:Nat}(hi:C.slots[i]? = some s)(hs:s.has id=true):C.vw id=.inl s.page:=by
 unfold CaA.vw;cases hf:C.slots.find? (·.has id) with
 | none =>
  have:=List.find?_eq_none.1 hf s (wD hi);exact absurd hs this
 | some t =>
  have ht:=List.find?_some hf;obtain⟨j,hj,e⟩:=wI (List.mem_of_find?_eq_some hf);have hj2:C.slots[j]? = some t:=by rw[<- e];exact uA hj
  have h1:=qA.1 hs;have h2:=qA.1 ht;have:=h.one i j s t hi hj2 h1.1 h2.1 (by rw[h1.2,h2.2]);subst this;rw[hi] at hj2;injection hj2 with hj2;rw[hj2]
theorem zAP{C:CaA}{id:Nat}(h:∀(i:Nat) (s:zX),C.slots[i]? = some s->s.has id=false):C.vw id=yT (C.disk.look id) id:=by
 unfold CaA.vw;have:C.slots.find? (·.has id)=none:=List.find?_eq_none.2 (λs hs=>by
  obtain⟨j,hj,e⟩:=wI hs;have:=h j s (by rw[<- e];exact uA hj);rw[this];simp)
 rw[this]
structure Sim(C C':CaA):Prop where
 inv:vR C'
 blocks:C'.disk.blocks=C.disk.blocks
 size:C'.disk.size=C.disk.size
 lasting:C'.disk.lasting=C.disk.lasting
 vw:∀id:Nat,C'.vw id=C.vw id
 dirt:∀id:Nat,(∀(i:Nat) (s:zX),C.slots[i]? = some s->s.has id=true->s.dirty=false) ->
  C'.disk.look id=C.disk.look id/\(∀(i:Nat) (s:zX),C'.slots[i]? = some s->s.has id=true->s.dirty=false)/\∀p∈C'.disk.waiting,p.1=id->p∈C.disk.waiting
 cost:C'.cost<=C.cost
theorem Sim.refl{C:CaA}(h:vR C):Sim C C:=⟨h,rfl,rfl,rfl,λ_=>rfl,λ_ h=>⟨rfl,h,λ_ h _=>h⟩,uJ _⟩
theorem Sim.trans{C C1 C2:CaA}(h:Sim C C1)(k:Sim C1 C2):Sim C C2 :=
 ⟨k.inv,k.blocks.trans h.blocks,k.size.trans h.size,k.lasting.trans h.lasting,λid=>(k.vw id).trans (h.vw id),
  λid hd=>by
   obtain⟨h1,h2,h3⟩:=h.dirt id hd;obtain⟨k1,k2,k3⟩:=k.dirt id h2;exact⟨k1.trans h1,k2,λp hp e=>h3 p (k3 p hp e) e⟩,uT k.cost h.cost⟩
theorem zL{α:Type}{l:List α}{i j:Nat}{x y:α}(h:(l.set i x)[j]? = some y):(j=i/\y=x)\/(j≠i/\l[j]? = some y):=by
 by_cases e:j=i
 .subst e;rw[p4] at h;simp at h;exact .inl ⟨rfl,h.2.symm⟩
 .right
  rw[wE (λe'=>e e'.symm)] at h;exact⟨e,h⟩
theorem zCU{α:Type}{l:List α}{i:Nat}{x y:α}(h:l[i]? = some y):(l.set i x)[i]? = some x:=by
 rw[wZ (uB.1 h).1]
theorem set_other{α:Type}{l:List α}{i j:Nat}{x y:α}(e:j≠i)(h:l[j]? = some y):(l.set i x)[j]? = some y:=by
 rw[wE (λe'=>e e'.symm)];exact h
theorem zAs{α:Type}(f:α->Bool):∀(l:List α) (i:Nat) (x y:α),l[i]? = some y->(l.set i x).countP f+(if f y then 1 else 0)=l.countP f+(if f x then 1 else 0)
 | [],i,x,y,h=>by simp at h
 | a :: l,0,x,y,h=>by
  simp at h;subst h;simp only[pT,List.countP_cons];omega
 | a :: l,i+1,x,y,h=>by
  have:=zAs f l i x y (by simpa using h);simp only[mE,List.countP_cons];omega
theorem zKw{C:CaA}(h:vR C){i:Nat}{s:zX}(hi:C.slots[i]? = some s)(u:Bool):Sim C { C with slots:=C.slots.set i { s with used:=u } }:=by
 have hs:=(uB.1 hi).1;have inv:vR { C with slots:=C.slots.set i { s with used:=u } } :=
  ⟨by simpa using h.n3,by simpa using h.n64,by simpa using h.hand,h.s256,h.s1024,h.b8,h.b256,h.lenL,h.len,h.off,h.lit,
   λj t ht hf=>by rcases zL ht with ⟨_,rfl⟩|⟨_,ht⟩;exact h.page i s hi hf;exact h.page j t ht hf,
   λj t ht=>by rcases zL ht with ⟨_,rfl⟩|⟨_,ht⟩;exact h.pins i s hi;exact h.pins j t ht,
   λj k t t' ht ht' hf hf' he=>by
    rcases zL ht with ⟨ej,rfl⟩|⟨hj,ht⟩ <;> rcases zL ht' with ⟨ek,rfl⟩|⟨hk,ht'⟩
    .rw[ej,ek]
    .rw[ej];exact h.one i k s t' hi ht' hf hf' he
    .rw[ek];exact h.one j i t s ht hi hf hf' he
    .exact h.one j k t t' ht ht' hf hf' he,
   λj t ht hf hd=>by rcases zL ht with ⟨_,rfl⟩|⟨_,ht⟩;exact h.clean i s hi hf hd;exact h.clean j t ht hf hd⟩
 refine⟨inv,rfl,rfl,rfl,λid=>?_,λid hd=>⟨rfl,λj t ht hh=>?_,λp hp _=>hp⟩,?_⟩
 .by_cases hx:∃(j:Nat) (t:zX),C.slots[j]? = some t/\t.has id=true
  .obtain⟨j,t,hj,ht⟩:=hx;rw[h.vw_at hj ht];by_cases e:j=i
   .subst e;rw[hi] at hj;injection hj with hj;subst hj;exact inv.vw_at (i:=j) (s:={ s with used:=u }) (zCU hi) ht
   .exact inv.vw_at (i:=j) (s:=t) (set_other e hj) ht
  .have hn:∀(j:Nat) (t:zX),C.slots[j]? = some t->t.has id=false:=λj t hj=>by
    cases hb:t.has id with
    | false=>rfl
    | true=>exact absurd ⟨j,t,hj,hb⟩ hx
   rw[zAP hn];exact zAP (λj t hj=>by
    rcases zL hj with ⟨_,rfl⟩|⟨_,hj⟩
    .exact hn i s hi
    .exact hn j t hj)
 .rcases zL ht with ⟨_,rfl⟩|⟨_,ht⟩
  .exact hd i s hi hh
  .exact hd j t ht hh
 .unfold CaA.cost;have:=zAs (·.wet) C.slots i { s with used:=u } s hi;have e:({ s with used:=u }:zX).wet=s.wet:=rfl;rw[e] at this;show C.disk.waiting.length+(C.slots.set i { s with used:=u }).countP (·.wet)<=C.disk.waiting.length+C.slots.countP (·.wet);omega
theorem zP4{C:CaA}(h:vR C){k:Nat}(hk:k<C.slots.length):Sim C { C with hand:=k } :=
 ⟨⟨h.n3,h.n64,hk,h.s256,h.s1024,h.b8,h.b256,h.lenL,h.len,h.off,h.lit,h.page,h.pins,h.one,h.clean⟩,rfl,rfl,rfl,λ_=>rfl,λ_ hd=>⟨rfl,hd,λ_ hp _=>hp⟩,uJ _⟩
theorem zI6{C:CaA}(h:vR C){i:Nat}{s:zX}(hi:C.slots[i]? = some s)(hw:s.wet=false):Sim C { C with slots:=C.slots.set i qS }:=by
 have inv:vR { C with slots:=C.slots.set i qS } :=
  ⟨by simpa using h.n3,by simpa using h.n64,by simpa using h.hand,h.s256,h.s1024,h.b8,h.b256,h.lenL,h.len,h.off,h.lit,
   λj t ht hf=>by rcases zL ht with ⟨_,rfl⟩|⟨_,ht⟩;exact absurd hf (by simp[qS]);exact h.page j t ht hf,
   λj t ht=>by rcases zL ht with ⟨_,rfl⟩|⟨_,ht⟩;rfl;exact h.pins j t ht,
   λj k t t' ht ht' hf hf' he=>by
    rcases zL ht with ⟨rfl,rfl⟩|⟨hj,ht⟩
    .exact absurd hf (by simp[qS])
    .rcases zL ht' with ⟨rfl,rfl⟩|⟨hk,ht'⟩
     .exact absurd hf' (by simp[qS])
     .exact h.one j k t t' ht ht' hf hf' he,
   λj t ht hf hd=>by rcases zL ht with ⟨_,rfl⟩|⟨_,ht⟩;exact absurd hf (by simp[qS]);exact h.clean j t ht hf hd⟩
 refine⟨inv,rfl,rfl,rfl,λid=>?_,λid hd=>⟨rfl,λj t ht hh=>?_,λp hp _=>hp⟩,?_⟩
 .by_cases hx:∃(j:Nat) (t:zX),C.slots[j]? = some t/\t.has id=true
  .obtain⟨j,t,hj,ht⟩:=hx;rw[h.vw_at hj ht];by_cases e:j=i
   .subst e;rw[hi] at hj;injection hj with hj;subst hj;obtain⟨hf,hid⟩:=qA.1 ht;have hd:s.dirty=false:=by simpa[zX.wet,hf] using hw
    have hc:=h.clean j s hi hf hd;rw[hid,uK] at hc;rw[<- hc];exact zAP (λk t hk=>by
     rcases zL hk with ⟨_,rfl⟩|⟨hne,hk⟩
     .rfl
     .cases hb:t.has id with
      | false=>rfl
      | true =>
       have h2:=qA.1 hb;exact absurd (h.one k j t s hk hi h2.1 hf (by rw[h2.2,hid])) hne)
   .exact inv.vw_at (i:=j) (s:=t) (set_other e hj) ht
  .have hn:∀(j:Nat) (t:zX),C.slots[j]? = some t->t.has id=false:=λj t hj=>by
    cases hb:t.has id with
    | false=>rfl
    | true=>exact absurd ⟨j,t,hj,hb⟩ hx
   rw[zAP hn];exact zAP (λj t hj=>by
    rcases zL hj with ⟨_,rfl⟩|⟨_,hj⟩
    .rfl
    .exact hn j t hj)
 .rcases zL ht with ⟨_,rfl⟩|⟨_,ht⟩
  .rfl
  .exact hd j t ht hh
 .unfold CaA.cost;have:=zAs (·.wet) C.slots i qS s hi;have e:qS.wet=false:=rfl;rw[e] at this;show C.disk.waiting.length+(C.slots.set i qS).countP (·.wet)<=C.disk.waiting.length+C.slots.countP (·.wet);simp at this;split at this <;> omega
theorem zP5{C:CaA}(h:vR C){i:Nat}{s:zX}(hi:C.slots[i]? = some s)(hs:s.full=false)(id:Nat)(hid:id<C.disk.blocks)(hno:∀(j:Nat) (t:zX),C.slots[j]? = some t->t.has id=false)(p:yF)
  (hp:yT (C.disk.look id) id=.inl p) (hpi:p.id=(id:Int)) (hok:zKA p C.disk.size):Sim C { C with slots:=C.slots.set i ⟨p,true,false,true,0⟩ }:=by
 have inv:vR { C with slots:=C.slots.set i ⟨p,true,false,true,0⟩ } :=
  ⟨by simpa using h.n3,by simpa using h.n64,by simpa using h.hand,h.s256,h.s1024,h.b8,h.b256,h.lenL,h.len,h.off,h.lit,
   λj t ht hf=>by rcases zL ht with ⟨_,rfl⟩|⟨_,ht⟩;exact⟨by simp only[hpi];omega,by simp only[hpi];exact Int.ofNat_lt.2 hid,hok⟩;exact h.page j t ht hf,
   λj t ht=>by rcases zL ht with ⟨_,rfl⟩|⟨_,ht⟩;rfl;exact h.pins j t ht,
   λj k t t' ht ht' hf hf' he=>by
    rcases zL ht with ⟨ej,rfl⟩|⟨hj,ht⟩ <;> rcases zL ht' with ⟨ek,rfl⟩|⟨hk,ht'⟩
    .rw[ej,ek]
    .have:=hno k t' ht';rw[show t'.has id=true from qA.2 ⟨hf',by rw[<- he];exact hpi⟩] at this;cases this
    .have:=hno j t ht;rw[show t.has id=true from qA.2 ⟨hf,by rw[he];exact hpi⟩] at this;cases this
    .exact h.one j k t t' ht ht' hf hf' he,
   λj t ht hf hd=>by rcases zL ht with ⟨_,rfl⟩|⟨_,ht⟩;(simp only[hpi,uK];exact hp);exact h.clean j t ht hf hd⟩
 refine⟨inv,rfl,rfl,rfl,λid'=>?_,λid' hd=>⟨rfl,λj t ht hh=>?_,λp hp _=>hp⟩,?_⟩
 .by_cases hx:∃(j:Nat) (t:zX),C.slots[j]? = some t/\t.has id'=true
  .obtain⟨j,t,hj,ht⟩:=hx;rw[h.vw_at hj ht];by_cases e:j=i
   .subst e;rw[hi] at hj;injection hj with hj;subst hj;rw[zX.has,hs] at ht;simp at ht
   .exact inv.vw_at (i:=j) (s:=t) (set_other e hj) ht
  .have hn:∀(j:Nat) (t:zX),C.slots[j]? = some t->t.has id'=false:=λj t hj=>by
    cases hb:t.has id' with
    | false=>rfl
    | true=>exact absurd ⟨j,t,hj,hb⟩ hx
   rw[zAP hn];by_cases e:id'=id
   .subst e;rw[hp];exact inv.vw_at (i:=i) (s:=⟨p,true,false,true,0⟩) (zCU hi) (qA.2 ⟨rfl,hpi⟩)
   .exact zAP (λj t hj=>by
     rcases zL hj with ⟨_,rfl⟩|⟨_,hj⟩
     .cases hb:zX.has ⟨p,true,false,true,0⟩ id' with
      | false=>rfl
      | true =>
       have:=(qA.1 hb).2;simp only[hpi] at this;omega
     .exact hn j t hj)
 .rcases zL ht with ⟨_,rfl⟩|⟨_,ht⟩
  .rfl
  .exact hd j t ht hh
 .unfold CaA.cost;have:=zAs (·.wet) C.slots i ⟨p,true,false,true,0⟩ s hi;have e:zX.wet ⟨p,true,false,true,0⟩=false:=rfl;rw[e] at this;show C.disk.waiting.length+(C.slots.set i ⟨p,true,false,true,0⟩).countP (·.wet)<=C.disk.waiting.length+C.slots.countP (·.wet);simp at this;split at this <;> omega
def zT.wrote(D:zT)(i:Nat)(b:List UInt8):zT:={ D with waiting:=D.waiting++[(i,b)],after:=RowKit.wrap64 (D.after-1),count:=RowKit.wrap64 (D.count+1) }
theorem zCE(D:zT)(i:Nat)(b:List UInt8)(j:Nat):(D.wrote i b).look j=if i=j then b else D.look j:=by
 unfold zT.look zT.wrote;simp only[zFl,zBZ];by_cases e:i=j
 .simp[e]
 .simp[e]
def zA9(C:CaA)(i:Nat)(s:zX):CaA:={ C with disk:=C.disk.wrote s.page.id.toNat (zA5 s.page C.disk.size),slots:=C.slots.set i { s with dirty:=false } }
theorem zOg{C:CaA}(h:vR C){i:Nat}{s:zX}(hi:C.slots[i]? = some s)(hf:s.full=true)(hd:s.dirty=true):Sim C (zA9 C i s):=by
 obtain⟨hp0,hp1,hok⟩:=h.page i s hi hf;obtain⟨id,hid⟩:∃id:Nat,s.page.id=(id:Int):=⟨s.page.id.toNat,by omega⟩;have hopen:=zEH hok.1 hok.2;have hself:s.has id=true:=qA.2 ⟨hf,hid⟩;have uniq:∀(j:Nat) (t:zX),C.slots[j]? = some t->t.has id=true->j=i:=λj t hj ht=>by
  have h2:=qA.1 ht;exact h.one j i t s hj hi h2.1 hf (by rw[h2.2,hid])
 have look2:∀j,(zA9 C i s).disk.look j=if id=j then zA5 s.page C.disk.size else C.disk.look j:=λj=>by
  unfold zA9;simp only[hid,uK];exact zCE _ _ _ _
 have inv:vR (zA9 C i s) :=
  ⟨by simpa[zA9] using h.n3,by simpa[zA9] using h.n64,by simpa[zA9] using h.hand,h.s256,h.s1024,h.b8,h.b256,h.lenL,λj hj=>by rw[look2];split;(exact zAO _ _ (by have:=jE hok.1;omega));exact h.len j hj,h.off,h.lit,
   λj t ht hf=>by rcases zL ht with ⟨_,rfl⟩|⟨_,ht⟩;exact h.page i s hi hf;exact h.page j t ht hf,
   λj t ht=>by rcases zL ht with ⟨_,rfl⟩|⟨_,ht⟩;exact h.pins i s hi;exact h.pins j t ht,
   λj k t t' ht ht' hf hf' he=>by
    rcases zL ht with ⟨ej,rfl⟩|⟨hj,ht⟩ <;> rcases zL ht' with ⟨ek,rfl⟩|⟨hk,ht'⟩
    .rw[ej,ek]
    .rw[ej];exact h.one i k s t' hi ht' hf hf' he
    .rw[ek];exact h.one j i t s ht hi hf hf' he
    .exact h.one j k t t' ht ht' hf hf' he,
   λj t ht hft hdt=>by
    rw[look2];rcases zL ht with ⟨_,rfl⟩|⟨hne,ht⟩
    .rw[if_pos (by simp only[hid];omega)];exact hopen
    .obtain⟨q0,_,_⟩:=h.page j t ht hft;rw[if_neg (λe=>hne (uniq j t ht (qA.2 ⟨hft,by omega⟩)))];exact h.clean j t ht hft hdt⟩
 refine⟨inv,rfl,rfl,rfl,λid'=>?_,λid' hdd=>?_,?_⟩
 .by_cases hx:∃(j:Nat) (t:zX),C.slots[j]? = some t/\t.has id'=true
  .obtain⟨j,t,hj,ht⟩:=hx;rw[h.vw_at hj ht];by_cases e:j=i
   .subst e;rw[hi] at hj;injection hj with hj;subst hj;exact inv.vw_at (i:=j) (s:={ s with dirty:=false }) (zCU hi) ht
   .exact inv.vw_at (i:=j) (s:=t) (set_other e hj) ht
  .have hn:∀(j:Nat) (t:zX),C.slots[j]? = some t->t.has id'=false:=λj t hj=>by
    cases hb:t.has id' with
    | false=>rfl
    | true=>exact absurd ⟨j,t,hj,hb⟩ hx
   have hne:id≠id':=λe=>by have:=hn i s hi;rw[<- e,hself] at this;cases this
   rw[zAP hn,zAP (λj t hj=>by
    rcases zL hj with ⟨_,rfl⟩|⟨_,hj⟩
    .exact hn i s hi
    .exact hn j t hj),look2,if_neg hne]
 .have hne:id≠id':=λe=>by have:=hdd i s hi (e ▸ hself);rw[hd] at this;cases this
  refine⟨by rw[look2,if_neg hne],λj t ht hh=>?_,λp hp e=>?_⟩
  .rcases zL ht with ⟨_,rfl⟩|⟨_,ht⟩
   .rfl
   .exact hdd j t ht hh
  .have:p∈C.disk.waiting++[(s.page.id.toNat,zA5 s.page C.disk.size)]:=hp;rw[uN] at this;rcases this with hp|hp
   .exact hp
   .simp at hp;subst hp;simp only[hid,uK] at e;exact absurd e hne
 .unfold CaA.cost;have:=zAs (·.wet) C.slots i { s with dirty:=false } s hi;have e:zX.wet { s with dirty:=false }=false:=by simp[zX.wet]
  have e2:s.wet=true:=by simp[zX.wet,hf,hd]
  rw[e,e2] at this;have e3:(zA9 C i s).disk.waiting.length=C.disk.waiting.length+1:=by simp[zA9,zT.wrote]
  rw[e3];show _+(C.slots.set i { s with dirty:=false }).countP _<=_;simp at this;omega
structure GA where
 blocks:Nat
 size:Nat
 view:Nat->Option (yF ⊕ (List Int × Nat))
 look:Nat->Option (List UInt8)
 last:Nat->Option (List UInt8)
 cost:Nat
structure zB9(C:CaA)(G:GA):Prop where
 blocks:C.disk.blocks=G.blocks
 size:C.disk.size=G.size
 view:∀id r,G.view id=some r->C.vw id=r
 look:∀id b,G.look id=some b->C.disk.look id=b/\∀(i:Nat) (s:zX),C.slots[i]? = some s->s.has id=true->s.dirty=false
 last:∀id b,G.last id=some b->C.disk.lasting.getD id []=b/\(∀p∈C.disk.waiting,p.1≠id)/\∀(i:Nat) (s:zX),C.slots[i]? = some s->s.has id=true->s.dirty=false
 cost:C.cost<=G.cost
theorem Sim.rel{C C':CaA}(h:Sim C C'){G:GA}(k:zB9 C G):zB9 C' G :=
 ⟨h.blocks.trans k.blocks,h.size.trans k.size,λid r hr=>(h.vw id).trans (k.view id r hr),
  λid b hb=>by
   obtain⟨k1,k2⟩:=k.look id b hb;obtain⟨h1,h2,_⟩:=h.dirt id k2;exact⟨h1.trans k1,h2⟩,
  λid b hb=>by
   obtain⟨k1,k2,k3⟩:=k.last id b hb;obtain⟨_,h2,h3⟩:=h.dirt id k3;exact⟨by rw[h.lasting];exact k1,λp hp e=>k2 p (h3 p hp e) e,h2⟩,
  uT h.cost k.cost⟩
def upd{α:Type}(f:Nat->α)(i:Nat)(x:α):Nat->α:=λj=>if j=i then x else f j
theorem zDV{α:Type}(f:Nat->α)(i:Nat)(x:α):upd f i x i=x:=by simp[upd]
theorem zFM{α:Type}(f:Nat->α){i j:Nat}(x:α)(h:j≠i):upd f i x j=f j:=by simp[upd,h]
def zHe(o:Option (List UInt8))(id:Nat):Option (yF ⊕ (List Int × Nat)):=o.map λb=>yT b id
def GA.put(G:GA)(p:yF):GA:={ G with view:=upd G.view p.id.toNat (some (.inl p)),look:=upd G.look p.id.toNat none,last:=upd G.last p.id.toNat none,cost:=G.cost+1 }
def GA.drop(G:GA)(id:Nat):GA:={ G with view:=upd G.view id (zHe (G.look id) id) }
def zKB(C:CaA)(i:Nat)(p:yF):CaA:={ C with slots:=C.slots.set i ⟨p,true,true,true,0⟩ }
theorem zN4{C:CaA}{G:GA}(h:vR C)(k:zB9 C G){i:Nat}{s:zX}(hi:C.slots[i]? = some s)(p:yF)(id:Nat)(hpi:p.id=(id:Int))(hid:id<C.disk.blocks)(hok:zKA p C.disk.size)
  (hx:s.has id=true\/(s.full=false/\∀(j:Nat) (t:zX),C.slots[j]? = some t->t.has id=false)):vR (zKB C i p)/\zB9 (zKB C i p) (G.put p):=by
 have hoth:∀(j:Nat) (t:zX),C.slots[j]? = some t->j≠i->t.has id=false:=λj t hj hne=>by
  rcases hx with hx|⟨_,hx⟩
  .cases hb:t.has id with
   | false=>rfl
   | true =>
    have h1:=qA.1 hx;have h2:=qA.1 hb;exact absurd (h.one j i t s hj hi h2.1 h1.1 (by rw[h1.2,h2.2])) hne
  .exact hx j t hj
 have hself:zX.has ⟨p,true,true,true,0⟩ id=true:=qA.2 ⟨rfl,hpi⟩;have inv:vR (zKB C i p) :=
  ⟨by simpa[zKB] using h.n3,by simpa[zKB] using h.n64,by simpa[zKB] using h.hand,h.s256,h.s1024,h.b8,h.b256,h.lenL,h.len,h.off,h.lit,
   λj t ht hf=>by rcases zL ht with ⟨_,rfl⟩|⟨_,ht⟩;exact⟨by simp only[hpi];omega,by simp only[hpi];exact Int.ofNat_lt.2 hid,hok⟩;exact h.page j t ht hf,
   λj t ht=>by rcases zL ht with ⟨_,rfl⟩|⟨_,ht⟩;rfl;exact h.pins j t ht,
   λj k t t' ht ht' hf hf' he=>by
    rcases zL ht with ⟨ej,rfl⟩|⟨hj,ht⟩ <;> rcases zL ht' with ⟨ek,rfl⟩|⟨hk,ht'⟩
    .rw[ej,ek]
    .have:=hoth k t' ht' hk;rw[show t'.has id=true from qA.2 ⟨hf',by rw[<- he];exact hpi⟩] at this;cases this
    .have:=hoth j t ht hj;rw[show t.has id=true from qA.2 ⟨hf,by rw[he];exact hpi⟩] at this;cases this
    .exact h.one j k t t' ht ht' hf hf' he,
   λj t ht hf hd=>by rcases zL ht with ⟨_,rfl⟩|⟨_,ht⟩;cases hd;exact h.clean j t ht hf hd⟩
 have hidn:p.id.toNat=id:=by omega
 have clean:∀id',id'≠id->(∀(j:Nat) (t:zX),C.slots[j]? = some t->t.has id'=true->t.dirty=false)->∀(j:Nat) (t:zX),(zKB C i p).slots[j]? = some t->t.has id'=true->t.dirty=false:=λid' hne hc j t ht hh=>by
  rcases zL ht with ⟨_,rfl⟩|⟨_,ht⟩
  .have:=(qA.1 hh).2;simp only[hpi] at this;omega
  .exact hc j t ht hh
 refine⟨inv,k.blocks,k.size,λid' r hr=>?_,λid' b hb=>?_,λid' b hb=>?_,?_⟩
 .unfold GA.put at hr;simp only[hidn] at hr;by_cases e:id'=id
  .subst e;rw[zDV] at hr;injection hr with hr;rw[<- hr];exact inv.vw_at (i:=i) (s:=⟨p,true,true,true,0⟩) (zCU hi) hself
  .rw[zFM _ _ e] at hr;rw[<- k.view id' r hr];by_cases hx2:∃(j:Nat) (t:zX),C.slots[j]? = some t/\t.has id'=true
   .obtain⟨j,t,hj,ht⟩:=hx2;rw[h.vw_at hj ht];have hne:j≠i:=by
     rintro rfl;rw[hi] at hj;injection hj with hj;subst hj;rcases hx with hx|⟨hx,_⟩
     .have h1:=(qA.1 hx).2;have h2:=(qA.1 ht).2;omega
     .rw[zX.has,hx] at ht;simp at ht
    exact inv.vw_at (i:=j) (s:=t) (set_other hne hj) ht
   .have hn:∀(j:Nat) (t:zX),C.slots[j]? = some t->t.has id'=false:=λj t hj=>by
     cases hb:t.has id' with
     | false=>rfl
     | true=>exact absurd ⟨j,t,hj,hb⟩ hx2
    rw[zAP hn];exact zAP (λj t hj=>by
     rcases zL hj with ⟨_,rfl⟩|⟨_,hj⟩
     .cases hb:zX.has ⟨p,true,true,true,0⟩ id' with
      | false=>rfl
      | true =>
       have:=(qA.1 hb).2;simp only[hpi] at this;omega
     .exact hn j t hj)
 .unfold GA.put at hb;simp only[hidn] at hb;by_cases e:id'=id
  .subst e;rw[zDV] at hb;cases hb
  .rw[zFM _ _ e] at hb;obtain⟨k1,k2⟩:=k.look id' b hb;exact⟨k1,clean id' e k2⟩
 .unfold GA.put at hb;simp only[hidn] at hb;by_cases e:id'=id
  .subst e;rw[zDV] at hb;cases hb
  .rw[zFM _ _ e] at hb;obtain⟨k1,k2,k3⟩:=k.last id' b hb;exact⟨k1,k2,clean id' e k3⟩
 .have hc:=k.cost;unfold CaA.cost at hc ⊢;have:=zAs (·.wet) C.slots i ⟨p,true,true,true,0⟩ s hi;have e:zX.wet ⟨p,true,true,true,0⟩=true:=rfl;rw[e] at this;show C.disk.waiting.length+(C.slots.set i ⟨p,true,true,true,0⟩).countP (·.wet)<=G.cost+1;simp at this;split at this <;> omega
theorem zRg{C:CaA}(h:vR C){i:Nat}{s:zX}(hi:C.slots[i]? = some s)(p:yF)(id:Nat)(hpi:p.id=(id:Int))(hid:id<C.disk.blocks)(hok:zKA p C.disk.size)
  (hx:s.has id=true\/(s.full=false/\∀(j:Nat) (t:zX),C.slots[j]? = some t->t.has id=false)):vR (zKB C i p) :=
 (zN4 (G:=⟨C.disk.blocks,C.disk.size,λ_=>none,λ_=>none,λ_=>none,C.cost⟩) h ⟨rfl,rfl,(λ_ _ h=>by cases h),(λ_ _ h=>by cases h),(λ_ _ h=>by cases h),uJ _⟩ hi p id hpi hid hok hx).1
theorem zP6{C:CaA}{G:GA}(h:vR C)(k:zB9 C G){i:Nat}{s:zX}{id:Nat}(hi:C.slots[i]? = some s)(hs:s.has id=true):vR { C with slots:=C.slots.set i qS }/\zB9 { C with slots:=C.slots.set i qS } (G.drop id):=by
 obtain⟨hf,hid⟩:=qA.1 hs;have inv:vR { C with slots:=C.slots.set i qS } :=
  ⟨by simpa using h.n3,by simpa using h.n64,by simpa using h.hand,h.s256,h.s1024,h.b8,h.b256,h.lenL,h.len,h.off,h.lit,
   λj t ht hf=>by rcases zL ht with ⟨_,rfl⟩|⟨_,ht⟩;exact absurd hf (by simp[qS]);exact h.page j t ht hf,
   λj t ht=>by rcases zL ht with ⟨_,rfl⟩|⟨_,ht⟩;rfl;exact h.pins j t ht,
   λj k t t' ht ht' hf hf' he=>by
    rcases zL ht with ⟨rfl,rfl⟩|⟨hj,ht⟩
    .exact absurd hf (by simp[qS])
    .rcases zL ht' with ⟨rfl,rfl⟩|⟨hk,ht'⟩
     .exact absurd hf' (by simp[qS])
     .exact h.one j k t t' ht ht' hf hf' he,
   λj t ht hf hd=>by rcases zL ht with ⟨_,rfl⟩|⟨_,ht⟩;exact absurd hf (by simp[qS]);exact h.clean j t ht hf hd⟩
 have clean:∀id',(∀(j:Nat) (t:zX),C.slots[j]? = some t->t.has id'=true->t.dirty=false)->∀(j:Nat) (t:zX),(C.slots.set i qS)[j]? = some t->t.has id'=true->t.dirty=false:=λid' hc j t ht hh=>by
  rcases zL ht with ⟨_,rfl⟩|⟨_,ht⟩
  .rfl
  .exact hc j t ht hh
 refine⟨inv,k.blocks,k.size,λid' r hr=>?_,λid' b hb=>?_,λid' b hb=>?_,?_⟩
 .unfold GA.drop at hr;simp only at hr;by_cases e:id'=id
  .subst e;rw[zDV] at hr;unfold zHe at hr;obtain⟨b,hb,hr⟩:=tX.1 hr;rw[<- hr,<- (k.look id' b hb).1];exact zAP (λj t hk=>by
     rcases zL hk with ⟨_,rfl⟩|⟨hne,hk⟩
     .rfl
     .cases hb:t.has id' with
      | false=>rfl
      | true =>
       have h2:=qA.1 hb;exact absurd (h.one j i t s hk hi h2.1 hf (by rw[h2.2,hid])) hne)
  .rw[zFM _ _ e] at hr;rw[<- k.view id' r hr];by_cases hx2:∃(j:Nat) (t:zX),C.slots[j]? = some t/\t.has id'=true
   .obtain⟨j,t,hj,ht⟩:=hx2;rw[h.vw_at hj ht];have hne:j≠i:=by
     rintro rfl;rw[hi] at hj;injection hj with hj;subst hj;have h2:=(qA.1 ht).2;omega
    exact inv.vw_at (i:=j) (s:=t) (set_other hne hj) ht
   .have hn:∀(j:Nat) (t:zX),C.slots[j]? = some t->t.has id'=false:=λj t hj=>by
     cases hb:t.has id' with
     | false=>rfl
     | true=>exact absurd ⟨j,t,hj,hb⟩ hx2
    rw[zAP hn];exact zAP (λj t hj=>by
     rcases zL hj with ⟨_,rfl⟩|⟨_,hj⟩
     .rfl
     .exact hn j t hj)
 .obtain⟨k1,k2⟩:=k.look id' b hb;exact⟨k1,clean id' k2⟩
 .obtain⟨k1,k2,k3⟩:=k.last id' b hb;exact⟨k1,k2,clean id' k3⟩
 .have hc:=k.cost;unfold CaA.cost at hc ⊢;have:=zAs (·.wet) C.slots i qS s hi;have e:qS.wet=false:=rfl;rw[e] at this;show C.disk.waiting.length+(C.slots.set i qS).countP (·.wet)<=G.cost;simp at this;split at this <;> omega
theorem zOh{C:CaA}(h:vR C){i:Nat}{s:zX}(_:C.slots[i]? = some s):vR { C with slots:=C.slots.set i qS } :=
 ⟨by simpa using h.n3,by simpa using h.n64,by simpa using h.hand,h.s256,h.s1024,h.b8,h.b256,h.lenL,h.len,h.off,h.lit,
   λj t ht hf=>by rcases zL ht with ⟨_,rfl⟩|⟨_,ht⟩;exact absurd hf (by simp[qS]);exact h.page j t ht hf,
   λj t ht=>by rcases zL ht with ⟨_,rfl⟩|⟨_,ht⟩;rfl;exact h.pins j t ht,
   λj k t t' ht ht' hf hf' he=>by
    rcases zL ht with ⟨rfl,rfl⟩|⟨hj,ht⟩
    .exact absurd hf (by simp[qS])
    .rcases zL ht' with ⟨rfl,rfl⟩|⟨hk,ht'⟩
     .exact absurd hf' (by simp[qS])
     .exact h.one j k t t' ht ht' hf hf' he,
   λj t ht hf hd=>by rcases zL ht with ⟨_,rfl⟩|⟨_,ht⟩;exact absurd hf (by simp[qS]);exact h.clean j t ht hf hd⟩
theorem zKx{C:CaA}{G:GA}(k:zB9 C G){id:Nat}(hn:∀(j:Nat) (t:zX),C.slots[j]? = some t->t.has id=false):zB9 C (G.drop id):=by
 refine⟨k.blocks,k.size,λid' r hr=>?_,k.look,k.last,k.cost⟩;unfold GA.drop at hr;simp only at hr;by_cases e:id'=id
 .subst e;rw[zDV] at hr;unfold zHe at hr;obtain⟨b,hb,hr⟩:=tX.1 hr;rw[<- hr,<- (k.look id' b hb).1];exact zAP hn
 .rw[zFM _ _ e] at hr;exact k.view id' r hr
theorem zDi{n j:Nat}{t:zX}(h:(List.replicate n qS)[j]? = some t):t=qS:=by
 rw[tW] at h;split at h
 .injection h with h;exact h.symm
 .cases h
theorem zOi(D:zT)(n:Nat)(h3:3<=n)(h64:n<=64)(s256:256<=D.size)(s1024:D.size<=1024)(b8:8<=D.blocks)(b256:D.blocks<=256)(lenL:D.lasting.length=D.blocks)
  (len:∀id:Nat,id<D.blocks->(D.look id).length=D.size) (off:D.off=false) (lit:D.lit=false):vR ⟨D,List.replicate n qS,0⟩ :=
 ⟨by simpa using h3,by simpa using h64,by simp;omega,s256,s1024,b8,b256,lenL,len,off,lit,
  λj t ht hf=>by (rw[zDi ht] at hf;cases hf),λj t ht=>by (rw[zDi ht];rfl),
  λj k t t' ht _ hf _ _=>by (rw[zDi ht] at hf;cases hf),λj t ht hf _=>by (rw[zDi ht] at hf;cases hf)⟩
theorem zOj(n:Nat):(List.replicate n qS).countP (·.wet)=0:=by
 rw[List.countP_replicate];rfl
theorem zOk(D:zT)(n:Nat)(G:GA)(hb:D.blocks=G.blocks)(hs:D.size=G.size)(hv:∀id r,G.view id=some r->yT (D.look id) id=r)(hl:∀id b,G.look id=some b->D.look id=b)
  (ht:∀id b,G.last id=some b->D.lasting.getD id []=b/\∀p∈D.waiting,p.1≠id) (hc:D.waiting.length<=G.cost):zB9 ⟨D,List.replicate n qS,0⟩ G :=
 ⟨hb,hs,λid r hr=>by rw[zAP (λj t hj=>by rw[zDi hj];rfl)];exact hv id r hr,
  λid b h=>⟨hl id b h,λj t hj hh=>by rw[zDi hj];rfl⟩,λid b h=>⟨(ht id b h).1,(ht id b h).2,λj t hj hh=>by rw[zDi hj];rfl⟩,
  by unfold CaA.cost;simp only[zOj];omega⟩
theorem zMm{b:List UInt8}{id:Int}{p:yF}(h:yT b id=.inl p):zKA p b.length/\p.id=id/\zA5 p b.length=b:=by
 unfold yT at h;split at h
 .cases h
 .rename_i ho;split at h
  .cases h
  .rename_i hid;injection h with h;subst h;simp only[pX] at ho;unfold zDU at ho;simp only[uL,uR] at ho;exact⟨⟨ho.1,zEr b⟩,by simpa using hid,ho.2⟩
theorem zKy{D:zT}{id:Nat}(hl:D.lasting.length=D.blocks)(hw:∀p∈D.waiting,p.1<D.blocks)(hid:D.blocks<=id):D.look id=[]:=by
 unfold zT.look;rw[zDh id _ (λp hp e=>by have:=hw p hp;omega)];simp[List.getD,tI (by omega:D.lasting.length<=id)]
theorem zCQ:∀(w:List (Nat × List UInt8)) (l:List (List UInt8)),(settle l w).length=l.length
 | [],_=>rfl
 | (i,b) :: w,l=>by rw[settle,zCQ w,tG]
theorem zHf:∀(w:List (Nat × List UInt8)) (l:List (List UInt8)) (i:Nat),i<l.length->(settle l w).getD i []=(zBZ i w).getD (l.getD i [])
 | [],l,i,_=>rfl
 | (j,b) :: w,l,i,hi=>by
  rw[settle,zHf w (l.set j b) i (by rw[tG];exact hi),zBZ];cases zBZ i w with
  | some c=>rfl
  | none =>
   by_cases e:j=i
   .subst e;simp[List.getD,hi]
   .simp[List.getD,wE e,e]
def zT.flushed(D:zT):zT:={ D with lasting:=settle D.lasting D.waiting,waiting:=[],after:=RowKit.wrap64 (D.after-1),count:=RowKit.wrap64 (D.count+1) }
theorem zKC{D:zT}(hl:D.lasting.length=D.blocks)(hw:∀p∈D.waiting,p.1<D.blocks)(id:Nat):D.flushed.look id=D.look id:=by
 by_cases hid:id<D.blocks
 .show (zBZ id []).getD ((settle D.lasting D.waiting).getD id [])=_;rw[zHf _ _ _ (by omega)];rfl
 .rw[zKy hl hw (by omega),zKy (D:=D.flushed) (by show (settle _ _).length=_;rw[zCQ];exact hl) (λp hp=>by cases hp) (by show D.blocks<=id;omega)]
end
end Go.Proofs.YtgphfebjjedeaaaGreatDoor
