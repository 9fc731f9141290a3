import Derived.Test.YtalpfcaakpgkmaaGreatDoorR00
import Derived.WalkKit
import Derived.WalkSpells
import Derived.WalkLawsBesides
import Derived.Handy
import Derived.RowKit
namespace Go.Proofs.YtalpfcaakpgkmaaGreatDoor
section
inductive gT|mk(c s g:Nat)
inductive gV|mk
inductive gW|mk
abbrev gP:=gT.mk
abbrev gB:=gV.mk
abbrev gE:=gW.mk
variable{c s g:Nat}
instance:CoeDep gT (.mk c s g) (Array Value):=⟨#[.pointer (some ⟨c,0,none⟩),.pointer (some ⟨s,0,none⟩),.int .u64 (g:Int)]⟩
instance:CoeDep gT (.mk c s g) Obj:=⟨.cells #[.pointer (some ⟨c,0,none⟩),.pointer (some ⟨s,0,none⟩),.int .u64 (g:Int)] 117⟩
instance:CoeDep gV .mk (Array Value):=⟨#[.bool false,.slice none 0 0,.slice none 0 0,.slice none 0 0]⟩
instance:CoeDep gV .mk Obj:=⟨.cells #[.bool false,.slice none 0 0,.slice none 0 0,.slice none 0 0] 200⟩
instance:CoeDep gW .mk (Array Value):=⟨#[.int .i64 0,.int .i64 0,.int .u64 0,.slice none 0 0]⟩
instance:CoeDep gW .mk Obj:=⟨.cells #[.int .i64 0,.int .i64 0,.int .u64 0,.slice none 0 0] 221⟩
end
section
open Go.RowKit
theorem zKE{k:IntKind}{a b:Int}(h:a=b):Ending.returned (.int k a)=.returned (.int k b):=by rw[h]
theorem yB{a b:Bool}(h:a=b):Ending.returned (.bool a)=.returned (.bool b):=by rw[h]
theorem zC1{k:IntKind}{a b:Int}(h:a=b):Value.int k a=.int k b:=by rw[h]
theorem yN{w:World}{b o:Nat}{v:Value}(h:w.cell? ⟨b,o,none⟩=some v):b<w.heap.size:=World.block_lt_of_cell? w ⟨b,o,none⟩ h
theorem zR{w:World}{b o:Nat}{v:Value}(h:w.cell? ⟨b,o,none⟩=some v)(x:Obj):(w.alloc x).cell? ⟨b,o,none⟩=some v :=
 (World.cell?_of_block (w:=w) (Below.heap_alloc w x b (yN h))).trans h
theorem qS{w:World}{b:Nat}{c:Array Value}{t:TypeId}{fz:Nat × Nat}(h:w.heap[b]? = some (.cells c t fz))(o:Nat):w.cell? ⟨b,o,none⟩=c[o]?:=by
 simp[World.cell?,h]
theorem zS{w:World}{o:Obj}{b:Nat}(h:b=w.heap.size):(w.alloc o).heap[b]? = some o:=by subst h;exact heap_alloc_new w o
structure zA(F:NP)(w w':World):Prop where
 os:w'.os=w.os
 tape:w'.tape=w.tape
 output:w'.output=w.output
 size:w.heap.size<=w'.heap.size
 block:∀k,k<w.heap.size->¬ F k->w'.heap[k]? = w.heap[k]?
abbrev zF(w w':World):Prop:=zA (λ_=>False) w w'
section
variable {F G:NP}{w w1 w2 w':World}
theorem zA.refl(F:NP)(w:World):zA F w w:=⟨rfl,rfl,rfl,uD _,λ_ _ _=>rfl⟩
theorem zr{F:NP}{w:World}:zA F w w:=zA.refl F w
theorem zss{F:NP}(w:World):zA F w w:=zA.refl F w
theorem zA.trans(h:zA F w w1)(k:zA F w1 w2):zA F w w2 :=
 ⟨k.os.trans h.os,k.tape.trans h.tape,k.output.trans h.output,uP h.size k.size,λi hi hn=>(k.block i (uF hi h.size) hn).trans (h.block i hi hn)⟩
theorem zA.trans'(h:zA F w w1)(k:zA G w1 w2)(hG:∀i,i<w.heap.size->G i->F i):zA F w w2 :=
 ⟨k.os.trans h.os,k.tape.trans h.tape,k.output.trans h.output,uP h.size k.size,λi hi hn=>(k.block i (uF hi h.size) (λg=>hn (hG i hi g))).trans (h.block i hi hn)⟩
theorem zA.mono(h:zA F w w')(hG:∀i,F i->G i):zA G w w':=⟨h.os,h.tape,h.output,h.size,λi hi hn=>h.block i hi (λf=>hn (hG i f))⟩
theorem zA.drew(h:zA F w w1):zA F w w1.drew:=⟨h.os,h.tape,h.output,h.size,h.block⟩
theorem zA.drewN(h:zA F w w1)(n:Nat):zA F w (w1.drewN n):=⟨h.os,h.tape,h.output,h.size,h.block⟩
theorem zA.alloc(h:zA F w w1)(o:Obj):zA F w (w1.alloc o) :=
 ⟨h.os,h.tape,h.output,uP h.size (by simp),λi hi hn=>(Below.heap_alloc _ _ _ (uF hi h.size)).trans (h.block i hi hn)⟩
theorem zA.setCell(h:zA F w w1){p:Addr}(hp:w.heap.size<=p.block\/F p.block)(u:Value):zA F w (w1.setCell p u) :=
 ⟨h.os,h.tape,h.output,uP h.size (by simp[World.setCell]),λi hi hn=>(Below.heap_setCell _ _ _ _ (by rintro rfl;rcases hp with hp|hp;omega;exact hn hp)).trans (h.block i hi hn)⟩
theorem zA.grown{row:Option Nat}(h:zA F w w1)(hg:w1.grownBy w2 row)(hr:∀k,row=some k->w.heap.size<=k\/F k):zA F w w2 :=
 ⟨hg.os.trans h.os,hg.tape.trans h.tape,hg.output.trans h.output,uP h.size hg.size,
  λi hi hn=>(hg.block i (uF hi h.size) (λe=>by rcases hr i e.symm with h|h;omega;exact hn h)).trans (h.block i hi hn)⟩
theorem zA.below(h:zF w w'):Below w.heap.size w w':=⟨h.os,h.tape,h.output,h.size,λi hi=>h.block i hi (λf=>f)⟩
theorem zA.ext(h:zF w w'):zA F w w':=h.mono (λ_ f=>f.elim)
theorem zA.cell(h:zA F w w'){b o:Nat}(hb:b<w.heap.size)(hF:¬ F b):w'.cell? ⟨b,o,none⟩=w.cell? ⟨b,o,none⟩:=World.cell?_of_block (w:=w) (h.block b hb hF)
theorem zA.frozen(h:zA F w w'){b o:Nat}(hb:b<w.heap.size)(hF:¬ F b):w'.frozen? ⟨b,o,none⟩=w.frozen? ⟨b,o,none⟩:=World.frozen?_of_block (w:=w) (h.block b hb hF)
end
def Sl{α:Type}(F:NP)(w:World)(sz:Nat)(enc:α->List Value)(v:Value)(l:List α):Prop :=
 ∃a cap,v=.slice a l.length cap/\l.length<=cap/\cap<=maxLen/\l.length<=140737488355328 /\
  (l=[]\/∃b off,a=some ⟨b,off,none⟩/\b<w.heap.size/\¬ F b/\∀i x,l[i]? = some x->∀j u,(enc x)[j]? = some u->w.cell? ⟨b,off+i * sz+j,none⟩=some u)
section
variable {α:Type}{F G:NP}{w w':World}{sz:Nat}{enc:α->List Value}{v:Value}{l:List α}
theorem Sl.mods(h:Sl F w sz enc v l)(m:zA F w w'):Sl F w' sz enc v l:=by
 obtain⟨a,cap,rfl,h1,h2,h3,h4⟩:=h;refine⟨a,cap,rfl,h1,h2,h3,?_⟩;rcases h4 with h4|⟨b,off,rfl,hb,hF,hc⟩
 .exact .inl h4
 .exact .inr ⟨b,off,rfl,uF hb m.size,hF,λi x hi j u hu=>(m.cell hb hF).trans (hc i x hi j u hu)⟩
theorem Sl.step(h:Sl F w sz enc v l)(m:zA F w w')(hG:∀k,k<w.heap.size->¬ F k->¬ G k):Sl G w' sz enc v l:=by
 obtain⟨a,cap,rfl,h1,h2,h3,h4⟩:=h;refine⟨a,cap,rfl,h1,h2,h3,?_⟩;rcases h4 with h4|⟨b,off,rfl,hb,hF,hc⟩
 .exact .inl h4
 .exact .inr ⟨b,off,rfl,uF hb m.size,hG b hb hF,λi x hi j u hu=>(m.cell hb hF).trans (hc i x hi j u hu)⟩
theorem Sl.anti(h:Sl F w sz enc v l)(hG:∀k,k<w.heap.size->G k->F k):Sl G w sz enc v l :=
 h.step zr (λk hk hF hg=>hF (hG k hk hg))
theorem Sl.at{a:Option Addr}(h:l=[]\/∃b off,a=some ⟨b,off,none⟩/\b<w.heap.size/\¬ F b/\∀i x,l[i]? = some x->∀j u,(enc x)[j]? = some u->w.cell? ⟨b,off+i * sz+j,none⟩=some u)
  (m:zA G w w') (hG:∀k,k<w.heap.size->G k->F k) (k:Nat) (hk:k<l.length) :
  ∃b off,a=some ⟨b,off,none⟩/\b<w.heap.size/\¬ F b/\∀j u,(enc l[k])[j]? = some u->w'.cell? ⟨b,off+k * sz+j,none⟩=some u:=by
 rcases h with h|⟨b,off,ha,hb,hF,hc⟩
 .rw[h] at hk;simp at hk
 .exact⟨b,off,ha,hb,hF,λj u hu=>(m.cell hb (λg=>hF (hG b hb g))).trans (hc k l[k] (by simp[hk]) j u hu)⟩
theorem Sl.atE{a:Option Addr}(h:l=[]\/∃b off,a=some ⟨b,off,none⟩/\b<w.heap.size/\¬ F b/\∀i x,l[i]? = some x->∀j u,(enc x)[j]? = some u->w.cell? ⟨b,off+i * sz+j,none⟩=some u)
  (m:zF w w') (k:Nat) (hk:k<l.length) :
  ∃b off,a=some ⟨b,off,none⟩/\b<w.heap.size/\¬ F b/\∀j u,(enc l[k])[j]? = some u->w'.cell? ⟨b,off+k * sz+j,none⟩=some u :=
 Sl.at h m (λ_ _ f=>f.elim) k hk
theorem Sl.one{x:α}{b:Nat}{t:TypeId}{fz:Nat × Nat}(h:w.heap[b]? = some (.cells (enc x).toArray t fz))(hF:¬ F b):Sl F w sz enc (.slice (some ⟨b,0,none⟩) 1 1) [x]:=by
 refine⟨_,1,rfl,uD _,by simp[maxLen],by simp,.inr ⟨b,0,rfl,(tC.1 h).1,hF,λi y hi j u hu=>?_⟩⟩;match i,hi with
 | 0,hi =>
  simp at hi;subst hi;rw[qS h];simpa using hu
theorem Sl.nil(F:NP)(w:World)(sz:Nat)(enc:α->List Value):Sl F w sz enc (.slice none 0 0) []:=⟨none,0,rfl,uD _,by simp[maxLen],by simp,.inl rfl⟩
end
structure zM where
 key:ByteArray
 value:ByteArray
 chain:Int
 size:Int
structure zI where
 leaf:Bool
 entries:List zM
 keys:List ByteArray
 kids:List Int
def zAQ(e:zM):List Value:=[.string e.key,.string e.value,.int .i64 e.chain,.int .i64 e.size]
def zCE(p:ByteArray × ByteArray):List Value:=[.string p.1,.string p.2]
def vW(s:ByteArray):List Value:=[.string s]
def yI(n:Int):List Value:=[.int .i64 n]
def zZ(b:UInt8):List Value:=[.int .u8 (b.toNat:Int)]
def jO(s:ByteArray):Bool:=decide (1<=(s.size:Int)) && decide ((s.size:Int)<=32)
theorem zA5(s:ByteArray):jO s=true ↔ 1<=s.size/\s.size<=32:=by simp[jO];omega
def leS(a b:ByteArray):Bool:=Op.bytesLess a.toList b.toList || a.toList == b.toList
def ltS(a b:ByteArray):Bool:=Op.bytesLess a.toList b.toList
def zAB(e:zM):Int:=2+e.key.size+(if e.chain=0 then 1+(e.value.size:Int) else 8)
def yM:List zM->Int
 | []=>0
 | e :: r=>zAB e+yM r
def yW:List ByteArray->Int
 | []=>0
 | k :: r=>(5+(k.size:Int))+yW r
def zH(n:zI):Int:=2+(if n.leaf then 0 else 4)+yM n.entries+yW n.keys
theorem zBO(e:zM):2<=zAB e:=by unfold zAB;split <;> omega
theorem zAe(l:List zM):0<=yM l:=by
 induction l with
 | nil=>simp[yM]
 | cons e r ih=>have:=zBO e;simp only[yM];omega
theorem zAt(l:List ByteArray):0<=yW l:=by
 induction l with
 | nil=>simp[yW]
 | cons e r ih=>simp only[yW];omega
theorem zAK(l r:List zM):yM (l++r)=yM l+yM r:=by
 induction l with
 | nil=>simp[yM]
 | cons e l ih=>simp only[tF,yM,ih];omega
theorem jP(l r:List ByteArray):yW (l++r)=yW l+yW r:=by
 induction l with
 | nil=>simp[yW]
 | cons e l ih=>simp only[tF,yW,ih];omega
theorem vO{α:Type}(l:List α)(k:Nat)(x:α)(h:l[k]? = some x):l.take (k+1)=l.take k++[x]:=by
 rw[List.take_add_one,h];rfl
theorem zBv(l:List zM)(k:Nat):yM (l.take k)<=yM l:=by
 have:=zAK (l.take k) (l.drop k);rw[uZ] at this;have:=zAe (l.drop k);omega
theorem zC2(l:List ByteArray)(k:Nat):yW (l.take k)<=yW l:=by
 have:=jP (l.take k) (l.drop k);rw[uZ] at this;have:=zAt (l.drop k);omega
end
section
def yD:Nat->Nat->List UInt8
 | 0,_=>[]
 | W+1,n=>UInt8.ofNat n :: yD W (n / 256)
def zEb:List UInt8->Nat
 | []=>0
 | x :: l=>x.toNat+256 * zEb l
theorem zD:∀W n,(yD W n).length=W
 | 0,_=>rfl
 | W+1,n=>by simp[yD,zD W]
theorem zFv:∀W n,zEb (yD W n)=n % 256 ^ W
 | 0,n=>by simp[yD,zEb,Nat.mod_one]
 | W+1,n=>by
  rw[yD,zEb,zFv W];rw[pH,nK (256 ^ W) 256,Nat.mod_mul];simp
theorem zE5:∀l,zEb l<256 ^ l.length
 | []=>by simp[zEb]
 | x :: l=>by
  have:=zE5 l;have hx:=x.toNat_lt;rw[zEb,uG,pH];omega
theorem zHm(l:List UInt8)(q m W:Nat)(x:UInt8)(hm:m<W)(hx:l[q+m]? = some x) :
  zEb ((l.drop (q+m)).take (W-m))=zEb ((l.drop (q+(m+1))).take (W-(m+1))) * 256+x.toNat:=by
 obtain⟨A2,he⟩:=uA.1 hx;rw[wD A2,he,show W-m=(W-(m+1))+1 by omega,nG,zEb];rw[show q+m+1=q+(m+1) by omega];omega
theorem zKF(l:List UInt8)(q m W:Nat):zEb ((l.drop (q+m)).take (W-m))<256 ^ (W-m) :=
 uF (zE5 _) (wX (by decide) (by simp;omega))
def zAC(r:Nat):Nat:=if r % 2=1 then (r / 2) ^^^ 3988292384 else r / 2
def zAD:Nat->Nat->Nat
 | 0,r=>r
 | k+1,r=>zAD k (zAC r)
def zCW(n:Nat):Nat:=zAD 8 n
def zDV(r x:Nat):Nat:=(r / 256) ^^^ zCW ((r % 256) ^^^ x)
def zBb(r:Nat):List UInt8->Nat
 | []=>r
 | x :: l=>zBb (zDV r x.toNat) l
def zDB(l:List UInt8):Nat:=4294967295 ^^^ zBb 4294967295 l
theorem zDC(r:Nat)(h:r<4294967296):zAC r<4294967296:=by
 unfold zAC;split
 .exact wU (n:=32) (by omega) (by decide)
 .omega
theorem zHn:∀k r,r<4294967296->zAD k r<4294967296
 | 0,_,h=>h
 | k+1,r,h=>zHn k _ (zDC r h)
theorem zGq(n:Nat)(h:n<256):zCW n<4294967296:=zHn 8 n (by omega)
theorem zHo(r x:Nat)(h:r<4294967296)(hx:x<256):zDV r x<4294967296 :=
 wU (n:=32) (by omega) (zGq _ (wU (n:=8) (by omega) hx))
theorem zDy:∀(l:List UInt8) (r:Nat),r<4294967296->zBb r l<4294967296
 | [],_,h=>h
 | x :: l,r,h=>zDy l _ (zHo r x.toNat h x.toNat_lt)
theorem zOV(l:List UInt8):zDB l<4294967296:=wU (n:=32) (by decide) (zDy l _ (by decide))
structure zY where
 kind:Int
 id:Int
 gen:Nat
 body:List UInt8
def zDD(k:Int):Bool:=decide (k=1) || decide (k=2) || decide (k=3) || decide (k=4) || decide (k=5)
def zAn(s:Int):Bool:=decide (256<=s) && decide (s<=1024)
def qE(p:zY)(size:Int):Option (List Int × Nat) :=
 if zAn size=false then some ([-1],2)
 else if zDD p.kind=false\/p.id<0\/256<=p.id\/size-24<(p.body.length:Int) then some ([-1],1) else none
def zFb(p:zY)(size:Nat):List UInt8 :=
 yD 1 p.kind.toNat++yD 1 0++yD 2 p.body.length++yD 4 p.id.toNat++yD 8 p.gen++yD 4 0++p.body++List.replicate (size-4-(20+p.body.length)) 0
def jX(p:zY)(size:Nat):List UInt8:=zFb p size++yD 4 (zDB (zFb p size))
theorem zGr(p:zY)(size:Nat)(h:p.body.length+24<=size):(zFb p size).length=size-4:=by
 simp only[zFb,uC,zD,pC];omega
theorem zAE(p:zY)(size:Nat)(h:p.body.length+24<=size):(jX p size).length=size:=by
 rw[jX,uC,zGr p size h,zD];omega
theorem qO{p:zY}{size:Int}(h:qE p size=none):256<=size/\size<=1024/\zDD p.kind=true/\0<=p.id/\p.id<256/\(p.body.length:Int)+24<=size:=by
 unfold qE at h;split at h
 .cases h
 .rename_i h1;split at h
  .cases h
  .rename_i h2;simp only[not_or,pR,Int.not_lt,Int.not_le] at h1 h2;simp only[zAn,uI,uO] at h1;exact⟨h1.1,h1.2,h2.1,h2.2.1,h2.2.2.1,by omega⟩
theorem zGs{k:Int}(h:zDD k=true):1<=k/\k<=5:=by
 simp only[zDD,pA,uO] at h;omega
def qK(l:List UInt8)(i W:Nat):Nat:=zEb ((l.drop i).take W)
def zBg(l:List UInt8):zY :=
  { kind:=(qK l 0 1:Nat),id:=(qK l 4 4:Nat),gen:=qK l 8 8,
    body:=if qK l 2 2<=l.length-24 then (l.drop 20).take (qK l 2 2) else [] }
theorem zDE(l:List UInt8)(i W:Nat):qK l i W<256 ^ W :=
 uF (zE5 _) (wX (by decide) (by simp;omega))
def zBq(l:List UInt8):Bool:=decide (qE (zBg l) (l.length:Int)=none) && decide (jX (zBg l) l.length=l)
def zFc(l:List UInt8):Int:=if 256<=(zBg l).id then -1 else (zBg l).id
def zV(l:List UInt8)(id:Int):zY ⊕ (List Int × Nat) :=
 if zBq l=false then .inr ([-1,zFc l],5) else if (zBg l).id≠id then .inr ([if id < -1 then -1 else id],5) else .inl (zBg l)
theorem zE6(l:List UInt8):(zBg l).gen<18446744073709551616:=zDE l 8 8
theorem zPr(l:List UInt8):0<=(zBg l).id/\(zBg l).id<4294967296:=by
 have:=zDE l 4 4;have h:(zBg l).id=(qK l 4 4:Nat):=rfl;constructor
 .omega
 .rw[h];have:qK l 4 4<4294967296:=this;omega
structure zJ where
 blocks:Nat
 size:Nat
 lasting:List (List UInt8)
 waiting:List (Nat × List UInt8)
 lit:Bool
 after:Int
 torn:Int
 cut:Int
 keep:List Bool
 off:Bool
 count:Int
def zBh(i:Nat):List (Nat × List UInt8)->Option (List UInt8)
 | []=>none
 | (j,b) :: l=>match zBh i l with
  | some c=>some c
  | none=>if j=i then some b else none
def zJ.look(D:zJ)(i:Nat):List UInt8:=(zBh i D.waiting).getD (D.lasting.getD i [])
def zJ.check(D:zJ)(i:Int):Option (List Int × Nat):=if i<0\/(D.blocks:Int)<=i then some ([if i < -1 then -1 else i],2) else none
def zJ.on(D:zJ)(i:Int):Option (List Int × Nat) :=
 match D.check i with
 | some e=>some e
 | none=>if D.off then some ([if i < -1 then -1 else i],7) else none
def settle:List (List UInt8)->List (Nat × List UInt8)->List (List UInt8)
 | l,[]=>l
 | l,(i,b) :: r=>settle (l.set i b) r
def zNv(keep:List Bool)(torn cut:Int):Nat->List (List UInt8)->List (Nat × List UInt8)->List (List UInt8)
 | _,l,[]=>l
 | k,l,(i,b) :: r =>
  let old:=l.getD i []
  let c:=(max 0 (min cut (b.length:Int))).toNat
  zNv keep torn cut (k+1) (if (k:Int)=torn then l.set i (b.take c++old.drop c) else if keep.getD k false then l.set i (b++old.drop b.length) else l) r
def zJ.crash(D:zJ)(keep:List Bool)(torn cut:Int):zJ:={ D with lasting:=zNv keep torn cut 0 D.lasting D.waiting,waiting:=[] }
def zJ.burns(D:zJ):Bool × zJ :=
 if D.lit && decide (D.after=0) then
  (true,{ D with lit:=false,after:=0,torn:=0,cut:=0,keep:=[],off:=true }.crash D.keep D.torn D.cut)
 else (false,{ D with after:=RowKit.wrap64 (D.after-1),count:=RowKit.wrap64 (D.count+1) })
def zBJ(blocks size:Nat):zJ :=
  { blocks:=blocks,size:=size,lasting:=List.replicate blocks (List.replicate size 0),waiting:=[],lit:=false,after:=0,torn:=0,cut:=0,keep:=[],off:=false,count:=0 }
theorem zFw(i:Nat)(l r:List (Nat × List UInt8)):zBh i (l++r)=(zBh i r).or (zBh i l):=by
 induction l with
 | nil=>simp[zBh]
 | cons x l ih =>
  obtain⟨j,b⟩:=x;rw[tF,zBh,ih,zBh];cases zBh i r <;> cases zBh i l <;> rfl
theorem zDz(i:Nat):∀(l:List (Nat × List UInt8)),(∀p∈l,p.1≠i)->zBh i l=none
 | [],_=>rfl
 | (j,b) :: l,h=>by
  rw[zBh,zDz i l (λp hp=>h p (uJ _ hp)),if_neg (h (j,b) uK)]
theorem zPs(i:Nat)(l:List (Nat × List UInt8))(k:Nat)(b:List UInt8)(hk:l[k]? = some (i,b))(h:∀j p,k<j->l[j]? = some p->p.1≠i):zBh i l=some b:=by
 obtain⟨A2,he⟩:=uA.1 hk;have h1:l=l.take k++(i,b) :: l.drop (k+1):=by
  rw[<- he,<- wD A2,uZ]
 have h2:zBh i (l.drop (k+1))=none:=zDz i _ (λp hp=>by
  obtain⟨j,hj,A3⟩:=wF hp;rw[List.getElem_drop] at A3;have A6:k+1+j<l.length:=by simp at hj;omega
  exact h (k+1+j) p (by omega) (by rw[uB A6,A3]))
 rw[h1,zFw,zBh,h2,if_pos rfl];rfl
theorem zAo(A B:List UInt8)(W n:Nat)(i:Nat)(hi:A.length=i)(hn:n<256 ^ W):qK (A++(yD W n++B)) i W=n:=by
 unfold qK;rw[List.drop_append_of_le_length (by omega),tY (by omega),wP,rF (by rw[zD];omega),uY (by rw[zD];omega),zFv];exact rI hn
def zHp(k n i g:Nat)(b R:List UInt8):List UInt8:=yD 1 k++(yD 1 0++(yD 2 n++(yD 4 i++(yD 8 g++(yD 4 0++(b++R))))))
theorem zSK(k n i g:Nat)(b R:List UInt8)(h:k<256):qK (zHp k n i g b R) 0 1=k:=zAo [] _ 1 k 0 rfl (by simpa using h)
theorem zSL(k n i g:Nat)(b R:List UInt8)(h:n<65536):qK (zHp k n i g b R) 2 2=n:=by
 unfold zHp;have:yD 1 k++(yD 1 0++(yD 2 n++(yD 4 i++(yD 8 g++(yD 4 0++(b++R))))))=(yD 1 k++yD 1 0)++(yD 2 n++(yD 4 i++(yD 8 g++(yD 4 0++(b++R))))):=by simp only[uN]
 rw[this];exact zAo _ _ 2 n 2 (by simp[zD]) (by simpa using h)
theorem zSM(k n i g:Nat)(b R:List UInt8)(h:i<4294967296):qK (zHp k n i g b R) 4 4=i:=by
 unfold zHp;have:yD 1 k++(yD 1 0++(yD 2 n++(yD 4 i++(yD 8 g++(yD 4 0++(b++R))))))=(yD 1 k++yD 1 0++yD 2 n)++(yD 4 i++(yD 8 g++(yD 4 0++(b++R)))):=by simp only[uN]
 rw[this];exact zAo _ _ 4 i 4 (by simp[zD]) (by simpa using h)
theorem zSN(k n i g:Nat)(b R:List UInt8)(h:g<256 ^ 8):qK (zHp k n i g b R) 8 8=g:=by
 unfold zHp;have:yD 1 k++(yD 1 0++(yD 2 n++(yD 4 i++(yD 8 g++(yD 4 0++(b++R))))))=(yD 1 k++yD 1 0++yD 2 n++yD 4 i)++(yD 8 g++(yD 4 0++(b++R))):=by simp only[uN]
 rw[this];exact zAo _ _ 8 g 8 (by simp[zD]) h
theorem zSO(k n i g:Nat)(b R:List UInt8):((zHp k n i g b R).drop 20).take b.length=b:=by
 unfold zHp;have:yD 1 k++(yD 1 0++(yD 2 n++(yD 4 i++(yD 8 g++(yD 4 0++(b++R))))))=(yD 1 k++yD 1 0++yD 2 n++yD 4 i++yD 8 g++yD 4 0)++(b++R):=by simp only[uN]
 rw[this,List.drop_append_of_le_length (by simp[zD]),tY (by simp[zD]),wP,rF (uD _),uY (uD _)]
theorem zOW(p:zY)(size:Nat):∃R,jX p size=zHp p.kind.toNat p.body.length p.id.toNat p.gen p.body R:=by
 refine⟨List.replicate (size-4-(20+p.body.length)) 0++yD 4 (zDB (zFb p size)),?_⟩;unfold jX;generalize yD 4 (zDB (zFb p size))=C
 unfold zFb zHp;simp only[uN]
theorem zHq{p:zY}{size:Nat}(hc:qE p size=none)(hg:p.gen<18446744073709551616):zBg (jX p size)=p:=by
 obtain⟨h1,h2,h3,h4,h5,h6⟩:=qO hc;have hk:=zGs h3;have A0:=zAE p size (by omega);obtain⟨R,hR⟩:=zOW p size;unfold zBg;rw[A0,hR,zSK _ _ _ _ _ _ (by omega),zSL _ _ _ _ _ _ (by omega),zSM _ _ _ _ _ _ (by omega),zSN _ _ _ _ _ _ (by exact hg),zSO,if_pos (by omega)];obtain⟨pk,pi,pg,pb⟩:=p;simp only[zY.mk.injEq,and_true] at *;exact⟨by omega,by omega⟩
theorem zOX{p:zY}{size:Nat}(hc:qE p size=none)(hg:p.gen<18446744073709551616):zBq (jX p size)=true:=by
 have A0:=zAE p size (by have:=qO hc;omega);unfold zBq;rw[zHq hc hg,A0,hc];simp
theorem zCX{p:zY}{size:Nat}(hc:qE p size=none)(hg:p.gen<18446744073709551616):zV (jX p size) p.id=.inl p:=by
 unfold zV;rw[zOX hc hg,zHq hc hg];simp
theorem zPt(a b:Nat):(a ^^^ b) / 2=(a / 2) ^^^ (b / 2):=by
 apply Nat.eq_of_testBit_eq;intro i
 simp[Nat.testBit_div_two]
theorem zPu(a b:Nat):(a ^^^ b) % 2=(a+b) % 2:=by
 have h:=pO a b 0;simp only[Nat.testBit_zero] at h;have h1:=tZ a;have h2:=tZ b;have h3:=tZ (a ^^^ b);rcases h1 with h1|h1 <;> rcases h2 with h2|h2 <;> rcases h3 with h3|h3 <;> rw[h1,h2,h3] at h <;> first|omega|(simp at h;done)|(exfalso;revert h;decide)
theorem zGt(a b:Nat):zAC (a ^^^ b)=zAC a ^^^ zAC b:=by
 unfold zAC;rw[zPu,zPt];have ha:=tZ a;have hb:=tZ b;rcases ha with ha|ha <;> rcases hb with hb|hb
 .rw[if_neg (by omega),if_neg (by omega),if_neg (by omega)]
 .rw[if_pos (by omega),if_neg (by omega),if_pos (by omega),tR]
 .rw[if_pos (by omega),if_pos (by omega),if_neg (by omega),tR,tR,nL (b / 2)]
 .rw[if_neg (by omega),if_pos (by omega),if_pos (by omega)];rw[tR,<- tR 3988292384,nL 3988292384,tR,nM,Nat.xor_zero]
theorem zGu:∀k a b,zAD k (a ^^^ b)=zAD k a ^^^ zAD k b
 | 0,_,_=>rfl
 | k+1,a,b=>by rw[zAD,zGt,zGu k];rfl
theorem zGv(v:Nat):zAC (2 * v)=v:=by unfold zAC;rw[if_neg (by omega)];omega
theorem zGw:∀k v,zAD k (2 ^ k * v)=v
 | 0,v=>by simp[zAD]
 | k+1,v=>by rw[zAD,pH,nK (2 ^ k) 2,Nat.mul_assoc,zGv,zGw k]
theorem zGx(a b:Nat)(ha:a<4294967296)(hb:b<4294967296)(h:zAC a=zAC b):a=b:=by
 unfold zAC at h;have A4:a / 2<2147483648:=by omega
 have A5:b / 2<2147483648:=by omega
 have big:∀x y,x<2147483648->y<2147483648->x ^^^ 3988292384=y->False:=by
  intro x y hx hy e;have e2:x ^^^ y=3988292384:=by rw[<- e,<- tR,nM,Nat.zero_xor]
  have:=wU (n:=31) hx hy;omega
 split at h <;> split at h
 .have:a / 2=b / 2:=by
   have e:=congrArg (· ^^^ 3988292384) h;simpa[tR] using e
  omega
 .exact (big _ _ A4 A5 h).elim
 .exact (big _ _ A5 A4 h.symm).elim
 .omega
def zBK(r:Nat)(b:Bool):Nat:=zAC (r ^^^ b.toNat)
def val:List Bool->Nat
 | []=>0
 | b :: l=>b.toNat+2 * val l
theorem zRN(b:Bool)(v:Nat):b.toNat+2 * v=b.toNat ^^^ (2 * v):=by
 apply Nat.eq_of_testBit_eq;intro i
 cases i with
 | zero=>cases b <;> simp[Nat.testBit_zero] <;> omega
 | succ i =>
  rw[pO];simp only[Nat.testBit_succ];cases b <;> simp <;> congr 1 <;> omega
theorem zEc:∀(l:List Bool) (s:Nat),l.foldl zBK s=zAD l.length (s ^^^ val l)
 | [],s=>by simp[zAD,val]
 | b :: l,s=>by
  rw[tM,zEc l,uG,zAD,val,zRN,<- tR,zGt,zGv];rfl
theorem zMf:∀l:List Bool,val l<2 ^ l.length
 | []=>by simp[val]
 | b :: l=>by have:=zMf l;rw[val,uG,pH];cases b <;> simp <;> omega
theorem zNw:∀(l m:List Bool),l.length=m.length->val l=val m->l=m
 | [],[],_,_=>rfl
 | [],_ :: _,h,_=>by simp at h
 | _ :: _,[],h,_=>by simp at h
 | b :: l,c :: m,h,hv=>by
  simp only[val] at hv;have hb:b=c:=by cases b <;> cases c <;> simp at hv <;> first|rfl|omega
  subst hb;rw[zNw l m (by simpa using h) (by omega)]
theorem zGy:∀k a b,a<4294967296->b<4294967296->zAD k a=zAD k b->a=b
 | 0,_,_,_,_,h=>h
 | k+1,a,b,ha,hb,h=>zGx a b ha hb (zGy k _ _ (zDC a ha) (zDC b hb) h)
theorem zMg(b:Bool):b.toNat<4294967296:=by cases b <;> decide
theorem zFd(s:Nat)(b:Bool)(h:s<4294967296):zBK s b<4294967296:=zDC _ (wU (n:=32) h (zMg b))
theorem zHa:∀(l:List Bool) (s:Nat),s<4294967296->l.foldl zBK s<4294967296
 | [],_,h=>h
 | b :: l,s,h=>zHa l _ (zFd s b h)
theorem zHr(a b c:Nat)(h:a ^^^ b=a ^^^ c):b=c:=by
 have e:=congrArg (a ^^^ ·) h;simpa[<- tR] using e
theorem zK7(a b:Nat)(x:Bool)(ha:a<4294967296)(hb:b<4294967296)(h:zBK a x=zBK b x):a=b:=by
 have:=zGx _ _ (wU (n:=32) ha (zMg x)) (wU (n:=32) hb (zMg x)) h;rw[nL a,nL b] at this;exact zHr _ _ _ this
theorem zK8:∀(l:List Bool) (a b:Nat),a<4294967296->b<4294967296->l.foldl zBK a=l.foldl zBK b->a=b
 | [],_,_,_,_,h=>h
 | x :: l,a,b,ha,hb,h=>zK7 a b x ha hb (zK8 l _ _ (zFd a x ha) (zFd b x hb) h)
theorem zSm(p x y q:List Bool)(s:Nat)(hs:s<4294967296)(hl:x.length=y.length)(A8:x.length<=32)(h:(p++x++q).foldl zBK s=(p++y++q).foldl zBK s):x=y:=by
 simp only[pS] at h;have h0:=zHa p s hs;have h1:=zK8 q _ _ (zHa x _ h0) (zHa y _ h0) h;generalize p.foldl zBK s=s0 at h0 h1
 rw[zEc,zEc,hl] at h1;have hp:(2:Nat) ^ y.length<=2 ^ 32:=wX (by omega) (by omega);have A7:=zMf x;have A9:=zMf y;rw[hl] at A7;have h2:=zGy _ _ _ (wU (n:=32) h0 (by omega)) (wU (n:=32) h0 (by omega)) h1;exact zNw _ _ hl (zHr _ _ _ h2)
def zEd(n:Nat):List Bool:=[n.testBit 0,n.testBit 1,n.testBit 2,n.testBit 3,n.testBit 4,n.testBit 5,n.testBit 6,n.testBit 7]
def vA(l:List UInt8):List Bool:=l.flatMap λx=>zEd x.toNat
theorem zE7:∀n,n<256->val (zEd n)=n:=by decide +kernel
theorem zPv(r x:Nat):r ^^^ x=(256 * (r / 256)) ^^^ ((r % 256) ^^^ x):=by
 rw[<- tR];congr 1;apply Nat.eq_of_testBit_eq;intro i
 rw[pO];have e1:(256 * (r / 256)).testBit i=(decide (8<=i) && (r / 256).testBit (i-8)):=Nat.testBit_two_pow_mul (i:=8) (a:=r / 256) (j:=i);have e2:(r % 256).testBit i=(decide (i<8) && r.testBit i):=Nat.testBit_mod_two_pow r 8 i;have e3:(r / 256).testBit (i-8)=r.testBit (8+(i-8)):=by
  have:=Nat.testBit_shiftRight r (i:=8) (j:=i-8);rwa [Nat.shiftRight_eq_div_pow] at this
 rw[e1,e2,e3];by_cases hi:i<8
 .have:¬ 8<=i:=by omega
  simp[hi,this]
 .have h8:8<=i:=by omega
  simp[hi,h8]
theorem zKG(r:Nat)(x:UInt8):zDV r x.toNat=(zEd x.toNat).foldl zBK r:=by
 have hx:=zE7 _ x.toNat_lt;have h1:(zEd x.toNat).foldl zBK r=zAD 8 (r ^^^ val (zEd x.toNat)):=zEc _ _;rw[h1,hx,zPv,zGu];have h2:zAD 8 (256 * (r / 256))=r / 256:=zGw 8 (r / 256);rw[h2,zDV,zCW]
theorem zGz(x:UInt8)(l:List UInt8):vA (x :: l)=zEd x.toNat++vA l:=rfl
theorem zI3(l m:List UInt8):vA (l++m)=vA l++vA m:=by simp[vA]
theorem zFx:∀(l:List UInt8) (r:Nat),zBb r l=(vA l).foldl zBK r
 | [],_=>rfl
 | x :: l,r=>by rw[zBb,zFx l,zKG,zGz,pS]
theorem zBE(l:List UInt8):(vA l).length=8 * l.length:=by
 induction l with
 | nil=>rfl
 | cons x l ih=>rw[vA,wQ,uC,uG];show 8+(vA l).length=_;rw[ih];omega
theorem zOY(x y:UInt8)(h:zEd x.toNat=zEd y.toNat):x=y:=by
 have:=congrArg val h;rw[zE7 _ x.toNat_lt,zE7 _ y.toNat_lt] at this;exact UInt8.toNat_inj.1 this
theorem zHs:∀(l m:List UInt8),vA l=vA m->l=m
 | [],[],_=>rfl
 | [],y :: m,h=>by have:=congrArg List.length h;rw[zBE,zBE] at this;simp at this
 | x :: l,[],h=>by have:=congrArg List.length h;rw[zBE,zBE] at this;simp at this
 | x :: l,y :: m,h=>by
  rw[vA,vA,wQ,wQ] at h;obtain⟨h1,h2⟩:=List.append_inj h rfl;rw[zOY x y h1,zHs l m h2]
theorem zSn(n:Nat)(h:n<4294967296):val (vA (yD 4 n))=n:=by
 have e:∀x:UInt8,val (zEd x.toNat)=x.toNat:=λx=>zE7 _ x.toNat_lt
 have ap:∀(a b:List Bool),val (a++b)=val a+2 ^ a.length * val b:=by
  intro a b;induction a with
  | nil=>simp[val]
  | cons x a ih=>rw[tF,val,ih,val,uG,pH];rw[Nat.mul_add,<- Nat.mul_assoc,nK 2 (2 ^ a.length)];omega
 simp only[yD,vA,wQ,List.flatMap_nil,ap,e];simp only[zEd,uG,uL,val,UInt8.toNat_ofNat'];omega
theorem zNx(raw:List UInt8)(h:zBb 4294967295 raw<4294967296):(vA (raw++yD 4 (zDB raw))).foldl zBK 4294967295=zAD 32 4294967295:=by
 rw[zI3,pS,<- zFx raw];unfold zDB;generalize zBb 4294967295 raw=r at *
 rw[zEc,zSn _ (wU (n:=32) (by decide) h)];rw[nL 4294967295,<- tR,nM,Nat.zero_xor];rfl
def zBw(l:List UInt8)(p:Nat):Bool:=(l.getD (p / 8) 0).toNat.testBit (p % 8)
theorem zOZ(n i:Nat)(h:i<8):(zEd n)[i]? = some (n.testBit i):=by
 obtain rfl|rfl|rfl|rfl|rfl|rfl|rfl|rfl:i=0\/i=1\/i=2\/i=3\/i=4\/i=5\/i=6\/i=7:=by omega
 all_goals rfl
theorem zFe:∀(l:List UInt8) (p:Nat),p<8 * l.length->(vA l)[p]? = some (zBw l p)
 | [],p,h=>by simp at h
 | x :: l,p,h=>by
  rw[zGz];by_cases hp:p<8
  .rw[tJ (by exact hp),zOZ _ _ hp];unfold zBw;rw[show p / 8=0 by omega,show p % 8=p by omega];rfl
  .rw[wV (by show 8<=p;omega)];show (vA l)[p-8]? = _;rw[zFe l (p-8) (by rw[uG] at h;omega)];unfold zBw;rw[show p / 8=(p-8) / 8+1 by omega,show p % 8=(p-8) % 8 by omega];rfl
def zEe(l:List UInt8)(q b:Nat):List UInt8:=l.set (q / 8) (UInt8.ofNat ((l.getD (q / 8) 0).toNat ^^^ (b * 2 ^ (q % 8))))
theorem zKH(b i:Nat)(hb:b<2)(hi:i<8):b * 2 ^ i<256:=by
 have h:(2:Nat) ^ i<=2 ^ 7:=wX (by omega) (by omega);obtain rfl|rfl:b=0\/b=1:=by omega
 .omega
 .omega
theorem zPw(l:List UInt8)(q b p:Nat)(hb:b<2)(hq:q<8 * l.length):zBw (zEe l q b) p=(zBw l p ^^ (decide (p=q) && decide (b=1))):=by
 unfold zBw zEe;by_cases hj:p / 8=q / 8
 .have hl:q / 8<l.length:=by omega
  rw[hj];have e1:(l.set (q / 8) (UInt8.ofNat ((l.getD (q / 8) 0).toNat ^^^ (b * 2 ^ (q % 8))))).getD (q / 8) 0=UInt8.ofNat ((l.getD (q / 8) 0).toNat ^^^ (b * 2 ^ (q % 8))):=by
   simp[List.getD,hl]
  rw[e1,UInt8.toNat_ofNat',rI (wU (n:=8) (l.getD (q / 8) 0).toNat_lt (zKH b _ hb (by omega))),pO];congr 1
  obtain rfl|rfl:b=0\/b=1:=by omega
  .simp
  .rw[Nat.one_mul,Nat.testBit_two_pow];simp;omega
 .have e1:(l.set (q / 8) (UInt8.ofNat ((l.getD (q / 8) 0).toNat ^^^ (b * 2 ^ (q % 8))))).getD (p / 8) 0=l.getD (p / 8) 0:=by
   simp only[List.getD];rw[uS (λe=>hj e.symm)]
  rw[e1];have:p≠q:=λe=>hj (by rw[e])
  simp[this]
def vY(mask bit:Nat):Nat->Nat->List UInt8->List UInt8
 | 0,_,l=>l
 | n+1,k,l=>vY mask bit n (k+1) (if bit+k<8 * l.length then zEe l (bit+k) (mask / 2 ^ k % 2) else l)
def zAf(l:List UInt8)(bit mask:Nat):List UInt8:=vY mask bit 32 0 l
theorem zD0(l:List UInt8)(q b:Nat):(zEe l q b).length=l.length:=by simp[zEe]
theorem zDF(mask bit:Nat):∀n k l,(vY mask bit n k l).length=l.length
 | 0,_,_=>rfl
 | n+1,k,l=>by rw[vY,zDF mask bit n];split <;> simp[zD0]
theorem zCm(mask bit:Nat):∀n k l p,p<8 * l.length->zBw (vY mask bit n k l) p=(zBw l p ^^ (decide (bit+k<=p) && decide (p<bit+k+n) && decide (mask / 2 ^ (p-bit) % 2=1)))
 | 0,k,l,p,_=>by
  rw[vY];have:¬ (bit+k<=p/\p<bit+k):=by omega
  by_cases h1:bit+k<=p <;> by_cases h2:p<bit+k <;> simp[h1,h2] <;> omega
 | n+1,k,l,p,hp=>by
  rw[vY];have h2:mask / 2 ^ k % 2<2:=pE _ (by omega);by_cases hq:bit+k<8 * l.length
  .rw[if_pos hq,zCm mask bit n (k+1) _ p (by rw[zD0];exact hp),zPw l _ _ p h2 hq];by_cases e:p=bit+k
   .subst e;rw[show bit+k-bit=k by omega];have h5:¬ k+1<=k:=by omega
    simp[h5]
   .by_cases h3:bit+k<=p
    .have h4:bit+(k+1)<=p:=by omega
     have h5:(p<bit+(k+1)+n)=(p<bit+k+(n+1)):=by rw[show bit+(k+1)+n=bit+k+(n+1) by omega]
     simp[e,h3,h4,h5]
    .have h4:¬ bit+(k+1)<=p:=by omega
     simp[e,h3,h4]
  .rw[if_neg hq,zCm mask bit n (k+1) l p hp];have h3:¬ bit+k<=p:=by omega
   have h4:¬ bit+(k+1)<=p:=by omega
   simp[h3,h4]
theorem zES(l:List UInt8)(bit mask:Nat):(zAf l bit mask).length=l.length:=zDF _ _ _ _ _
theorem zFy(l:List UInt8)(bit mask p:Nat)(hp:p<8 * l.length):zBw (zAf l bit mask) p=(zBw l p ^^ (decide (bit<=p) && decide (p<bit+32) && decide (mask / 2 ^ (p-bit) % 2=1))):=by
 unfold zAf;rw[zCm _ _ _ _ _ _ hp];rfl
theorem zG0{α:Type}(l:List α)(a n:Nat):l=l.take a++(l.drop a).take n++l.drop (a+n):=by
 rw[uN,<- List.drop_drop,uZ,uZ]
theorem zMh(l:List UInt8)(bit mask:Nat)(hb:bit<8 * l.length)(hm:mask % 2=1):zAf l bit mask≠l:=by
 intro e;have h:=zFy l bit mask bit hb;rw[e] at h;simp[hm] at h
theorem zK9(l l' raw raw':List UInt8)(bit mask:Nat)(hl:l=raw++yD 4 (zDB raw))(hl':l'=raw'++yD 4 (zDB raw'))(he:l'=zAf l bit mask):l'=l:=by
 have A0:l'.length=l.length:=by rw[he,zES]
 have r1:=zNx raw (zDy raw _ (by decide));have r2:=zNx raw' (zDy raw' _ (by decide));rw[<- hl] at r1;rw[<- hl'] at r2;have b1:=zBE l;have b2:=zBE l';have A1:∀p,p<8 * l.length->¬ (bit<=p/\p<bit+32)->(vA l')[p]? = (vA l)[p]?:=λp hp hn=>by
  rw[zFe l p hp,zFe l' p (by omega),he,zFy l bit mask p hp];congr 1
  by_cases h1:bit<=p <;> by_cases h2:p<bit+32 <;> simp[h1,h2] <;> omega
 have ht:(vA l').take bit=(vA l).take bit:=by
  apply pD;intro i
  rw[rX,rX];by_cases hi:i<bit
  .rw[if_pos hi,if_pos hi];by_cases h8:i<8 * l.length
   .exact A1 i h8 (by omega)
   .rw[wT (by omega),wT (by omega)]
  .rw[if_neg hi,if_neg hi]
 have hd:(vA l').drop (bit+32)=(vA l).drop (bit+32):=by
  apply pD;intro i
  rw[rD,rD];by_cases h8:bit+32+i<8 * l.length
  .exact A1 _ h8 (by omega)
  .rw[wT (by omega),wT (by omega)]
 have p1:=zG0 (vA l) bit 32;have p2:=zG0 (vA l') bit 32;rw[ht,hd] at p2;have:=zSm ((vA l).take bit) (((vA l').drop bit).take 32) (((vA l).drop bit).take 32) ((vA l).drop (bit+32)) 4294967295 (by decide)
  (by simp[b1,b2,A0]) (by simp;omega) (by rw[<- p1,<- p2,r1,r2])
 rw[this,<- p1] at p2;exact zHs _ _ p2
theorem zKI{p:zY}{size:Nat}(bit mask:Nat)(hc:qE p size=none)(hb:bit<8 * size)(hm:mask % 2=1):zBq (zAf (jX p size) bit mask)=false:=by
 have A0:=zAE p size (by have:=qO hc;omega);cases ho:zBq (zAf (jX p size) bit mask) with
 | false=>rfl
 | true =>
  unfold zBq at ho;simp only[uI,uO] at ho;exact absurd (zK9 (jX p size) _ _ _ bit mask rfl ho.2.symm rfl) (zMh _ _ _ (by rw[A0];exact hb) hm)
end
end Go.Proofs.YtalpfcaakpgkmaaGreatDoor
