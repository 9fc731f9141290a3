import Derived.Test.YtchklfmggpconaaGreatDoorK00
import Derived.WalkKit
import Derived.WalkSpells
import Derived.WalkLawsBesides
import Derived.Handy
import Derived.RowKit
namespace Go.Proofs.YtchklfmggpconaaGreatDoor
section
inductive gT|mk(c s g:Nat)
inductive gV|mk
inductive gW|mk
abbrev gP:=gT.mk
abbrev gB:=gV.mk
abbrev gE:=gW.mk
variable{c s g:Nat}
instance:CoeDep gT (.mk c s g) (Array Value):=⟨#[.pointer (some ⟨c,0,none⟩),.pointer (some ⟨s,0,none⟩),.int .u64 (g:Int)]⟩
instance:CoeDep gT (.mk c s g) Obj:=⟨.cells #[.pointer (some ⟨c,0,none⟩),.pointer (some ⟨s,0,none⟩),.int .u64 (g:Int)] 31⟩
instance:CoeDep gV .mk (Array Value):=⟨#[.bool false,.slice none 0 0,.slice none 0 0,.slice none 0 0]⟩
instance:CoeDep gV .mk Obj:=⟨.cells #[.bool false,.slice none 0 0,.slice none 0 0,.slice none 0 0] 118⟩
instance:CoeDep gW .mk (Array Value):=⟨#[.int .i64 0,.int .i64 0,.int .u64 0,.slice none 0 0]⟩
instance:CoeDep gW .mk Obj:=⟨.cells #[.int .i64 0,.int .i64 0,.int .u64 0,.slice none 0 0] 167⟩
end
section
open Go.RowKit
theorem zJU{k:IntKind}{a b:Int}(h:a=b):Ending.returned (.int k a)=.returned (.int k b):=by rw[h]
theorem zX{a b:Bool}(h:a=b):Ending.returned (.bool a)=.returned (.bool b):=by rw[h]
theorem zFU{k:IntKind}{a b:Int}(h:a=b):Value.int k a=.int k b:=by rw[h]
theorem qY{w:World}{b o:Nat}{v:Value}(h:w.cell? ⟨b,o,none⟩=some v):b<w.heap.size:=World.block_lt_of_cell? w ⟨b,o,none⟩ h
theorem zH{w:World}{b o:Nat}{v:Value}(h:w.cell? ⟨b,o,none⟩=some v)(x:Obj):(w.alloc x).cell? ⟨b,o,none⟩=some v :=
 (World.cell?_of_block (w:=w) (Below.heap_alloc w x b (qY h))).trans h
theorem qH{w:World}{b:Nat}{c:Array Value}{t:TypeId}{fz:Nat × Nat}(h:w.heap[b]? = some (.cells c t fz))(o:Nat):w.cell? ⟨b,o,none⟩=c[o]?:=by
 simp[World.cell?,h]
theorem zK{w:World}{o:Obj}{b:Nat}(h:b=w.heap.size):(w.alloc o).heap[b]? = some o:=by subst h;exact heap_alloc_new w o
structure zA(F:Nat->Prop)(w w':World):Prop where
 os:w'.os=w.os
 tape:w'.tape=w.tape
 output:w'.output=w.output
 size:w.heap.size<=w'.heap.size
 block:∀k,k<w.heap.size->¬ F k->w'.heap[k]? = w.heap[k]?
abbrev zJ(w w':World):Prop:=zA (λ_=>False) w w'
section
variable {F G:Nat->Prop}{w w1 w2 w':World}
theorem zA.refl(F:Nat->Prop)(w:World):zA F w w:=⟨rfl,rfl,rfl,uJ _,λ_ _ _=>rfl⟩
theorem zA.trans(h:zA F w w1)(k:zA F w1 w2):zA F w w2 :=
 ⟨k.os.trans h.os,k.tape.trans h.tape,k.output.trans h.output,uM h.size k.size,λi hi hn=>(k.block i (uH hi h.size) hn).trans (h.block i hi hn)⟩
theorem zA.trans'(h:zA F w w1)(k:zA G w1 w2)(hG:∀i,i<w.heap.size->G i->F i):zA F w w2 :=
 ⟨k.os.trans h.os,k.tape.trans h.tape,k.output.trans h.output,uM h.size k.size,λi hi hn=>(k.block i (uH hi h.size) (λg=>hn (hG i hi g))).trans (h.block i hi hn)⟩
theorem zA.mono(h:zA F w w')(hG:∀i,F i->G i):zA G w w':=⟨h.os,h.tape,h.output,h.size,λi hi hn=>h.block i hi (λf=>hn (hG i f))⟩
theorem zA.drew(h:zA F w w1):zA F w w1.drew:=⟨h.os,h.tape,h.output,h.size,h.block⟩
theorem zA.drewN(h:zA F w w1)(n:Nat):zA F w (w1.drewN n):=⟨h.os,h.tape,h.output,h.size,h.block⟩
theorem zA.alloc(h:zA F w w1)(o:Obj):zA F w (w1.alloc o) :=
 ⟨h.os,h.tape,h.output,uM h.size (by simp),λi hi hn=>(Below.heap_alloc _ _ _ (uH hi h.size)).trans (h.block i hi hn)⟩
theorem zA.setCell(h:zA F w w1){p:Addr}(hp:w.heap.size<=p.block\/F p.block)(u:Value):zA F w (w1.setCell p u) :=
 ⟨h.os,h.tape,h.output,uM h.size (by simp[World.setCell]),λi hi hn=>(Below.heap_setCell _ _ _ _ (by rintro rfl;rcases hp with hp|hp;omega;exact hn hp)).trans (h.block i hi hn)⟩
theorem zA.below(h:zJ w w'):Below w.heap.size w w':=⟨h.os,h.tape,h.output,h.size,λi hi=>h.block i hi (λf=>f)⟩
theorem zA.ext(h:zJ w w'):zA F w w':=h.mono (λ_ f=>f.elim)
theorem zA.cell(h:zA F w w'){b o:Nat}(hb:b<w.heap.size)(hF:¬ F b):w'.cell? ⟨b,o,none⟩=w.cell? ⟨b,o,none⟩:=World.cell?_of_block (w:=w) (h.block b hb hF)
theorem zA.frozen(h:zA F w w'){b o:Nat}(hb:b<w.heap.size)(hF:¬ F b):w'.frozen? ⟨b,o,none⟩=w.frozen? ⟨b,o,none⟩:=World.frozen?_of_block (w:=w) (h.block b hb hF)
end
def Sl{α:Type}(F:Nat->Prop)(w:World)(sz:Nat)(enc:α->List Value)(v:Value)(l:List α):Prop :=
 ∃a cap,v=.slice a l.length cap/\l.length<=cap/\cap<=maxLen/\l.length<=140737488355328 /\
  (l=[]\/∃b off,a=some ⟨b,off,none⟩/\b<w.heap.size/\¬ F b/\∀i x,l[i]? = some x->∀j u,(enc x)[j]? = some u->w.cell? ⟨b,off+i * sz+j,none⟩=some u)
section
variable {α:Type}{F G:Nat->Prop}{w w':World}{sz:Nat}{enc:α->List Value}{v:Value}{l:List α}
theorem Sl.mods(h:Sl F w sz enc v l)(m:zA F w w'):Sl F w' sz enc v l:=by
 obtain⟨a,cap,rfl,h1,h2,h3,h4⟩:=h;refine⟨a,cap,rfl,h1,h2,h3,?_⟩;rcases h4 with h4|⟨b,off,rfl,hb,hF,hc⟩
 .exact .inl h4
 .exact .inr ⟨b,off,rfl,uH hb m.size,hF,λi x hi j u hu=>(m.cell hb hF).trans (hc i x hi j u hu)⟩
theorem Sl.step(h:Sl F w sz enc v l)(m:zA F w w')(hG:∀k,k<w.heap.size->¬ F k->¬ G k):Sl G w' sz enc v l:=by
 obtain⟨a,cap,rfl,h1,h2,h3,h4⟩:=h;refine⟨a,cap,rfl,h1,h2,h3,?_⟩;rcases h4 with h4|⟨b,off,rfl,hb,hF,hc⟩
 .exact .inl h4
 .exact .inr ⟨b,off,rfl,uH hb m.size,hG b hb hF,λi x hi j u hu=>(m.cell hb hF).trans (hc i x hi j u hu)⟩
theorem Sl.anti(h:Sl F w sz enc v l)(hG:∀k,k<w.heap.size->G k->F k):Sl G w sz enc v l :=
 h.step (zA.refl _ _) (λk hk hF hg=>hF (hG k hk hg))
theorem Sl.at{a:Option Addr}(h:l=[]\/∃b off,a=some ⟨b,off,none⟩/\b<w.heap.size/\¬ F b/\∀i x,l[i]? = some x->∀j u,(enc x)[j]? = some u->w.cell? ⟨b,off+i * sz+j,none⟩=some u)
  (m:zA G w w') (hG:∀k,k<w.heap.size->G k->F k) (k:Nat) (hk:k<l.length) :
  ∃b off,a=some ⟨b,off,none⟩/\b<w.heap.size/\¬ F b/\∀j u,(enc l[k])[j]? = some u->w'.cell? ⟨b,off+k * sz+j,none⟩=some u:=by
 rcases h with h|⟨b,off,ha,hb,hF,hc⟩
 .rw[h] at hk;simp at hk
 .exact⟨b,off,ha,hb,hF,λj u hu=>(m.cell hb (λg=>hF (hG b hb g))).trans (hc k l[k] (by simp[hk]) j u hu)⟩
theorem Sl.atE{a:Option Addr}(h:l=[]\/∃b off,a=some ⟨b,off,none⟩/\b<w.heap.size/\¬ F b/\∀i x,l[i]? = some x->∀j u,(enc x)[j]? = some u->w.cell? ⟨b,off+i * sz+j,none⟩=some u)
  (m:zJ w w') (k:Nat) (hk:k<l.length) :
  ∃b off,a=some ⟨b,off,none⟩/\b<w.heap.size/\¬ F b/\∀j u,(enc l[k])[j]? = some u->w'.cell? ⟨b,off+k * sz+j,none⟩=some u :=
 Sl.at h m (λ_ _ f=>f.elim) k hk
theorem Sl.one{x:α}{b:Nat}{t:TypeId}{fz:Nat × Nat}(h:w.heap[b]? = some (.cells (enc x).toArray t fz))(hF:¬ F b):Sl F w sz enc (.slice (some ⟨b,0,none⟩) 1 1) [x]:=by
 refine⟨_,1,rfl,uJ _,by simp[maxLen],by simp,.inr ⟨b,0,rfl,(tH.1 h).1,hF,λi y hi j u hu=>?_⟩⟩;match i,hi with
 | 0,hi =>
  simp at hi;subst hi;rw[qH h];simpa using hu
theorem Sl.nil(F:Nat->Prop)(w:World)(sz:Nat)(enc:α->List Value):Sl F w sz enc (.slice none 0 0) []:=⟨none,0,rfl,uJ _,by simp[maxLen],by simp,.inl rfl⟩
end
structure zI where
 key:ByteArray
 value:ByteArray
 chain:Int
 size:Int
structure zF where
 leaf:Bool
 entries:List zI
 keys:List ByteArray
 kids:List Int
def vA(e:zI):List Value:=[.string e.key,.string e.value,.int .i64 e.chain,.int .i64 e.size]
def zAL(p:ByteArray × ByteArray):List Value:=[.string p.1,.string p.2]
def qK(s:ByteArray):List Value:=[.string s]
def yB(n:Int):List Value:=[.int .i64 n]
def yE(b:UInt8):List Value:=[.int .u8 (b.toNat:Int)]
def qC(s:ByteArray):Bool:=decide (1<=(s.size:Int)) && decide ((s.size:Int)<=32)
theorem vC(s:ByteArray):qC s=true ↔ 1<=s.size/\s.size<=32:=by simp[qC];omega
def leS(a b:ByteArray):Bool:=Op.bytesLess a.toList b.toList || a.toList == b.toList
def qJ(a b:ByteArray):Bool:=Op.bytesLess a.toList b.toList
def yF(e:zI):Int:=2+e.key.size+(if e.chain=0 then 1+(e.value.size:Int) else 8)
def zY:List zI->Int
 | []=>0
 | e :: r=>yF e+zY r
def yA:List ByteArray->Int
 | []=>0
 | k :: r=>(5+(k.size:Int))+yA r
def zD(n:zF):Int:=2+(if n.leaf then 0 else 4)+zY n.entries+yA n.keys
theorem zBZ(e:zI):2<=yF e:=by unfold yF;split <;> omega
theorem vO(l:List zI):0<=zY l:=by
 induction l with
 | nil=>simp[zY]
 | cons e r ih=>have:=zBZ e;simp only[zY];omega
theorem qS(l:List ByteArray):0<=yA l:=by
 induction l with
 | nil=>simp[yA]
 | cons e r ih=>simp only[yA];omega
theorem yM(l r:List zI):zY (l++r)=zY l+zY r:=by
 induction l with
 | nil=>simp[zY]
 | cons e l ih=>simp only[wN,zY,ih];omega
theorem qI(l r:List ByteArray):yA (l++r)=yA l+yA r:=by
 induction l with
 | nil=>simp[yA]
 | cons e l ih=>simp only[wN,yA,ih];omega
theorem yJ{α:Type}(l:List α)(k:Nat)(x:α)(h:l[k]? = some x):l.take (k+1)=l.take k++[x]:=by
 rw[List.take_add_one,h];rfl
theorem zCU(l:List zI)(k:Nat):zY (l.take k)<=zY l:=by
 have:=yM (l.take k) (l.drop k);rw[uZ] at this;have:=vO (l.drop k);omega
theorem zCV(l:List ByteArray)(k:Nat):yA (l.take k)<=yA l:=by
 have:=qI (l.take k) (l.drop k);rw[uZ] at this;have:=qS (l.drop k);omega
end
section
def yI:Nat->Nat->List UInt8
 | 0,_=>[]
 | W+1,n=>UInt8.ofNat n :: yI W (n / 256)
def zDy:List UInt8->Nat
 | []=>0
 | x :: l=>x.toNat+256 * zDy l
theorem zO:∀W n,(yI W n).length=W
 | 0,_=>rfl
 | W+1,n=>by simp[yI,zO W]
theorem zFV:∀W n,zDy (yI W n)=n % 256 ^ W
 | 0,n=>by simp[yI,zDy,Nat.mod_one]
 | W+1,n=>by
  rw[yI,zDy,zFV W];rw[pU,Nat.mul_comm (256 ^ W) 256,Nat.mod_mul];simp
theorem zEU:∀l,zDy l<256 ^ l.length
 | []=>by simp[zDy]
 | x :: l=>by
  have:=zEU l;have hx:=x.toNat_lt;rw[zDy,uD,pU];omega
theorem zHB(l:List UInt8)(q m W:Nat)(x:UInt8)(hm:m<W)(hx:l[q+m]? = some x) :
  zDy ((l.drop (q+m)).take (W-m))=zDy ((l.drop (q+(m+1))).take (W-(m+1))) * 256+x.toNat:=by
 obtain⟨hlt,he⟩:=uB.1 hx;rw[wO hlt,he,show W-m=(W-(m+1))+1 by omega,rY,zDy];rw[show q+m+1=q+(m+1) by omega];omega
theorem zJV(l:List UInt8)(q m W:Nat):zDy ((l.drop (q+m)).take (W-m))<256 ^ (W-m) :=
 uH (zEU _) (tT (by decide) (by simp;omega))
def jR(r:Nat):Nat:=if r % 2=1 then (r / 2) ^^^ 3988292384 else r / 2
def zCW:Nat->Nat->Nat
 | 0,r=>r
 | k+1,r=>zCW k (jR r)
def zCg(n:Nat):Nat:=zCW 8 n
def zEV(r x:Nat):Nat:=(r / 256) ^^^ zCg ((r % 256) ^^^ x)
def zCX(r:Nat):List UInt8->Nat
 | []=>r
 | x :: l=>zCX (zEV r x.toNat) l
def zEx(l:List UInt8):Nat:=4294967295 ^^^ zCX 4294967295 l
theorem zCh(r:Nat)(h:r<4294967296):jR r<4294967296:=by
 unfold jR;split
 .exact tL (n:=32) (by omega) (by decide)
 .omega
theorem zHC:∀k r,r<4294967296->zCW k r<4294967296
 | 0,_,h=>h
 | k+1,r,h=>zHC k _ (zCh r h)
theorem zGZ(n:Nat)(h:n<256):zCg n<4294967296:=zHC 8 n (by omega)
theorem zHD(r x:Nat)(h:r<4294967296)(hx:x<256):zEV r x<4294967296 :=
 tL (n:=32) (by omega) (zGZ _ (tL (n:=8) (by omega) hx))
theorem zHE:∀(l:List UInt8) (r:Nat),r<4294967296->zCX r l<4294967296
 | [],_,h=>h
 | x :: l,r,h=>zHE l _ (zHD r x.toNat h x.toNat_lt)
theorem zN9(l:List UInt8):zEx l<4294967296:=tL (n:=32) (by decide) (zHE l _ (by decide))
structure yN where
 kind:Int
 id:Int
 gen:Nat
 body:List UInt8
def zDz(k:Int):Bool:=decide (k=1) || decide (k=2) || decide (k=3) || decide (k=4) || decide (k=5)
def zBC(s:Int):Bool:=decide (256<=s) && decide (s<=1024)
def vE(p:yN)(size:Int):Option (List Int × Nat) :=
 if zBC size=false then some ([-1],2)
 else if zDz p.kind=false\/p.id<0\/256<=p.id\/size-24<(p.body.length:Int) then some ([-1],1) else none
def zEy(p:yN)(size:Nat):List UInt8 :=
 yI 1 p.kind.toNat++yI 1 0++yI 2 p.body.length++yI 4 p.id.toNat++yI 8 p.gen++yI 4 0++p.body++List.replicate (size-4-(20+p.body.length)) 0
def zBP(p:yN)(size:Nat):List UInt8:=zEy p size++yI 4 (zEx (zEy p size))
theorem zGa(p:yN)(size:Nat)(h:p.body.length+24<=size):(zEy p size).length=size-4:=by
 simp only[zEy,uC,zO,pB];omega
theorem zA3(p:yN)(size:Nat)(h:p.body.length+24<=size):(zBP p size).length=size:=by
 rw[zBP,uC,zGa p size h,zO];omega
theorem jA{p:yN}{size:Int}(h:vE p size=none):256<=size/\size<=1024/\zDz p.kind=true/\0<=p.id/\p.id<256/\(p.body.length:Int)+24<=size:=by
 unfold vE at h;split at h
 .cases h
 .rename_i h1;split at h
  .cases h
  .rename_i h2;simp only[not_or,pV,Int.not_lt,Int.not_le] at h1 h2;simp only[zBC,uK,uQ] at h1;exact⟨h1.1,h1.2,h2.1,h2.2.1,h2.2.2.1,by omega⟩
theorem zGb{k:Int}(h:zDz k=true):1<=k/\k<=5:=by
 simp only[zDz,rR,uQ] at h;omega
def zBQ(l:List UInt8)(i W:Nat):Nat:=zDy ((l.drop i).take W)
def zBF(l:List UInt8):yN :=
  { kind:=(zBQ l 0 1:Nat),id:=(zBQ l 4 4:Nat),gen:=zBQ l 8 8,
    body:=if zBQ l 2 2<=l.length-24 then (l.drop 20).take (zBQ l 2 2) else [] }
theorem zDB(l:List UInt8)(i W:Nat):zBQ l i W<256 ^ W :=
 uH (zEU _) (tT (by decide) (by simp;omega))
def zDC(l:List UInt8):Bool:=decide (vE (zBF l) (l.length:Int)=none) && decide (zBP (zBF l) l.length=l)
def zEz(l:List UInt8):Int:=if 256<=(zBF l).id then -1 else (zBF l).id
def jB(l:List UInt8)(id:Int):yN ⊕ (List Int × Nat) :=
 if zDC l=false then .inr ([-1,zEz l],5) else if (zBF l).id≠id then .inr ([if id < -1 then -1 else id],5) else .inl (zBF l)
theorem zF5(l:List UInt8):(zBF l).gen<18446744073709551616:=zDB l 8 8
theorem zPS(l:List UInt8):0<=(zBF l).id/\(zBF l).id<4294967296:=by
 have:=zDB l 4 4;have h:(zBF l).id=(zBQ l 4 4:Nat):=rfl;constructor
 .omega
 .rw[h];have:zBQ l 4 4<4294967296:=this;omega
structure yL where
 blocks:Nat
 size:Nat
 lasting:List (List UInt8)
 waiting:List (Nat × List UInt8)
 lit:Bool
 after:Int
 torn:Int
 cut:Int
 keep:List Bool
 off:Bool
 count:Int
def zB7(i:Nat):List (Nat × List UInt8)->Option (List UInt8)
 | []=>none
 | (j,b) :: l=>match zB7 i l with
  | some c=>some c
  | none=>if j=i then some b else none
def yL.look(D:yL)(i:Nat):List UInt8:=(zB7 i D.waiting).getD (D.lasting.getD i [])
def yL.check(D:yL)(i:Int):Option (List Int × Nat):=if i<0\/(D.blocks:Int)<=i then some ([if i < -1 then -1 else i],2) else none
def yL.on(D:yL)(i:Int):Option (List Int × Nat) :=
 match D.check i with
 | some e=>some e
 | none=>if D.off then some ([if i < -1 then -1 else i],7) else none
def settle:List (List UInt8)->List (Nat × List UInt8)->List (List UInt8)
 | l,[]=>l
 | l,(i,b) :: r=>settle (l.set i b) r
def zNP(keep:List Bool)(torn cut:Int):Nat->List (List UInt8)->List (Nat × List UInt8)->List (List UInt8)
 | _,l,[]=>l
 | k,l,(i,b) :: r =>
  let old:=l.getD i []
  let c:=(max 0 (min cut (b.length:Int))).toNat
  zNP keep torn cut (k+1) (if (k:Int)=torn then l.set i (b.take c++old.drop c) else if keep.getD k false then l.set i (b++old.drop b.length) else l) r
def yL.crash(D:yL)(keep:List Bool)(torn cut:Int):yL:={ D with lasting:=zNP keep torn cut 0 D.lasting D.waiting,waiting:=[] }
def yL.burns(D:yL):Bool × yL :=
 if D.lit && decide (D.after=0) then
  (true,{ D with lit:=false,after:=0,torn:=0,cut:=0,keep:=[],off:=true }.crash D.keep D.torn D.cut)
 else (false,{ D with after:=RowKit.wrap64 (D.after-1),count:=RowKit.wrap64 (D.count+1) })
def jH(blocks size:Nat):yL :=
  { blocks:=blocks,size:=size,lasting:=List.replicate blocks (List.replicate size 0),waiting:=[],lit:=false,after:=0,torn:=0,cut:=0,keep:=[],off:=false,count:=0 }
theorem zFW(i:Nat)(l r:List (Nat × List UInt8)):zB7 i (l++r)=(zB7 i r).or (zB7 i l):=by
 induction l with
 | nil=>simp[zB7]
 | cons x l ih =>
  obtain⟨j,b⟩:=x;rw[wN,zB7,ih,zB7];cases zB7 i r <;> cases zB7 i l <;> rfl
theorem zE0(i:Nat):∀(l:List (Nat × List UInt8)),(∀p∈l,p.1≠i)->zB7 i l=none
 | [],_=>rfl
 | (j,b) :: l,h=>by
  rw[zB7,zE0 i l (λp hp=>h p (uI _ hp)),if_neg (h (j,b) uF)]
theorem zPT(i:Nat)(l:List (Nat × List UInt8))(k:Nat)(b:List UInt8)(hk:l[k]? = some (i,b))(h:∀j p,k<j->l[j]? = some p->p.1≠i):zB7 i l=some b:=by
 obtain⟨hlt,he⟩:=uB.1 hk;have h1:l=l.take k++(i,b) :: l.drop (k+1):=by
  rw[<- he,<- wO hlt,uZ]
 have h2:zB7 i (l.drop (k+1))=none:=zE0 i _ (λp hp=>by
  obtain⟨j,hj,he2⟩:=wQ hp;rw[List.getElem_drop] at he2;have hj2:k+1+j<l.length:=by simp at hj;omega
  exact h (k+1+j) p (by omega) (by rw[uA hj2,he2]))
 rw[h1,zFW,zB7,h2,if_pos rfl];rfl
theorem zEW(A B:List UInt8)(W n:Nat)(i:Nat)(hi:A.length=i)(hn:n<256 ^ W):zBQ (A++(yI W n++B)) i W=n:=by
 unfold zBQ;rw[List.drop_append_of_le_length (by omega),rB (by omega),uT,rL (by rw[zO];omega),wE (by rw[zO];omega),zFV];exact Nat.mod_eq_of_lt hn
def zHF(k n i g:Nat)(b R:List UInt8):List UInt8:=yI 1 k++(yI 1 0++(yI 2 n++(yI 4 i++(yI 8 g++(yI 4 0++(b++R))))))
theorem zRL(k n i g:Nat)(b R:List UInt8)(h:k<256):zBQ (zHF k n i g b R) 0 1=k:=zEW [] _ 1 k 0 rfl (by simpa using h)
theorem zRM(k n i g:Nat)(b R:List UInt8)(h:n<65536):zBQ (zHF k n i g b R) 2 2=n:=by
 unfold zHF;have:yI 1 k++(yI 1 0++(yI 2 n++(yI 4 i++(yI 8 g++(yI 4 0++(b++R))))))=(yI 1 k++yI 1 0)++(yI 2 n++(yI 4 i++(yI 8 g++(yI 4 0++(b++R))))):=by simp only[uS]
 rw[this];exact zEW _ _ 2 n 2 (by simp[zO]) (by simpa using h)
theorem zRN(k n i g:Nat)(b R:List UInt8)(h:i<4294967296):zBQ (zHF k n i g b R) 4 4=i:=by
 unfold zHF;have:yI 1 k++(yI 1 0++(yI 2 n++(yI 4 i++(yI 8 g++(yI 4 0++(b++R))))))=(yI 1 k++yI 1 0++yI 2 n)++(yI 4 i++(yI 8 g++(yI 4 0++(b++R)))):=by simp only[uS]
 rw[this];exact zEW _ _ 4 i 4 (by simp[zO]) (by simpa using h)
theorem zRO(k n i g:Nat)(b R:List UInt8)(h:g<256 ^ 8):zBQ (zHF k n i g b R) 8 8=g:=by
 unfold zHF;have:yI 1 k++(yI 1 0++(yI 2 n++(yI 4 i++(yI 8 g++(yI 4 0++(b++R))))))=(yI 1 k++yI 1 0++yI 2 n++yI 4 i)++(yI 8 g++(yI 4 0++(b++R))):=by simp only[uS]
 rw[this];exact zEW _ _ 8 g 8 (by simp[zO]) h
theorem zRP(k n i g:Nat)(b R:List UInt8):((zHF k n i g b R).drop 20).take b.length=b:=by
 unfold zHF;have:yI 1 k++(yI 1 0++(yI 2 n++(yI 4 i++(yI 8 g++(yI 4 0++(b++R))))))=(yI 1 k++yI 1 0++yI 2 n++yI 4 i++yI 8 g++yI 4 0)++(b++R):=by simp only[uS]
 rw[this,List.drop_append_of_le_length (by simp[zO]),rB (by simp[zO]),uT,rL (uJ _),wE (uJ _)]
theorem zOA(p:yN)(size:Nat):∃R,zBP p size=zHF p.kind.toNat p.body.length p.id.toNat p.gen p.body R:=by
 refine⟨List.replicate (size-4-(20+p.body.length)) 0++yI 4 (zEx (zEy p size)),?_⟩;unfold zBP;generalize yI 4 (zEx (zEy p size))=C
 unfold zEy zHF;simp only[uS]
theorem zHG{p:yN}{size:Nat}(hc:vE p size=none)(hg:p.gen<18446744073709551616):zBF (zBP p size)=p:=by
 obtain⟨h1,h2,h3,h4,h5,h6⟩:=jA hc;have hk:=zGb h3;have hlen:=zA3 p size (by omega);obtain⟨R,hR⟩:=zOA p size;unfold zBF;rw[hlen,hR,zRL _ _ _ _ _ _ (by omega),zRM _ _ _ _ _ _ (by omega),zRN _ _ _ _ _ _ (by omega),zRO _ _ _ _ _ _ (by exact hg),zRP,if_pos (by omega)];obtain⟨pk,pi,pg,pb⟩:=p;simp only[yN.mk.injEq,and_true] at *;exact⟨by omega,by omega⟩
theorem zOB{p:yN}{size:Nat}(hc:vE p size=none)(hg:p.gen<18446744073709551616):zDC (zBP p size)=true:=by
 have hlen:=zA3 p size (by have:=jA hc;omega);unfold zDC;rw[zHG hc hg,hlen,hc];simp
theorem zKK{p:yN}{size:Nat}(hc:vE p size=none)(hg:p.gen<18446744073709551616):jB (zBP p size) p.id=.inl p:=by
 unfold jB;rw[zOB hc hg,zHG hc hg];simp
theorem zPU(a b:Nat):(a ^^^ b) / 2=(a / 2) ^^^ (b / 2):=by
 apply Nat.eq_of_testBit_eq;intro i
 simp[Nat.testBit_xor,Nat.testBit_div_two]
theorem zPV(a b:Nat):(a ^^^ b) % 2=(a+b) % 2:=by
 have h:=Nat.testBit_xor a b 0;simp only[Nat.testBit_zero] at h;have h1:=rC a;have h2:=rC b;have h3:=rC (a ^^^ b);rcases h1 with h1|h1 <;> rcases h2 with h2|h2 <;> rcases h3 with h3|h3 <;> rw[h1,h2,h3] at h <;> first|omega|(simp at h;done)|(exfalso;revert h;decide)
theorem zKL(a b:Nat):jR (a ^^^ b)=jR a ^^^ jR b:=by
 unfold jR;rw[zPV,zPU];have ha:=rC a;have hb:=rC b;rcases ha with ha|ha <;> rcases hb with hb|hb
 .rw[if_neg (by omega),if_neg (by omega),if_neg (by omega)]
 .rw[if_pos (by omega),if_neg (by omega),if_pos (by omega),rK]
 .rw[if_pos (by omega),if_pos (by omega),if_neg (by omega),rK,rK,Nat.xor_comm (b / 2)]
 .rw[if_neg (by omega),if_pos (by omega),if_pos (by omega)];rw[rK,<- rK 3988292384,Nat.xor_comm 3988292384,rK,Nat.xor_self,Nat.xor_zero]
theorem zKM(v:Nat):jR (2 * v)=v:=by unfold jR;rw[if_neg (by omega)];omega
theorem zGc(a b:Nat)(ha:a<4294967296)(hb:b<4294967296)(h:jR a=jR b):a=b:=by
 unfold jR at h;have ha2:a / 2<2147483648:=by omega
 have hb2:b / 2<2147483648:=by omega
 have big:∀x y,x<2147483648->y<2147483648->x ^^^ 3988292384=y->False:=by
  intro x y hx hy e;have e2:x ^^^ y=3988292384:=by rw[<- e,<- rK,Nat.xor_self,Nat.zero_xor]
  have:=tL (n:=31) hx hy;omega
 split at h <;> split at h
 .have:a / 2=b / 2:=by
   have e:=congrArg (· ^^^ 3988292384) h;simpa[rK,Nat.xor_self] using e
  omega
 .exact (big _ _ ha2 hb2 h).elim
 .exact (big _ _ hb2 ha2 h.symm).elim
 .omega
def zB3(r:Nat)(b:Bool):Nat:=jR (r ^^^ b.toNat)
def val:List Bool->Nat
 | []=>0
 | b :: l=>b.toNat+2 * val l
theorem zQh(b:Bool)(v:Nat):b.toNat+2 * v=b.toNat ^^^ (2 * v):=by
 apply Nat.eq_of_testBit_eq;intro i
 cases i with
 | zero=>cases b <;> simp[Nat.testBit_zero] <;> omega
 | succ i =>
  rw[Nat.testBit_xor];simp only[Nat.testBit_succ];cases b <;> simp <;> congr 1 <;> omega
theorem zHH:∀(l:List Bool) (s:Nat),l.foldl zB3 s=zCW l.length (s ^^^ val l)
 | [],s=>by simp[zCW,val]
 | b :: l,s=>by
  rw[List.foldl_cons,zHH l,uD,zCW,val,zQh,<- rK,zKL,zKM];rfl
theorem zL7:∀l:List Bool,val l<2 ^ l.length
 | []=>by simp[val]
 | b :: l=>by have:=zL7 l;rw[val,uD,pU];cases b <;> simp <;> omega
theorem zNQ:∀(l m:List Bool),l.length=m.length->val l=val m->l=m
 | [],[],_,_=>rfl
 | [],_ :: _,h,_=>by simp at h
 | _ :: _,[],h,_=>by simp at h
 | b :: l,c :: m,h,hv=>by
  simp only[val] at hv;have hb:b=c:=by cases b <;> cases c <;> simp at hv <;> first|rfl|omega
  subst hb;rw[zNQ l m (by simpa using h) (by omega)]
theorem zGd:∀k a b,a<4294967296->b<4294967296->zCW k a=zCW k b->a=b
 | 0,_,_,_,_,h=>h
 | k+1,a,b,ha,hb,h=>zGc a b ha hb (zGd k _ _ (zCh a ha) (zCh b hb) h)
theorem zL8(b:Bool):b.toNat<4294967296:=by cases b <;> decide
theorem zE1(s:Nat)(b:Bool)(h:s<4294967296):zB3 s b<4294967296:=zCh _ (tL (n:=32) h (zL8 b))
theorem zG5:∀(l:List Bool) (s:Nat),s<4294967296->l.foldl zB3 s<4294967296
 | [],_,h=>h
 | b :: l,s,h=>zG5 l _ (zE1 s b h)
theorem zHI(a b c:Nat)(h:a ^^^ b=a ^^^ c):b=c:=by
 have e:=congrArg (a ^^^ ·) h;simpa[<- rK,Nat.xor_self] using e
theorem zKN(a b:Nat)(x:Bool)(ha:a<4294967296)(hb:b<4294967296)(h:zB3 a x=zB3 b x):a=b:=by
 have:=zGc _ _ (tL (n:=32) ha (zL8 x)) (tL (n:=32) hb (zL8 x)) h;rw[Nat.xor_comm a,Nat.xor_comm b] at this;exact zHI _ _ _ this
theorem zKO:∀(l:List Bool) (a b:Nat),a<4294967296->b<4294967296->l.foldl zB3 a=l.foldl zB3 b->a=b
 | [],_,_,_,_,h=>h
 | x :: l,a,b,ha,hb,h=>zKN a b x ha hb (zKO l _ _ (zE1 a x ha) (zE1 b x hb) h)
theorem zSQ(p x y q:List Bool)(s:Nat)(hs:s<4294967296)(hl:x.length=y.length)(h32:x.length<=32)(h:(p++x++q).foldl zB3 s=(p++y++q).foldl zB3 s):x=y:=by
 simp only[List.foldl_append] at h;have h0:=zG5 p s hs;have h1:=zKO q _ _ (zG5 x _ h0) (zG5 y _ h0) h;generalize p.foldl zB3 s=s0 at h0 h1
 rw[zHH,zHH,hl] at h1;have hp:(2:Nat) ^ y.length<=2 ^ 32:=tT (by omega) (by omega);have hvx:=zL7 x;have hvy:=zL7 y;rw[hl] at hvx;have h2:=zGd _ _ _ (tL (n:=32) h0 (by omega)) (tL (n:=32) h0 (by omega)) h1;exact zNQ _ _ hl (zHI _ _ _ h2)
end
end Go.Proofs.YtchklfmggpconaaGreatDoor
