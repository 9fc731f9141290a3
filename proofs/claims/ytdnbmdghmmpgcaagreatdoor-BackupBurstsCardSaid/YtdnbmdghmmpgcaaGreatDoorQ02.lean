import Derived.Test.YtdnbmdghmmpgcaaGreatDoorQ00
import Derived.WalkKit
import Derived.WalkSpells
import Derived.WalkLawsBesides
import Derived.Handy
import Derived.RowKit
namespace Go.Proofs.YtdnbmdghmmpgcaaGreatDoor
section
inductive gT|mk(c s g:Nat)
inductive gV|mk
inductive gW|mk
abbrev gP:=gT.mk
abbrev gB:=gV.mk
abbrev gE:=gW.mk
variable{c s g:Nat}
instance:CoeDep gT (.mk c s g) (Array Value):=⟨#[.pointer (some ⟨c,0,none⟩),.pointer (some ⟨s,0,none⟩),.int .u64 (g:Int)]⟩
instance:CoeDep gT (.mk c s g) Obj:=⟨.cells #[.pointer (some ⟨c,0,none⟩),.pointer (some ⟨s,0,none⟩),.int .u64 (g:Int)] 142⟩
instance:CoeDep gV .mk (Array Value):=⟨#[.bool false,.slice none 0 0,.slice none 0 0,.slice none 0 0]⟩
instance:CoeDep gV .mk Obj:=⟨.cells #[.bool false,.slice none 0 0,.slice none 0 0,.slice none 0 0] 272⟩
instance:CoeDep gW .mk (Array Value):=⟨#[.int .i64 0,.int .i64 0,.int .u64 0,.slice none 0 0]⟩
instance:CoeDep gW .mk Obj:=⟨.cells #[.int .i64 0,.int .i64 0,.int .u64 0,.slice none 0 0] 304⟩
end
section
open Go.RowKit
theorem zJ9{k:IntKind}{a b:Int}(h:a=b):Ending.returned (.int k a)=.returned (.int k b):=by rw[h]
theorem zY{a b:Bool}(h:a=b):Ending.returned (.bool a)=.returned (.bool b):=by rw[h]
theorem zFw{k:IntKind}{a b:Int}(h:a=b):Value.int k a=.int k b:=by rw[h]
theorem yE{w:World}{b o:Nat}{v:Value}(h:w.cell? ⟨b,o,none⟩=some v):b<w.heap.size:=World.block_lt_of_cell? w ⟨b,o,none⟩ h
theorem zM{w:World}{b o:Nat}{v:Value}(h:w.cell? ⟨b,o,none⟩=some v)(x:Obj):(w.alloc x).cell? ⟨b,o,none⟩=some v :=
 (World.cell?_of_block (w:=w) (Below.heap_alloc w x b (yE h))).trans h
theorem qR{w:World}{b:Nat}{c:Array Value}{t:TypeId}{fz:Nat × Nat}(h:w.heap[b]? = some (.cells c t fz))(o:Nat):w.cell? ⟨b,o,none⟩=c[o]?:=by
 simp[World.cell?,h]
theorem zO{w:World}{o:Obj}{b:Nat}(h:b=w.heap.size):(w.alloc o).heap[b]? = some o:=by subst h;exact heap_alloc_new w o
structure zA(F:Nat->Prop)(w w':World):Prop where
 os:w'.os=w.os
 tape:w'.tape=w.tape
 output:w'.output=w.output
 size:w.heap.size<=w'.heap.size
 block:∀k,k<w.heap.size->¬ F k->w'.heap[k]? = w.heap[k]?
abbrev zG(w w':World):Prop:=zA (λ_=>False) w w'
section
variable {F G:Nat->Prop}{w w1 w2 w':World}
theorem zA.refl(F:Nat->Prop)(w:World):zA F w w:=⟨rfl,rfl,rfl,uK _,λ_ _ _=>rfl⟩
theorem zA.trans(h:zA F w w1)(k:zA F w1 w2):zA F w w2 :=
 ⟨k.os.trans h.os,k.tape.trans h.tape,k.output.trans h.output,uY h.size k.size,λi hi hn=>(k.block i (uI hi h.size) hn).trans (h.block i hi hn)⟩
theorem zA.trans'(h:zA F w w1)(k:zA G w1 w2)(hG:∀i,i<w.heap.size->G i->F i):zA F w w2 :=
 ⟨k.os.trans h.os,k.tape.trans h.tape,k.output.trans h.output,uY h.size k.size,λi hi hn=>(k.block i (uI hi h.size) (λg=>hn (hG i hi g))).trans (h.block i hi hn)⟩
theorem zA.mono(h:zA F w w')(hG:∀i,F i->G i):zA G w w':=⟨h.os,h.tape,h.output,h.size,λi hi hn=>h.block i hi (λf=>hn (hG i f))⟩
theorem zA.drew(h:zA F w w1):zA F w w1.drew:=⟨h.os,h.tape,h.output,h.size,h.block⟩
theorem zA.drewN(h:zA F w w1)(n:Nat):zA F w (w1.drewN n):=⟨h.os,h.tape,h.output,h.size,h.block⟩
theorem zA.alloc(h:zA F w w1)(o:Obj):zA F w (w1.alloc o) :=
 ⟨h.os,h.tape,h.output,uY h.size (by simp),λi hi hn=>(Below.heap_alloc _ _ _ (uI hi h.size)).trans (h.block i hi hn)⟩
theorem zA.setCell(h:zA F w w1){p:Addr}(hp:w.heap.size<=p.block\/F p.block)(u:Value):zA F w (w1.setCell p u) :=
 ⟨h.os,h.tape,h.output,uY h.size (by simp[World.setCell]),λi hi hn=>(Below.heap_setCell _ _ _ _ (by rintro rfl;rcases hp with hp|hp;omega;exact hn hp)).trans (h.block i hi hn)⟩
theorem zA.grown{row:Option Nat}(h:zA F w w1)(hg:w1.grownBy w2 row)(hr:∀k,row=some k->w.heap.size<=k\/F k):zA F w w2 :=
 ⟨hg.os.trans h.os,hg.tape.trans h.tape,hg.output.trans h.output,uY h.size hg.size,
  λi hi hn=>(hg.block i (uI hi h.size) (λe=>by rcases hr i e.symm with h|h;omega;exact hn h)).trans (h.block i hi hn)⟩
theorem zA.below(h:zG w w'):Below w.heap.size w w':=⟨h.os,h.tape,h.output,h.size,λi hi=>h.block i hi (λf=>f)⟩
theorem zA.ext(h:zG w w'):zA F w w':=h.mono (λ_ f=>f.elim)
theorem zA.cell(h:zA F w w'){b o:Nat}(hb:b<w.heap.size)(hF:¬ F b):w'.cell? ⟨b,o,none⟩=w.cell? ⟨b,o,none⟩:=World.cell?_of_block (w:=w) (h.block b hb hF)
theorem zA.frozen(h:zA F w w'){b o:Nat}(hb:b<w.heap.size)(hF:¬ F b):w'.frozen? ⟨b,o,none⟩=w.frozen? ⟨b,o,none⟩:=World.frozen?_of_block (w:=w) (h.block b hb hF)
end
def Sl{α:Type}(F:Nat->Prop)(w:World)(sz:Nat)(enc:α->List Value)(v:Value)(l:List α):Prop :=
 ∃a cap,v=.slice a l.length cap/\l.length<=cap/\cap<=maxLen/\l.length<=140737488355328 /\
  (l=[]\/∃b off,a=some ⟨b,off,none⟩/\b<w.heap.size/\¬ F b/\∀i x,l[i]? = some x->∀j u,(enc x)[j]? = some u->w.cell? ⟨b,off+i * sz+j,none⟩=some u)
section
variable {α:Type}{F G:Nat->Prop}{w w':World}{sz:Nat}{enc:α->List Value}{v:Value}{l:List α}
theorem Sl.mods(h:Sl F w sz enc v l)(m:zA F w w'):Sl F w' sz enc v l:=by
 obtain⟨a,cap,rfl,h1,h2,h3,h4⟩:=h;refine⟨a,cap,rfl,h1,h2,h3,?_⟩;rcases h4 with h4|⟨b,off,rfl,hb,hF,hc⟩
 .exact .inl h4
 .exact .inr ⟨b,off,rfl,uI hb m.size,hF,λi x hi j u hu=>(m.cell hb hF).trans (hc i x hi j u hu)⟩
theorem Sl.step(h:Sl F w sz enc v l)(m:zA F w w')(hG:∀k,k<w.heap.size->¬ F k->¬ G k):Sl G w' sz enc v l:=by
 obtain⟨a,cap,rfl,h1,h2,h3,h4⟩:=h;refine⟨a,cap,rfl,h1,h2,h3,?_⟩;rcases h4 with h4|⟨b,off,rfl,hb,hF,hc⟩
 .exact .inl h4
 .exact .inr ⟨b,off,rfl,uI hb m.size,hG b hb hF,λi x hi j u hu=>(m.cell hb hF).trans (hc i x hi j u hu)⟩
theorem Sl.anti(h:Sl F w sz enc v l)(hG:∀k,k<w.heap.size->G k->F k):Sl G w sz enc v l :=
 h.step (zA.refl _ _) (λk hk hF hg=>hF (hG k hk hg))
theorem Sl.at{a:Option Addr}(h:l=[]\/∃b off,a=some ⟨b,off,none⟩/\b<w.heap.size/\¬ F b/\∀i x,l[i]? = some x->∀j u,(enc x)[j]? = some u->w.cell? ⟨b,off+i * sz+j,none⟩=some u)
  (m:zA G w w') (hG:∀k,k<w.heap.size->G k->F k) (k:Nat) (hk:k<l.length) :
  ∃b off,a=some ⟨b,off,none⟩/\b<w.heap.size/\¬ F b/\∀j u,(enc l[k])[j]? = some u->w'.cell? ⟨b,off+k * sz+j,none⟩=some u:=by
 rcases h with h|⟨b,off,ha,hb,hF,hc⟩
 .rw[h] at hk;simp at hk
 .exact⟨b,off,ha,hb,hF,λj u hu=>(m.cell hb (λg=>hF (hG b hb g))).trans (hc k l[k] (by simp[hk]) j u hu)⟩
theorem Sl.atE{a:Option Addr}(h:l=[]\/∃b off,a=some ⟨b,off,none⟩/\b<w.heap.size/\¬ F b/\∀i x,l[i]? = some x->∀j u,(enc x)[j]? = some u->w.cell? ⟨b,off+i * sz+j,none⟩=some u)
  (m:zG w w') (k:Nat) (hk:k<l.length) :
  ∃b off,a=some ⟨b,off,none⟩/\b<w.heap.size/\¬ F b/\∀j u,(enc l[k])[j]? = some u->w'.cell? ⟨b,off+k * sz+j,none⟩=some u :=
 Sl.at h m (λ_ _ f=>f.elim) k hk
theorem Sl.one{x:α}{b:Nat}{t:TypeId}{fz:Nat × Nat}(h:w.heap[b]? = some (.cells (enc x).toArray t fz))(hF:¬ F b):Sl F w sz enc (.slice (some ⟨b,0,none⟩) 1 1) [x]:=by
 refine⟨_,1,rfl,uK _,by simp[maxLen],by simp,.inr ⟨b,0,rfl,(tF.1 h).1,hF,λi y hi j u hu=>?_⟩⟩;match i,hi with
 | 0,hi =>
  simp at hi;subst hi;rw[qR h];simpa using hu
theorem Sl.nil(F:Nat->Prop)(w:World)(sz:Nat)(enc:α->List Value):Sl F w sz enc (.slice none 0 0) []:=⟨none,0,rfl,uK _,by simp[maxLen],by simp,.inl rfl⟩
end
structure zQ where
 key:ByteArray
 value:ByteArray
 chain:Int
 size:Int
structure zI where
 leaf:Bool
 entries:List zQ
 keys:List ByteArray
 kids:List Int
def jX(e:zQ):List Value:=[.string e.key,.string e.value,.int .i64 e.chain,.int .i64 e.size]
def yS(p:ByteArray × ByteArray):List Value:=[.string p.1,.string p.2]
def jD(s:ByteArray):List Value:=[.string s]
def yP(n:Int):List Value:=[.int .i64 n]
def zT(b:UInt8):List Value:=[.int .u8 (b.toNat:Int)]
def qS(s:ByteArray):Bool:=decide (1<=(s.size:Int)) && decide ((s.size:Int)<=32)
theorem vW(s:ByteArray):qS s=true ↔ 1<=s.size/\s.size<=32:=by simp[qS];omega
def leS(a b:ByteArray):Bool:=Op.bytesLess a.toList b.toList || a.toList == b.toList
def yX(a b:ByteArray):Bool:=Op.bytesLess a.toList b.toList
def zAc(e:zQ):Int:=2+e.key.size+(if e.chain=0 then 1+(e.value.size:Int) else 8)
def yM:List zQ->Int
 | []=>0
 | e :: r=>zAc e+yM r
def yO:List ByteArray->Int
 | []=>0
 | k :: r=>(5+(k.size:Int))+yO r
def zH(n:zI):Int:=2+(if n.leaf then 0 else 4)+yM n.entries+yO n.keys
theorem zBo(e:zQ):2<=zAc e:=by unfold zAc;split <;> omega
theorem zAk(l:List zQ):0<=yM l:=by
 induction l with
 | nil=>simp[yM]
 | cons e r ih=>have:=zBo e;simp only[yM];omega
theorem zAl(l:List ByteArray):0<=yO l:=by
 induction l with
 | nil=>simp[yO]
 | cons e r ih=>simp only[yO];omega
theorem jV(l r:List zQ):yM (l++r)=yM l+yM r:=by
 induction l with
 | nil=>simp[yM]
 | cons e l ih=>simp only[wW,yM,ih];omega
theorem jG(l r:List ByteArray):yO (l++r)=yO l+yO r:=by
 induction l with
 | nil=>simp[yO]
 | cons e l ih=>simp only[wW,yO,ih];omega
theorem vX{α:Type}(l:List α)(k:Nat)(x:α)(h:l[k]? = some x):l.take (k+1)=l.take k++[x]:=by
 rw[List.take_add_one,h];rfl
theorem zCg(l:List zQ)(k:Nat):yM (l.take k)<=yM l:=by
 have:=jV (l.take k) (l.drop k);rw[uV] at this;have:=zAk (l.drop k);omega
theorem zCh(l:List ByteArray)(k:Nat):yO (l.take k)<=yO l:=by
 have:=jG (l.take k) (l.drop k);rw[uV] at this;have:=zAl (l.drop k);omega
end
section
def zU:Nat->Nat->List UInt8
 | 0,_=>[]
 | W+1,n=>UInt8.ofNat n :: zU W (n / 256)
def zDK:List UInt8->Nat
 | []=>0
 | x :: l=>x.toNat+256 * zDK l
theorem zC:∀W n,(zU W n).length=W
 | 0,_=>rfl
 | W+1,n=>by simp[zU,zC W]
theorem zFx:∀W n,zDK (zU W n)=n % 256 ^ W
 | 0,n=>by simp[zU,zDK,Nat.mod_one]
 | W+1,n=>by
  rw[zU,zDK,zFx W];rw[pI,nX (256 ^ W) 256,Nat.mod_mul];simp
theorem zE0:∀l,zDK l<256 ^ l.length
 | []=>by simp[zDK]
 | x :: l=>by
  have:=zE0 l;have hx:=x.toNat_lt;rw[zDK,uD,pI];omega
theorem zKy:∀l,zU l.length (zDK l)=l
 | []=>rfl
 | x :: l=>by
  have hx:=x.toNat_lt;rw[uD,zU,zDK];have h1:(x.toNat+256 * zDK l) / 256=zDK l:=by omega
  rw[h1,zKy l];congr 1
  apply UInt8.toNat_inj.1
  simp
theorem zHg(l:List UInt8)(q m W:Nat)(x:UInt8)(hm:m<W)(hx:l[q+m]? = some x) :
  zDK ((l.drop (q+m)).take (W-m))=zDK ((l.drop (q+(m+1))).take (W-(m+1))) * 256+x.toNat:=by
 obtain⟨hlt,he⟩:=uC.1 hx;rw[wM hlt,he,show W-m=(W-(m+1))+1 by omega,nS,zDK];rw[show q+m+1=q+(m+1) by omega];omega
theorem zKA(l:List UInt8)(q m W:Nat):zDK ((l.drop (q+m)).take (W-m))<256 ^ (W-m) :=
 uI (zE0 _) (tH (by decide) (by simp;omega))
def jR(r:Nat):Nat:=if r % 2=1 then (r / 2) ^^^ 3988292384 else r / 2
def jS:Nat->Nat->Nat
 | 0,r=>r
 | k+1,r=>jS k (jR r)
def zCL(n:Nat):Nat:=jS 8 n
def zC5(r x:Nat):Nat:=(r / 256) ^^^ zCL ((r % 256) ^^^ x)
def zBO(r:Nat):List UInt8->Nat
 | []=>r
 | x :: l=>zBO (zC5 r x.toNat) l
def yC(l:List UInt8):Nat:=4294967295 ^^^ zBO 4294967295 l
theorem zCq(r:Nat)(h:r<4294967296):jR r<4294967296:=by
 unfold jR;split
 .exact wQ (n:=32) (by omega) (by decide)
 .omega
theorem zHh:∀k r,r<4294967296->jS k r<4294967296
 | 0,_,h=>h
 | k+1,r,h=>zHh k _ (zCq r h)
theorem zGx(n:Nat)(h:n<256):zCL n<4294967296:=zHh 8 n (by omega)
theorem zHi(r x:Nat)(h:r<4294967296)(hx:x<256):zC5 r x<4294967296 :=
 wQ (n:=32) (by omega) (zGx _ (wQ (n:=8) (by omega) hx))
theorem zDj:∀(l:List UInt8) (r:Nat),r<4294967296->zBO r l<4294967296
 | [],_,h=>h
 | x :: l,r,h=>zDj l _ (zHi r x.toNat h x.toNat_lt)
theorem zA4(l:List UInt8):yC l<4294967296:=wQ (n:=32) (by decide) (zDj l _ (by decide))
structure yI where
 kind:Int
 id:Int
 gen:Nat
 body:List UInt8
def zCr(k:Int):Bool:=decide (k=1) || decide (k=2) || decide (k=3) || decide (k=4) || decide (k=5)
def zAe(s:Int):Bool:=decide (256<=s) && decide (s<=1024)
def qC(p:yI)(size:Int):Option (List Int × Nat) :=
 if zAe size=false then some ([-1],2)
 else if zCr p.kind=false\/p.id<0\/256<=p.id\/size-24<(p.body.length:Int) then some ([-1],1) else none
def zFT(p:yI)(size:Nat):List UInt8 :=
 zU 1 p.kind.toNat++zU 1 0++zU 2 p.body.length++zU 4 p.id.toNat++zU 8 p.gen++zU 4 0++p.body++List.replicate (size-4-(20+p.body.length)) 0
def zA8(p:yI)(size:Nat):List UInt8:=zFT p size++zU 4 (yC (zFT p size))
theorem zGy(p:yI)(size:Nat)(h:p.body.length+24<=size):(zFT p size).length=size-4:=by
 simp only[zFT,uA,zC,pC];omega
theorem zAM(p:yI)(size:Nat)(h:p.body.length+24<=size):(zA8 p size).length=size:=by
 rw[zA8,uA,zGy p size h,zC];omega
theorem jE{p:yI}{size:Int}(h:qC p size=none):256<=size/\size<=1024/\zCr p.kind=true/\0<=p.id/\p.id<256/\(p.body.length:Int)+24<=size:=by
 unfold qC at h;split at h
 .cases h
 .rename_i h1;split at h
  .cases h
  .rename_i h2;simp only[not_or,pU,Int.not_lt,Int.not_le] at h1 h2;simp only[zAe,uL,uQ] at h1;exact⟨h1.1,h1.2,h2.1,h2.2.1,h2.2.2.1,by omega⟩
theorem zGz{k:Int}(h:zCr k=true):1<=k/\k<=5:=by
 simp only[zCr,pA,uQ] at h;omega
def zZ(l:List UInt8)(i W:Nat):Nat:=zDK ((l.drop i).take W)
def zBa(l:List UInt8):yI :=
  { kind:=(zZ l 0 1:Nat),id:=(zZ l 4 4:Nat),gen:=zZ l 8 8,
    body:=if zZ l 2 2<=l.length-24 then (l.drop 20).take (zZ l 2 2) else [] }
theorem jH(l:List UInt8)(i W:Nat):zZ l i W<256 ^ W :=
 uI (zE0 _) (tH (by decide) (by simp;omega))
def zDV(l:List UInt8):Bool:=decide (qC (zBa l) (l.length:Int)=none) && decide (zA8 (zBa l) l.length=l)
def zFU(l:List UInt8):Int:=if 256<=(zBa l).id then -1 else (zBa l).id
def yV(l:List UInt8)(id:Int):yI ⊕ (List Int × Nat) :=
 if zDV l=false then .inr ([-1,zFU l],5) else if (zBa l).id≠id then .inr ([if id < -1 then -1 else id],5) else .inl (zBa l)
theorem zE1(l:List UInt8):(zBa l).gen<18446744073709551616:=jH l 8 8
theorem zPp(l:List UInt8):0<=(zBa l).id/\(zBa l).id<4294967296:=by
 have:=jH l 4 4;have h:(zBa l).id=(zZ l 4 4:Nat):=rfl;constructor
 .omega
 .rw[h];have:zZ l 4 4<4294967296:=this;omega
structure zS where
 blocks:Nat
 size:Nat
 lasting:List (List UInt8)
 waiting:List (Nat × List UInt8)
 lit:Bool
 after:Int
 torn:Int
 cut:Int
 keep:List Bool
 off:Bool
 count:Int
def zBb(i:Nat):List (Nat × List UInt8)->Option (List UInt8)
 | []=>none
 | (j,b) :: l=>match zBb i l with
  | some c=>some c
  | none=>if j=i then some b else none
def zS.look(D:zS)(i:Nat):List UInt8:=(zBb i D.waiting).getD (D.lasting.getD i [])
def zS.check(D:zS)(i:Int):Option (List Int × Nat):=if i<0\/(D.blocks:Int)<=i then some ([if i < -1 then -1 else i],2) else none
def zS.on(D:zS)(i:Int):Option (List Int × Nat) :=
 match D.check i with
 | some e=>some e
 | none=>if D.off then some ([if i < -1 then -1 else i],7) else none
def settle:List (List UInt8)->List (Nat × List UInt8)->List (List UInt8)
 | l,[]=>l
 | l,(i,b) :: r=>settle (l.set i b) r
def zNs(keep:List Bool)(torn cut:Int):Nat->List (List UInt8)->List (Nat × List UInt8)->List (List UInt8)
 | _,l,[]=>l
 | k,l,(i,b) :: r =>
  let old:=l.getD i []
  let c:=(max 0 (min cut (b.length:Int))).toNat
  zNs keep torn cut (k+1) (if (k:Int)=torn then l.set i (b.take c++old.drop c) else if keep.getD k false then l.set i (b++old.drop b.length) else l) r
def zS.crash(D:zS)(keep:List Bool)(torn cut:Int):zS:={ D with lasting:=zNs keep torn cut 0 D.lasting D.waiting,waiting:=[] }
def zS.burns(D:zS):Bool × zS :=
 if D.lit && decide (D.after=0) then
  (true,{ D with lit:=false,after:=0,torn:=0,cut:=0,keep:=[],off:=true }.crash D.keep D.torn D.cut)
 else (false,{ D with after:=RowKit.wrap64 (D.after-1),count:=RowKit.wrap64 (D.count+1) })
def zBP(blocks size:Nat):zS :=
  { blocks:=blocks,size:=size,lasting:=List.replicate blocks (List.replicate size 0),waiting:=[],lit:=false,after:=0,torn:=0,cut:=0,keep:=[],off:=false,count:=0 }
theorem zFy(i:Nat)(l r:List (Nat × List UInt8)):zBb i (l++r)=(zBb i r).or (zBb i l):=by
 induction l with
 | nil=>simp[zBb]
 | cons x l ih =>
  obtain⟨j,b⟩:=x;rw[wW,zBb,ih,zBb];cases zBb i r <;> cases zBb i l <;> rfl
theorem zDk(i:Nat):∀(l:List (Nat × List UInt8)),(∀p∈l,p.1≠i)->zBb i l=none
 | [],_=>rfl
 | (j,b) :: l,h=>by
  rw[zBb,zDk i l (λp hp=>h p (uH _ hp)),if_neg (h (j,b) uG)]
theorem zPq(i:Nat)(l:List (Nat × List UInt8))(k:Nat)(b:List UInt8)(hk:l[k]? = some (i,b))(h:∀j p,k<j->l[j]? = some p->p.1≠i):zBb i l=some b:=by
 obtain⟨hlt,he⟩:=uC.1 hk;have h1:l=l.take k++(i,b) :: l.drop (k+1):=by
  rw[<- he,<- wM hlt,uV]
 have h2:zBb i (l.drop (k+1))=none:=zDk i _ (λp hp=>by
  obtain⟨j,hj,he2⟩:=wG hp;rw[List.getElem_drop] at he2;have hj2:k+1+j<l.length:=by simp at hj;omega
  exact h (k+1+j) p (by omega) (by rw[uB hj2,he2]))
 rw[h1,zFy,zBb,h2,if_pos rfl];rfl
theorem yU(A B:List UInt8)(W n:Nat)(i:Nat)(hi:A.length=i)(hn:n<256 ^ W):zZ (A++(zU W n++B)) i W=n:=by
 unfold zZ;rw[List.drop_append_of_le_length (by omega),rE (by omega),wL,rC (by rw[zC];omega),uZ (by rw[zC];omega),zFx];exact rG hn
def zHj(k n i g:Nat)(b R:List UInt8):List UInt8:=zU 1 k++(zU 1 0++(zU 2 n++(zU 4 i++(zU 8 g++(zU 4 0++(b++R))))))
theorem zSC(k n i g:Nat)(b R:List UInt8)(h:k<256):zZ (zHj k n i g b R) 0 1=k:=yU [] _ 1 k 0 rfl (by simpa using h)
theorem zSD(k n i g:Nat)(b R:List UInt8)(h:n<65536):zZ (zHj k n i g b R) 2 2=n:=by
 unfold zHj;have:zU 1 k++(zU 1 0++(zU 2 n++(zU 4 i++(zU 8 g++(zU 4 0++(b++R))))))=(zU 1 k++zU 1 0)++(zU 2 n++(zU 4 i++(zU 8 g++(zU 4 0++(b++R))))):=by simp only[uJ]
 rw[this];exact yU _ _ 2 n 2 (by simp[zC]) (by simpa using h)
theorem zSE(k n i g:Nat)(b R:List UInt8)(h:i<4294967296):zZ (zHj k n i g b R) 4 4=i:=by
 unfold zHj;have:zU 1 k++(zU 1 0++(zU 2 n++(zU 4 i++(zU 8 g++(zU 4 0++(b++R))))))=(zU 1 k++zU 1 0++zU 2 n)++(zU 4 i++(zU 8 g++(zU 4 0++(b++R)))):=by simp only[uJ]
 rw[this];exact yU _ _ 4 i 4 (by simp[zC]) (by simpa using h)
theorem zSF(k n i g:Nat)(b R:List UInt8)(h:g<256 ^ 8):zZ (zHj k n i g b R) 8 8=g:=by
 unfold zHj;have:zU 1 k++(zU 1 0++(zU 2 n++(zU 4 i++(zU 8 g++(zU 4 0++(b++R))))))=(zU 1 k++zU 1 0++zU 2 n++zU 4 i)++(zU 8 g++(zU 4 0++(b++R))):=by simp only[uJ]
 rw[this];exact yU _ _ 8 g 8 (by simp[zC]) h
theorem zSG(k n i g:Nat)(b R:List UInt8):((zHj k n i g b R).drop 20).take b.length=b:=by
 unfold zHj;have:zU 1 k++(zU 1 0++(zU 2 n++(zU 4 i++(zU 8 g++(zU 4 0++(b++R))))))=(zU 1 k++zU 1 0++zU 2 n++zU 4 i++zU 8 g++zU 4 0)++(b++R):=by simp only[uJ]
 rw[this,List.drop_append_of_le_length (by simp[zC]),rE (by simp[zC]),wL,rC (uK _),uZ (uK _)]
theorem zOT(p:yI)(size:Nat):∃R,zA8 p size=zHj p.kind.toNat p.body.length p.id.toNat p.gen p.body R:=by
 refine⟨List.replicate (size-4-(20+p.body.length)) 0++zU 4 (yC (zFT p size)),?_⟩;unfold zA8;generalize zU 4 (yC (zFT p size))=C
 unfold zFT zHj;simp only[uJ]
theorem zHk{p:yI}{size:Nat}(hc:qC p size=none)(hg:p.gen<18446744073709551616):zBa (zA8 p size)=p:=by
 obtain⟨h1,h2,h3,h4,h5,h6⟩:=jE hc;have hk:=zGz h3;have hlen:=zAM p size (by omega);obtain⟨R,hR⟩:=zOT p size;unfold zBa;rw[hlen,hR,zSC _ _ _ _ _ _ (by omega),zSD _ _ _ _ _ _ (by omega),zSE _ _ _ _ _ _ (by omega),zSF _ _ _ _ _ _ (by exact hg),zSG,if_pos (by omega)];obtain⟨pk,pi,pg,pb⟩:=p;simp only[yI.mk.injEq,and_true] at *;exact⟨by omega,by omega⟩
theorem zOU{p:yI}{size:Nat}(hc:qC p size=none)(hg:p.gen<18446744073709551616):zDV (zA8 p size)=true:=by
 have hlen:=zAM p size (by have:=jE hc;omega);unfold zDV;rw[zHk hc hg,hlen,hc];simp
theorem zEN{p:yI}{size:Nat}(hc:qC p size=none)(hg:p.gen<18446744073709551616):yV (zA8 p size) p.id=.inl p:=by
 unfold yV;rw[zOU hc hg,zHk hc hg];simp
theorem zPr(a b:Nat):(a ^^^ b) / 2=(a / 2) ^^^ (b / 2):=by
 apply Nat.eq_of_testBit_eq;intro i
 simp[Nat.testBit_div_two]
theorem zPs(a b:Nat):(a ^^^ b) % 2=(a+b) % 2:=by
 have h:=pP a b 0;simp only[Nat.testBit_zero] at h;have h1:=tK a;have h2:=tK b;have h3:=tK (a ^^^ b);rcases h1 with h1|h1 <;> rcases h2 with h2|h2 <;> rcases h3 with h3|h3 <;> rw[h1,h2,h3] at h <;> first|omega|(simp at h;done)|(exfalso;revert h;decide)
theorem zG0(a b:Nat):jR (a ^^^ b)=jR a ^^^ jR b:=by
 unfold jR;rw[zPs,zPr];have ha:=tK a;have hb:=tK b;rcases ha with ha|ha <;> rcases hb with hb|hb
 .rw[if_neg (by omega),if_neg (by omega),if_neg (by omega)]
 .rw[if_pos (by omega),if_neg (by omega),if_pos (by omega),tQ]
 .rw[if_pos (by omega),if_pos (by omega),if_neg (by omega),tQ,tQ,nY (b / 2)]
 .rw[if_neg (by omega),if_pos (by omega),if_pos (by omega)];rw[tQ,<- tQ 3988292384,nY 3988292384,tQ,nZ,Nat.xor_zero]
theorem zG1:∀k a b,jS k (a ^^^ b)=jS k a ^^^ jS k b
 | 0,_,_=>rfl
 | k+1,a,b=>by rw[jS,zG0,zG1 k];rfl
theorem zG2(v:Nat):jR (2 * v)=v:=by unfold jR;rw[if_neg (by omega)];omega
theorem zG3:∀k v,jS k (2 ^ k * v)=v
 | 0,v=>by simp[jS]
 | k+1,v=>by rw[jS,pI,nX (2 ^ k) 2,Nat.mul_assoc,zG2,zG3 k]
theorem zG4(a b:Nat)(ha:a<4294967296)(hb:b<4294967296)(h:jR a=jR b):a=b:=by
 unfold jR at h;have ha2:a / 2<2147483648:=by omega
 have hb2:b / 2<2147483648:=by omega
 have big:∀x y,x<2147483648->y<2147483648->x ^^^ 3988292384=y->False:=by
  intro x y hx hy e;have e2:x ^^^ y=3988292384:=by rw[<- e,<- tQ,nZ,Nat.zero_xor]
  have:=wQ (n:=31) hx hy;omega
 split at h <;> split at h
 .have:a / 2=b / 2:=by
   have e:=congrArg (· ^^^ 3988292384) h;simpa[tQ] using e
  omega
 .exact (big _ _ ha2 hb2 h).elim
 .exact (big _ _ hb2 ha2 h.symm).elim
 .omega
def zA9(r:Nat)(b:Bool):Nat:=jR (r ^^^ b.toNat)
def val:List Bool->Nat
 | []=>0
 | b :: l=>b.toNat+2 * val l
theorem zRO(b:Bool)(v:Nat):b.toNat+2 * v=b.toNat ^^^ (2 * v):=by
 apply Nat.eq_of_testBit_eq;intro i
 cases i with
 | zero=>cases b <;> simp[Nat.testBit_zero] <;> omega
 | succ i =>
  rw[pP];simp only[Nat.testBit_succ];cases b <;> simp <;> congr 1 <;> omega
theorem zEO:∀(l:List Bool) (s:Nat),l.foldl zA9 s=jS l.length (s ^^^ val l)
 | [],s=>by simp[jS,val]
 | b :: l,s=>by
  rw[nO,zEO l,uD,jS,val,zRO,<- tQ,zG0,zG2];rfl
theorem zMg:∀l:List Bool,val l<2 ^ l.length
 | []=>by simp[val]
 | b :: l=>by have:=zMg l;rw[val,uD,pI];cases b <;> simp <;> omega
theorem zNt:∀(l m:List Bool),l.length=m.length->val l=val m->l=m
 | [],[],_,_=>rfl
 | [],_ :: _,h,_=>by simp at h
 | _ :: _,[],h,_=>by simp at h
 | b :: l,c :: m,h,hv=>by
  simp only[val] at hv;have hb:b=c:=by cases b <;> cases c <;> simp at hv <;> first|rfl|omega
  subst hb;rw[zNt l m (by simpa using h) (by omega)]
theorem zG5:∀k a b,a<4294967296->b<4294967296->jS k a=jS k b->a=b
 | 0,_,_,_,_,h=>h
 | k+1,a,b,ha,hb,h=>zG4 a b ha hb (zG5 k _ _ (zCq a ha) (zCq b hb) h)
theorem zMh(b:Bool):b.toNat<4294967296:=by cases b <;> decide
theorem zFV(s:Nat)(b:Bool)(h:s<4294967296):zA9 s b<4294967296:=zCq _ (wQ (n:=32) h (zMh b))
theorem zHY:∀(l:List Bool) (s:Nat),s<4294967296->l.foldl zA9 s<4294967296
 | [],_,h=>h
 | b :: l,s,h=>zHY l _ (zFV s b h)
theorem zHl(a b c:Nat)(h:a ^^^ b=a ^^^ c):b=c:=by
 have e:=congrArg (a ^^^ ·) h;simpa[<- tQ] using e
theorem zKz(a b:Nat)(x:Bool)(ha:a<4294967296)(hb:b<4294967296)(h:zA9 a x=zA9 b x):a=b:=by
 have:=zG4 _ _ (wQ (n:=32) ha (zMh x)) (wQ (n:=32) hb (zMh x)) h;rw[nY a,nY b] at this;exact zHl _ _ _ this
theorem zK0:∀(l:List Bool) (a b:Nat),a<4294967296->b<4294967296->l.foldl zA9 a=l.foldl zA9 b->a=b
 | [],_,_,_,_,h=>h
 | x :: l,a,b,ha,hb,h=>zKz a b x ha hb (zK0 l _ _ (zFV a x ha) (zFV b x hb) h)
theorem zSm(p x y q:List Bool)(s:Nat)(hs:s<4294967296)(hl:x.length=y.length)(h32:x.length<=32)(h:(p++x++q).foldl zA9 s=(p++y++q).foldl zA9 s):x=y:=by
 simp only[pD] at h;have h0:=zHY p s hs;have h1:=zK0 q _ _ (zHY x _ h0) (zHY y _ h0) h;generalize p.foldl zA9 s=s0 at h0 h1
 rw[zEO,zEO,hl] at h1;have hp:(2:Nat) ^ y.length<=2 ^ 32:=tH (by omega) (by omega);have hvx:=zMg x;have hvy:=zMg y;rw[hl] at hvx;have h2:=zG5 _ _ _ (wQ (n:=32) h0 (by omega)) (wQ (n:=32) h0 (by omega)) h1;exact zNt _ _ hl (zHl _ _ _ h2)
def zEP(n:Nat):List Bool:=[n.testBit 0,n.testBit 1,n.testBit 2,n.testBit 3,n.testBit 4,n.testBit 5,n.testBit 6,n.testBit 7]
def qZ(l:List UInt8):List Bool:=l.flatMap λx=>zEP x.toNat
theorem zE2:∀n,n<256->val (zEP n)=n:=by decide +kernel
theorem zPt(r x:Nat):r ^^^ x=(256 * (r / 256)) ^^^ ((r % 256) ^^^ x):=by
 rw[<- tQ];congr 1;apply Nat.eq_of_testBit_eq;intro i
 rw[pP];have e1:(256 * (r / 256)).testBit i=(decide (8<=i) && (r / 256).testBit (i-8)):=Nat.testBit_two_pow_mul (i:=8) (a:=r / 256) (j:=i);have e2:(r % 256).testBit i=(decide (i<8) && r.testBit i):=Nat.testBit_mod_two_pow r 8 i;have e3:(r / 256).testBit (i-8)=r.testBit (8+(i-8)):=by
  have:=Nat.testBit_shiftRight r (i:=8) (j:=i-8);rwa [Nat.shiftRight_eq_div_pow] at this
 rw[e1,e2,e3];by_cases hi:i<8
 .have:¬ 8<=i:=by omega
  simp[hi,this]
 .have h8:8<=i:=by omega
  simp[hi,h8]
theorem zKB(r:Nat)(x:UInt8):zC5 r x.toNat=(zEP x.toNat).foldl zA9 r:=by
 have hx:=zE2 _ x.toNat_lt;have h1:(zEP x.toNat).foldl zA9 r=jS 8 (r ^^^ val (zEP x.toNat)):=zEO _ _;rw[h1,hx,zPt,zG1];have h2:jS 8 (256 * (r / 256))=r / 256:=zG3 8 (r / 256);rw[h2,zC5,zCL]
theorem zG6(x:UInt8)(l:List UInt8):qZ (x :: l)=zEP x.toNat++qZ l:=rfl
theorem zIr(l m:List UInt8):qZ (l++m)=qZ l++qZ m:=by simp[qZ]
theorem zFz:∀(l:List UInt8) (r:Nat),zBO r l=(qZ l).foldl zA9 r
 | [],_=>rfl
 | x :: l,r=>by rw[zBO,zFz l,zKB,zG6,pD]
theorem zA5(l:List UInt8):(qZ l).length=8 * l.length:=by
 induction l with
 | nil=>rfl
 | cons x l ih=>rw[qZ,u7,uA,uD];show 8+(qZ l).length=_;rw[ih];omega
theorem zOV(x y:UInt8)(h:zEP x.toNat=zEP y.toNat):x=y:=by
 have:=congrArg val h;rw[zE2 _ x.toNat_lt,zE2 _ y.toNat_lt] at this;exact UInt8.toNat_inj.1 this
theorem zHm:∀(l m:List UInt8),qZ l=qZ m->l=m
 | [],[],_=>rfl
 | [],y :: m,h=>by have:=congrArg List.length h;rw[zA5,zA5] at this;simp at this
 | x :: l,[],h=>by have:=congrArg List.length h;rw[zA5,zA5] at this;simp at this
 | x :: l,y :: m,h=>by
  rw[qZ,qZ,u7,u7] at h;obtain⟨h1,h2⟩:=List.append_inj h rfl;rw[zOV x y h1,zHm l m h2]
theorem zSn(n:Nat)(h:n<4294967296):val (qZ (zU 4 n))=n:=by
 have e:∀x:UInt8,val (zEP x.toNat)=x.toNat:=λx=>zE2 _ x.toNat_lt
 have ap:∀(a b:List Bool),val (a++b)=val a+2 ^ a.length * val b:=by
  intro a b;induction a with
  | nil=>simp[val]
  | cons x a ih=>rw[wW,val,ih,val,uD,pI];rw[Nat.mul_add,<- Nat.mul_assoc,nX 2 (2 ^ a.length)];omega
 simp only[zU,qZ,u7,List.flatMap_nil,ap,e];simp only[zEP,uD,uF,val,UInt8.toNat_ofNat'];omega
theorem zNu(raw:List UInt8)(h:zBO 4294967295 raw<4294967296):(qZ (raw++zU 4 (yC raw))).foldl zA9 4294967295=jS 32 4294967295:=by
 rw[zIr,pD,<- zFz raw];unfold yC;generalize zBO 4294967295 raw=r at *
 rw[zEO,zSn _ (wQ (n:=32) (by decide) h)];rw[nY 4294967295,<- tQ,nZ,Nat.zero_xor];rfl
def zBp(l:List UInt8)(p:Nat):Bool:=(l.getD (p / 8) 0).toNat.testBit (p % 8)
theorem zOW(n i:Nat)(h:i<8):(zEP n)[i]? = some (n.testBit i):=by
 obtain rfl|rfl|rfl|rfl|rfl|rfl|rfl|rfl:i=0\/i=1\/i=2\/i=3\/i=4\/i=5\/i=6\/i=7:=by omega
 all_goals rfl
theorem zFW:∀(l:List UInt8) (p:Nat),p<8 * l.length->(qZ l)[p]? = some (zBp l p)
 | [],p,h=>by simp at h
 | x :: l,p,h=>by
  rw[zG6];by_cases hp:p<8
  .rw[tA (by exact hp),zOW _ _ hp];unfold zBp;rw[show p / 8=0 by omega,show p % 8=p by omega];rfl
  .rw[wI (by show 8<=p;omega)];show (qZ l)[p-8]? = _;rw[zFW l (p-8) (by rw[uD] at h;omega)];unfold zBp;rw[show p / 8=(p-8) / 8+1 by omega,show p % 8=(p-8) % 8 by omega];rfl
def zED(l:List UInt8)(q b:Nat):List UInt8:=l.set (q / 8) (UInt8.ofNat ((l.getD (q / 8) 0).toNat ^^^ (b * 2 ^ (q % 8))))
theorem zNv(b i:Nat)(hb:b<2)(hi:i<8):b * 2 ^ i<256:=by
 have h:(2:Nat) ^ i<=2 ^ 7:=tH (by omega) (by omega);obtain rfl|rfl:b=0\/b=1:=by omega
 .omega
 .omega
theorem zPu(l:List UInt8)(q b p:Nat)(hb:b<2)(hq:q<8 * l.length):zBp (zED l q b) p=(zBp l p ^^ (decide (p=q) && decide (b=1))):=by
 unfold zBp zED;by_cases hj:p / 8=q / 8
 .have hl:q / 8<l.length:=by omega
  rw[hj];have e1:(l.set (q / 8) (UInt8.ofNat ((l.getD (q / 8) 0).toNat ^^^ (b * 2 ^ (q % 8))))).getD (q / 8) 0=UInt8.ofNat ((l.getD (q / 8) 0).toNat ^^^ (b * 2 ^ (q % 8))):=by
   simp[List.getD,hl]
  rw[e1,UInt8.toNat_ofNat',rG (wQ (n:=8) (l.getD (q / 8) 0).toNat_lt (zNv b _ hb (by omega))),pP];congr 1
  obtain rfl|rfl:b=0\/b=1:=by omega
  .simp
  .rw[Nat.one_mul,Nat.testBit_two_pow];simp;omega
 .have e1:(l.set (q / 8) (UInt8.ofNat ((l.getD (q / 8) 0).toNat ^^^ (b * 2 ^ (q % 8))))).getD (p / 8) 0=l.getD (p / 8) 0:=by
   simp only[List.getD];rw[wB (λe=>hj e.symm)]
  rw[e1];have:p≠q:=λe=>hj (by rw[e])
  simp[this]
def vC(mask bit:Nat):Nat->Nat->List UInt8->List UInt8
 | 0,_,l=>l
 | n+1,k,l=>vC mask bit n (k+1) (if bit+k<8 * l.length then zED l (bit+k) (mask / 2 ^ k % 2) else l)
def zAN(l:List UInt8)(bit mask:Nat):List UInt8:=vC mask bit 32 0 l
theorem zDl(l:List UInt8)(q b:Nat):(zED l q b).length=l.length:=by simp[zED]
theorem zCs(mask bit:Nat):∀n k l,(vC mask bit n k l).length=l.length
 | 0,_,_=>rfl
 | n+1,k,l=>by rw[vC,zCs mask bit n];split <;> simp[zDl]
theorem zCT(mask bit:Nat):∀n k l p,p<8 * l.length->zBp (vC mask bit n k l) p=(zBp l p ^^ (decide (bit+k<=p) && decide (p<bit+k+n) && decide (mask / 2 ^ (p-bit) % 2=1)))
 | 0,k,l,p,_=>by
  rw[vC];have:¬ (bit+k<=p/\p<bit+k):=by omega
  by_cases h1:bit+k<=p <;> by_cases h2:p<bit+k <;> simp[h1,h2] <;> omega
 | n+1,k,l,p,hp=>by
  rw[vC];have h2:mask / 2 ^ k % 2<2:=mC _ (by omega);by_cases hq:bit+k<8 * l.length
  .rw[if_pos hq,zCT mask bit n (k+1) _ p (by rw[zDl];exact hp),zPu l _ _ p h2 hq];by_cases e:p=bit+k
   .subst e;rw[show bit+k-bit=k by omega];have h5:¬ k+1<=k:=by omega
    simp[h5]
   .by_cases h3:bit+k<=p
    .have h4:bit+(k+1)<=p:=by omega
     have h5:(p<bit+(k+1)+n)=(p<bit+k+(n+1)):=by rw[show bit+(k+1)+n=bit+k+(n+1) by omega]
     simp[e,h3,h4,h5]
    .have h4:¬ bit+(k+1)<=p:=by omega
     simp[e,h3,h4]
  .rw[if_neg hq,zCT mask bit n (k+1) l p hp];have h3:¬ bit+k<=p:=by omega
   have h4:¬ bit+(k+1)<=p:=by omega
   simp[h3,h4]
theorem zEE(l:List UInt8)(bit mask:Nat):(zAN l bit mask).length=l.length:=zCs _ _ _ _ _
theorem zF0(l:List UInt8)(bit mask p:Nat)(hp:p<8 * l.length):zBp (zAN l bit mask) p=(zBp l p ^^ (decide (bit<=p) && decide (p<bit+32) && decide (mask / 2 ^ (p-bit) % 2=1))):=by
 unfold zAN;rw[zCT _ _ _ _ _ _ hp];rfl
theorem zG7{α:Type}(l:List α)(a n:Nat):l=l.take a++(l.drop a).take n++l.drop (a+n):=by
 rw[uJ,<- List.drop_drop,uV,uV]
theorem zMi(l:List UInt8)(bit mask:Nat)(hb:bit<8 * l.length)(hm:mask % 2=1):zAN l bit mask≠l:=by
 intro e;have h:=zF0 l bit mask bit hb;rw[e] at h;simp[hm] at h
theorem zK1(l l' raw raw':List UInt8)(bit mask:Nat)(hl:l=raw++zU 4 (yC raw))(hl':l'=raw'++zU 4 (yC raw'))(he:l'=zAN l bit mask):l'=l:=by
 have hlen:l'.length=l.length:=by rw[he,zEE]
 have r1:=zNu raw (zDj raw _ (by decide));have r2:=zNu raw' (zDj raw' _ (by decide));rw[<- hl] at r1;rw[<- hl'] at r2;have b1:=zA5 l;have b2:=zA5 l';have hget:∀p,p<8 * l.length->¬ (bit<=p/\p<bit+32)->(qZ l')[p]? = (qZ l)[p]?:=λp hp hn=>by
  rw[zFW l p hp,zFW l' p (by omega),he,zF0 l bit mask p hp];congr 1
  by_cases h1:bit<=p <;> by_cases h2:p<bit+32 <;> simp[h1,h2] <;> omega
 have ht:(qZ l').take bit=(qZ l).take bit:=by
  apply rK;intro i
  rw[rH,rH];by_cases hi:i<bit
  .rw[if_pos hi,if_pos hi];by_cases h8:i<8 * l.length
   .exact hget i h8 (by omega)
   .rw[wP (by omega),wP (by omega)]
  .rw[if_neg hi,if_neg hi]
 have hd:(qZ l').drop (bit+32)=(qZ l).drop (bit+32):=by
  apply rK;intro i
  rw[tV,tV];by_cases h8:bit+32+i<8 * l.length
  .exact hget _ h8 (by omega)
  .rw[wP (by omega),wP (by omega)]
 have p1:=zG7 (qZ l) bit 32;have p2:=zG7 (qZ l') bit 32;rw[ht,hd] at p2;have:=zSm ((qZ l).take bit) (((qZ l').drop bit).take 32) (((qZ l).drop bit).take 32) ((qZ l).drop (bit+32)) 4294967295 (by decide)
  (by simp[b1,b2,hlen]) (by simp;omega) (by rw[<- p1,<- p2,r1,r2])
 rw[this,<- p1] at p2;exact zHm _ _ p2
end
end Go.Proofs.YtdnbmdghmmpgcaaGreatDoor
