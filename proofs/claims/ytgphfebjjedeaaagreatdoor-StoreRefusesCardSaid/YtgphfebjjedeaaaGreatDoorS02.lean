import Derived.Test.YtgphfebjjedeaaaGreatDoorS00
import Derived.WalkKit
import Derived.WalkSpells
import Derived.WalkLawsBesides
import Derived.Handy
import Derived.RowKit
namespace Go.Proofs.YtgphfebjjedeaaaGreatDoor
section
inductive gT|mk(c s g:Nat)
inductive gV|mk
inductive gW|mk
abbrev gP:=gT.mk
abbrev gB:=gV.mk
abbrev gE:=gW.mk
variable{c s g:Nat}
instance:CoeDep gT (.mk c s g) (Array Value):=⟨#[.pointer (some ⟨c,0,none⟩),.pointer (some ⟨s,0,none⟩),.int .u64 (g:Int)]⟩
instance:CoeDep gT (.mk c s g) Obj:=⟨.cells #[.pointer (some ⟨c,0,none⟩),.pointer (some ⟨s,0,none⟩),.int .u64 (g:Int)] 140⟩
instance:CoeDep gV .mk (Array Value):=⟨#[.bool false,.slice none 0 0,.slice none 0 0,.slice none 0 0]⟩
instance:CoeDep gV .mk Obj:=⟨.cells #[.bool false,.slice none 0 0,.slice none 0 0,.slice none 0 0] 277⟩
instance:CoeDep gW .mk (Array Value):=⟨#[.int .i64 0,.int .i64 0,.int .u64 0,.slice none 0 0]⟩
instance:CoeDep gW .mk Obj:=⟨.cells #[.int .i64 0,.int .i64 0,.int .u64 0,.slice none 0 0] 272⟩
end
section
open Go.RowKit
theorem zFa{k:IntKind}{a b:Int}(h:a=b):Ending.returned (.int k a)=.returned (.int k b):=by rw[h]
theorem zO{a b:Bool}(h:a=b):Ending.returned (.bool a)=.returned (.bool b):=by rw[h]
theorem zC0{k:IntKind}{a b:Int}(h:a=b):Value.int k a=.int k b:=by rw[h]
theorem zQ{w:World}{b o:Nat}{v:Value}(h:w.cell? ⟨b,o,none⟩=some v):b<w.heap.size:=World.block_lt_of_cell? w ⟨b,o,none⟩ h
theorem qC{w:World}{b o:Nat}{v:Value}(h:w.cell? ⟨b,o,none⟩=some v)(x:Obj):(w.alloc x).cell? ⟨b,o,none⟩=some v :=
 (World.cell?_of_block (w:=w) (Below.heap_alloc w x b (zQ h))).trans h
theorem yR{w:World}{b:Nat}{c:Array Value}{t:TypeId}{fz:Nat × Nat}(h:w.heap[b]? = some (.cells c t fz))(o:Nat):w.cell? ⟨b,o,none⟩=c[o]?:=by
 simp[World.cell?,h]
theorem zU{w:World}{o:Obj}{b:Nat}(h:b=w.heap.size):(w.alloc o).heap[b]? = some o:=by subst h;exact heap_alloc_new w o
structure zA(F:NP)(w w':World):Prop where
 os:w'.os=w.os
 tape:w'.tape=w.tape
 output:w'.output=w.output
 size:w.heap.size<=w'.heap.size
 block:∀k,k<w.heap.size->¬ F k->w'.heap[k]? = w.heap[k]?
abbrev zF(w w':World):Prop:=zA (λ_=>False) w w'
section
variable {F G:NP}{w w1 w2 w':World}
theorem zA.refl(F:NP)(w:World):zA F w w:=⟨rfl,rfl,rfl,uI _,λ_ _ _=>rfl⟩
theorem zr{F:NP}{w:World}:zA F w w:=zA.refl F w
theorem zss{F:NP}(w:World):zA F w w:=zA.refl F w
theorem zA.trans(h:zA F w w1)(k:zA F w1 w2):zA F w w2 :=
 ⟨k.os.trans h.os,k.tape.trans h.tape,k.output.trans h.output,uQ h.size k.size,λi hi hn=>(k.block i (uD hi h.size) hn).trans (h.block i hi hn)⟩
theorem zA.trans'(h:zA F w w1)(k:zA G w1 w2)(hG:∀i,i<w.heap.size->G i->F i):zA F w w2 :=
 ⟨k.os.trans h.os,k.tape.trans h.tape,k.output.trans h.output,uQ h.size k.size,λi hi hn=>(k.block i (uD hi h.size) (λg=>hn (hG i hi g))).trans (h.block i hi hn)⟩
theorem zA.mono(h:zA F w w')(hG:∀i,F i->G i):zA G w w':=⟨h.os,h.tape,h.output,h.size,λi hi hn=>h.block i hi (λf=>hn (hG i f))⟩
theorem zA.drew(h:zA F w w1):zA F w w1.drew:=⟨h.os,h.tape,h.output,h.size,h.block⟩
theorem zA.drewN(h:zA F w w1)(n:Nat):zA F w (w1.drewN n):=⟨h.os,h.tape,h.output,h.size,h.block⟩
theorem zA.alloc(h:zA F w w1)(o:Obj):zA F w (w1.alloc o) :=
 ⟨h.os,h.tape,h.output,uQ h.size (by simp),λi hi hn=>(Below.heap_alloc _ _ _ (uD hi h.size)).trans (h.block i hi hn)⟩
theorem zA.setCell(h:zA F w w1){p:Addr}(hp:w.heap.size<=p.block\/F p.block)(u:Value):zA F w (w1.setCell p u) :=
 ⟨h.os,h.tape,h.output,uQ h.size (by simp[World.setCell]),λi hi hn=>(Below.heap_setCell _ _ _ _ (by rintro rfl;rcases hp with hp|hp;omega;exact hn hp)).trans (h.block i hi hn)⟩
theorem zA.grown{row:Option Nat}(h:zA F w w1)(hg:w1.grownBy w2 row)(hr:∀k,row=some k->w.heap.size<=k\/F k):zA F w w2 :=
 ⟨hg.os.trans h.os,hg.tape.trans h.tape,hg.output.trans h.output,uQ h.size hg.size,
  λi hi hn=>(hg.block i (uD hi h.size) (λe=>by rcases hr i e.symm with h|h;omega;exact hn h)).trans (h.block i hi hn)⟩
theorem zA.below(h:zF w w'):Below w.heap.size w w':=⟨h.os,h.tape,h.output,h.size,λi hi=>h.block i hi (λf=>f)⟩
theorem zA.ext(h:zF w w'):zA F w w':=h.mono (λ_ f=>f.elim)
theorem zA.cell(h:zA F w w'){b o:Nat}(hb:b<w.heap.size)(hF:¬ F b):w'.cell? ⟨b,o,none⟩=w.cell? ⟨b,o,none⟩:=World.cell?_of_block (w:=w) (h.block b hb hF)
theorem zA.frozen(h:zA F w w'){b o:Nat}(hb:b<w.heap.size)(hF:¬ F b):w'.frozen? ⟨b,o,none⟩=w.frozen? ⟨b,o,none⟩:=World.frozen?_of_block (w:=w) (h.block b hb hF)
end
def Sl{α:Type}(F:NP)(w:World)(sz:Nat)(enc:α->List Value)(v:Value)(l:List α):Prop :=
 ∃a cap,v=.slice a l.length cap/\l.length<=cap/\cap<=maxLen/\l.length<=140737488355328 /\
  (l=[]\/∃b off,a=some ⟨b,off,none⟩/\b<w.heap.size/\¬ F b/\∀i x,l[i]? = some x->∀j u,(enc x)[j]? = some u->w.cell? ⟨b,off+i * sz+j,none⟩=some u)
section
variable {α:Type}{F G:NP}{w w':World}{sz:Nat}{enc:α->List Value}{v:Value}{l:List α}
theorem Sl.mods(h:Sl F w sz enc v l)(m:zA F w w'):Sl F w' sz enc v l:=by
 obtain⟨a,cap,rfl,h1,h2,h3,h4⟩:=h;refine⟨a,cap,rfl,h1,h2,h3,?_⟩;rcases h4 with h4|⟨b,off,rfl,hb,hF,hc⟩
 .exact .inl h4
 .exact .inr ⟨b,off,rfl,uD hb m.size,hF,λi x hi j u hu=>(m.cell hb hF).trans (hc i x hi j u hu)⟩
theorem Sl.step(h:Sl F w sz enc v l)(m:zA F w w')(hG:∀k,k<w.heap.size->¬ F k->¬ G k):Sl G w' sz enc v l:=by
 obtain⟨a,cap,rfl,h1,h2,h3,h4⟩:=h;refine⟨a,cap,rfl,h1,h2,h3,?_⟩;rcases h4 with h4|⟨b,off,rfl,hb,hF,hc⟩
 .exact .inl h4
 .exact .inr ⟨b,off,rfl,uD hb m.size,hG b hb hF,λi x hi j u hu=>(m.cell hb hF).trans (hc i x hi j u hu)⟩
theorem Sl.anti(h:Sl F w sz enc v l)(hG:∀k,k<w.heap.size->G k->F k):Sl G w sz enc v l :=
 h.step zr (λk hk hF hg=>hF (hG k hk hg))
theorem Sl.at{a:Option Addr}(h:l=[]\/∃b off,a=some ⟨b,off,none⟩/\b<w.heap.size/\¬ F b/\∀i x,l[i]? = some x->∀j u,(enc x)[j]? = some u->w.cell? ⟨b,off+i * sz+j,none⟩=some u)
  (m:zA G w w') (hG:∀k,k<w.heap.size->G k->F k) (k:Nat) (hk:k<l.length) :
  ∃b off,a=some ⟨b,off,none⟩/\b<w.heap.size/\¬ F b/\∀j u,(enc l[k])[j]? = some u->w'.cell? ⟨b,off+k * sz+j,none⟩=some u:=by
 rcases h with h|⟨b,off,ha,hb,hF,hc⟩
 .rw[h] at hk;simp at hk
 .exact⟨b,off,ha,hb,hF,λj u hu=>(m.cell hb (λg=>hF (hG b hb g))).trans (hc k l[k] (by simp[hk]) j u hu)⟩
theorem Sl.atE{a:Option Addr}(h:l=[]\/∃b off,a=some ⟨b,off,none⟩/\b<w.heap.size/\¬ F b/\∀i x,l[i]? = some x->∀j u,(enc x)[j]? = some u->w.cell? ⟨b,off+i * sz+j,none⟩=some u)
  (m:zF w w') (k:Nat) (hk:k<l.length) :
  ∃b off,a=some ⟨b,off,none⟩/\b<w.heap.size/\¬ F b/\∀j u,(enc l[k])[j]? = some u->w'.cell? ⟨b,off+k * sz+j,none⟩=some u :=
 Sl.at h m (λ_ _ f=>f.elim) k hk
theorem Sl.one{x:α}{b:Nat}{t:TypeId}{fz:Nat × Nat}(h:w.heap[b]? = some (.cells (enc x).toArray t fz))(hF:¬ F b):Sl F w sz enc (.slice (some ⟨b,0,none⟩) 1 1) [x]:=by
 refine⟨_,1,rfl,uI _,by simp[maxLen],by simp,.inr ⟨b,0,rfl,(wZ.1 h).1,hF,λi y hi j u hu=>?_⟩⟩;match i,hi with
 | 0,hi =>
  simp at hi;subst hi;rw[yR h];simpa using hu
theorem Sl.nil(F:NP)(w:World)(sz:Nat)(enc:α->List Value):Sl F w sz enc (.slice none 0 0) []:=⟨none,0,rfl,uI _,by simp[maxLen],by simp,.inl rfl⟩
end
structure zS where
 key:ByteArray
 value:ByteArray
 chain:Int
 size:Int
structure zK where
 leaf:Bool
 entries:List zS
 keys:List ByteArray
 kids:List Int
def zAA(e:zS):List Value:=[.string e.key,.string e.value,.int .i64 e.chain,.int .i64 e.size]
def zBP(s:ByteArray):List Value:=[.string s]
def yX(n:Int):List Value:=[.int .i64 n]
def zM(b:UInt8):List Value:=[.int .u8 (b.toNat:Int)]
def zAK(s:ByteArray):Bool:=decide (1<=(s.size:Int)) && decide ((s.size:Int)<=32)
theorem zAz(s:ByteArray):zAK s=true ↔ 1<=s.size/\s.size<=32:=by simp[zAK];omega
def leS(a b:ByteArray):Bool:=Op.bytesLess a.toList b.toList || a.toList == b.toList
def ltS(a b:ByteArray):Bool:=Op.bytesLess a.toList b.toList
def zBA(e:zS):Int:=2+e.key.size+(if e.chain=0 then 1+(e.value.size:Int) else 8)
def zAd:List zS->Int
 | []=>0
 | e :: r=>zBA e+zAd r
def zA0:List ByteArray->Int
 | []=>0
 | k :: r=>(5+(k.size:Int))+zA0 r
def yM(n:zK):Int:=2+(if n.leaf then 0 else 4)+zAd n.entries+zA0 n.keys
theorem zD3(e:zS):2<=zBA e:=by unfold zBA;split <;> omega
theorem zBx(l:List zS):0<=zAd l:=by
 induction l with
 | nil=>simp[zAd]
 | cons e r ih=>have:=zD3 e;simp only[zAd];omega
theorem zBy(l:List ByteArray):0<=zA0 l:=by
 induction l with
 | nil=>simp[zA0]
 | cons e r ih=>simp only[zA0];omega
theorem zDX(l r:List zS):zAd (l++r)=zAd l+zAd r:=by
 induction l with
 | nil=>simp[zAd]
 | cons e l ih=>simp only[tW,zAd,ih];omega
theorem zDY(l r:List ByteArray):zA0 (l++r)=zA0 l+zA0 r:=by
 induction l with
 | nil=>simp[zA0]
 | cons e l ih=>simp only[tW,zA0,ih];omega
theorem vB{α:Type}(l:List α)(k:Nat)(x:α)(h:l[k]? = some x):l.take (k+1)=l.take k++[x]:=by
 rw[List.take_add_one,h];rfl
theorem zC1(l:List zS)(k:Nat):zAd (l.take k)<=zAd l:=by
 have:=zDX (l.take k) (l.drop k);rw[wS] at this;have:=zBx (l.drop k);omega
theorem zC2(l:List ByteArray)(k:Nat):zA0 (l.take k)<=zA0 l:=by
 have:=zDY (l.take k) (l.drop k);rw[wS] at this;have:=zBy (l.drop k);omega
end
section
def zP:Nat->Nat->List UInt8
 | 0,_=>[]
 | W+1,n=>UInt8.ofNat n :: zP W (n / 256)
def zBz:List UInt8->Nat
 | []=>0
 | x :: l=>x.toNat+256 * zBz l
theorem zC:∀W n,(zP W n).length=W
 | 0,_=>rfl
 | W+1,n=>by simp[zP,zC W]
theorem zD4:∀W n,zBz (zP W n)=n % 256 ^ W
 | 0,n=>by simp[zP,zBz,Nat.mod_one]
 | W+1,n=>by
  rw[zP,zBz,zD4 W];rw[Nat.pow_succ,Nat.mul_comm (256 ^ W) 256,Nat.mod_mul];simp
theorem zCM:∀l,zBz l<256 ^ l.length
 | []=>by simp[zBz]
 | x :: l=>by
  have:=zCM l;have hx:=x.toNat_lt;rw[zBz,uG,Nat.pow_succ];omega
theorem zD5(l:List UInt8)(q m W:Nat)(x:UInt8)(hm:m<W)(hx:l[q+m]? = some x) :
  zBz ((l.drop (q+m)).take (W-m))=zBz ((l.drop (q+(m+1))).take (W-(m+1))) * 256+x.toNat:=by
 obtain⟨hlt,he⟩:=uB.1 hx;rw[wP hlt,he,show W-m=(W-(m+1))+1 by omega,List.take_succ_cons,zBz];rw[show q+m+1=q+(m+1) by omega];omega
theorem zFb(l:List UInt8)(q m W:Nat):zBz ((l.drop (q+m)).take (W-m))<256 ^ (W-m) :=
 uD (zCM _) (wW (by decide) (by simp;omega))
def qN(r:Nat):Nat:=if r % 2=1 then (r / 2) ^^^ 3988292384 else r / 2
def zAs:Nat->Nat->Nat
 | 0,r=>r
 | k+1,r=>zAs k (qN r)
def zA1(n:Nat):Nat:=zAs 8 n
def zCN(r x:Nat):Nat:=(r / 256) ^^^ zA1 ((r % 256) ^^^ x)
def zAt(r:Nat):List UInt8->Nat
 | []=>r
 | x :: l=>zAt (zCN r x.toNat) l
def zCc(l:List UInt8):Nat:=4294967295 ^^^ zAt 4294967295 l
theorem zA2(r:Nat)(h:r<4294967296):qN r<4294967296:=by
 unfold qN;split
 .exact wH (n:=32) (by omega) (by decide)
 .omega
theorem zD6:∀k r,r<4294967296->zAs k r<4294967296
 | 0,_,h=>h
 | k+1,r,h=>zD6 k _ (zA2 r h)
theorem zDZ(n:Nat)(h:n<256):zA1 n<4294967296:=zD6 8 n (by omega)
theorem zD7(r x:Nat)(h:r<4294967296)(hx:x<256):zCN r x<4294967296 :=
 wH (n:=32) (by omega) (zDZ _ (wH (n:=8) (by omega) hx))
theorem zD8:∀(l:List UInt8) (r:Nat),r<4294967296->zAt r l<4294967296
 | [],_,h=>h
 | x :: l,r,h=>zD8 l _ (zD7 r x.toNat h x.toNat_lt)
theorem zIK(l:List UInt8):zCc l<4294967296:=wH (n:=32) (by decide) (zD8 l _ (by decide))
structure zX where
 kind:Int
 id:Int
 gen:Nat
 body:List UInt8
def zBB(k:Int):Bool:=decide (k=1) || decide (k=2) || decide (k=3) || decide (k=4) || decide (k=5)
def vS(s:Int):Bool:=decide (256<=s) && decide (s<=1024)
def yN(p:zX)(size:Int):Option (List Int × Nat) :=
 if vS size=false then some ([-1],2)
 else if zBB p.kind=false\/p.id<0\/256<=p.id\/size-24<(p.body.length:Int) then some ([-1],1) else none
def zCd(p:zX)(size:Nat):List UInt8 :=
 zP 1 p.kind.toNat++zP 1 0++zP 2 p.body.length++zP 4 p.id.toNat++zP 8 p.gen++zP 4 0++p.body++List.replicate (size-4-(20+p.body.length)) 0
def jB(p:zX)(size:Nat):List UInt8:=zCd p size++zP 4 (zCc (zCd p size))
theorem zDa(p:zX)(size:Nat)(h:p.body.length+24<=size):(zCd p size).length=size-4:=by
 simp only[zCd,uC,zC,tN];omega
theorem vC(p:zX)(size:Nat)(h:p.body.length+24<=size):(jB p size).length=size:=by
 rw[jB,uC,zDa p size h,zC];omega
theorem qF{p:zX}{size:Int}(h:yN p size=none):256<=size/\size<=1024/\zBB p.kind=true/\0<=p.id/\p.id<256/\(p.body.length:Int)+24<=size:=by
 unfold yN at h;split at h
 .cases h
 .rename_i h1;split at h
  .cases h
  .rename_i h2;simp only[not_or,rC,Int.not_lt,Int.not_le] at h1 h2;simp only[vS,uF,uM] at h1;exact⟨h1.1,h1.2,h2.1,h2.2.1,h2.2.2.1,by omega⟩
theorem zDb{k:Int}(h:zBB k=true):1<=k/\k<=5:=by
 simp only[zBB,tS,uM] at h;omega
def yE(l:List UInt8)(i W:Nat):Nat:=zBz ((l.drop i).take W)
def jR(l:List UInt8):zX :=
  { kind:=(yE l 0 1:Nat),id:=(yE l 4 4:Nat),gen:=yE l 8 8,
    body:=if yE l 2 2<=l.length-24 then (l.drop 20).take (yE l 2 2) else [] }
theorem zA3(l:List UInt8)(i W:Nat):yE l i W<256 ^ W :=
 uD (zCM _) (wW (by decide) (by simp;omega))
def zBC(l:List UInt8):Bool:=decide (yN (jR l) (l.length:Int)=none) && decide (jB (jR l) l.length=l)
def zB0(l:List UInt8):Int:=if 256<=(jR l).id then -1 else (jR l).id
def zW(l:List UInt8)(id:Int):zX ⊕ (List Int × Nat) :=
 if zBC l=false then .inr ([-1,zB0 l],5) else if (jR l).id≠id then .inr ([if id < -1 then -1 else id],5) else .inl (jR l)
theorem zCO(l:List UInt8):(jR l).gen<18446744073709551616:=zA3 l 8 8
theorem zJN(l:List UInt8):0<=(jR l).id/\(jR l).id<4294967296:=by
 have:=zA3 l 4 4;have h:(jR l).id=(yE l 4 4:Nat):=rfl;constructor
 .omega
 .rw[h];have:yE l 4 4<4294967296:=this;omega
structure zH where
 blocks:Nat
 size:Nat
 lasting:List (List UInt8)
 waiting:List (Nat × List UInt8)
 lit:Bool
 after:Int
 torn:Int
 cut:Int
 keep:List Bool
 off:Bool
 count:Int
def jO(i:Nat):List (Nat × List UInt8)->Option (List UInt8)
 | []=>none
 | (j,b) :: l=>match jO i l with
  | some c=>some c
  | none=>if j=i then some b else none
def zH.look(D:zH)(i:Nat):List UInt8:=(jO i D.waiting).getD (D.lasting.getD i [])
def zH.check(D:zH)(i:Int):Option (List Int × Nat):=if i<0\/(D.blocks:Int)<=i then some ([if i < -1 then -1 else i],2) else none
def zH.on(D:zH)(i:Int):Option (List Int × Nat) :=
 match D.check i with
 | some e=>some e
 | none=>if D.off then some ([if i < -1 then -1 else i],7) else none
def settle:List (List UInt8)->List (Nat × List UInt8)->List (List UInt8)
 | l,[]=>l
 | l,(i,b) :: r=>settle (l.set i b) r
def zHw(keep:List Bool)(torn cut:Int):Nat->List (List UInt8)->List (Nat × List UInt8)->List (List UInt8)
 | _,l,[]=>l
 | k,l,(i,b) :: r =>
  let old:=l.getD i []
  let c:=(max 0 (min cut (b.length:Int))).toNat
  zHw keep torn cut (k+1) (if (k:Int)=torn then l.set i (b.take c++old.drop c) else if keep.getD k false then l.set i (b++old.drop b.length) else l) r
def zH.crash(D:zH)(keep:List Bool)(torn cut:Int):zH:={ D with lasting:=zHw keep torn cut 0 D.lasting D.waiting,waiting:=[] }
def zH.burns(D:zH):Bool × zH :=
 if D.lit && decide (D.after=0) then
  (true,{ D with lit:=false,after:=0,torn:=0,cut:=0,keep:=[],off:=true }.crash D.keep D.torn D.cut)
 else (false,{ D with after:=RowKit.wrap64 (D.after-1),count:=RowKit.wrap64 (D.count+1) })
def vJ(blocks size:Nat):zH :=
  { blocks:=blocks,size:=size,lasting:=List.replicate blocks (List.replicate size 0),waiting:=[],lit:=false,after:=0,torn:=0,cut:=0,keep:=[],off:=false,count:=0 }
theorem zC3(i:Nat)(l r:List (Nat × List UInt8)):jO i (l++r)=(jO i r).or (jO i l):=by
 induction l with
 | nil=>simp[jO]
 | cons x l ih =>
  obtain⟨j,b⟩:=x;rw[tW,jO,ih,jO];cases jO i r <;> cases jO i l <;> rfl
theorem zBe(i:Nat):∀(l:List (Nat × List UInt8)),(∀p∈l,p.1≠i)->jO i l=none
 | [],_=>rfl
 | (j,b) :: l,h=>by
  rw[jO,zBe i l (λp hp=>h p (uJ _ hp)),if_neg (h (j,b) uH)]
theorem zJO(i:Nat)(l:List (Nat × List UInt8))(k:Nat)(b:List UInt8)(hk:l[k]? = some (i,b))(h:∀j p,k<j->l[j]? = some p->p.1≠i):jO i l=some b:=by
 obtain⟨hlt,he⟩:=uB.1 hk;have h1:l=l.take k++(i,b) :: l.drop (k+1):=by
  rw[<- he,<- wP hlt,wS]
 have h2:jO i (l.drop (k+1))=none:=zBe i _ (λp hp=>by
  obtain⟨j,hj,he2⟩:=uR hp;rw[List.getElem_drop] at he2;have hj2:k+1+j<l.length:=by simp at hj;omega
  exact h (k+1+j) p (by omega) (by rw[uA hj2,he2]))
 rw[h1,zC3,jO,h2,if_pos rfl];rfl
theorem vL(A B:List UInt8)(W n:Nat)(i:Nat)(hi:A.length=i)(hn:n<256 ^ W):yE (A++(zP W n++B)) i W=n:=by
 unfold yE;rw[List.drop_append_of_le_length (by omega),tA (by omega),wF,tH (by rw[zC];omega),uV (by rw[zC];omega),zD4];exact rM hn
def zD9(k n i g:Nat)(b R:List UInt8):List UInt8:=zP 1 k++(zP 1 0++(zP 2 n++(zP 4 i++(zP 8 g++(zP 4 0++(b++R))))))
theorem zLE(k n i g:Nat)(b R:List UInt8)(h:k<256):yE (zD9 k n i g b R) 0 1=k:=vL [] _ 1 k 0 rfl (by simpa using h)
theorem zLF(k n i g:Nat)(b R:List UInt8)(h:n<65536):yE (zD9 k n i g b R) 2 2=n:=by
 unfold zD9;have:zP 1 k++(zP 1 0++(zP 2 n++(zP 4 i++(zP 8 g++(zP 4 0++(b++R))))))=(zP 1 k++zP 1 0)++(zP 2 n++(zP 4 i++(zP 8 g++(zP 4 0++(b++R))))):=by simp only[uN]
 rw[this];exact vL _ _ 2 n 2 (by simp[zC]) (by simpa using h)
theorem zLG(k n i g:Nat)(b R:List UInt8)(h:i<4294967296):yE (zD9 k n i g b R) 4 4=i:=by
 unfold zD9;have:zP 1 k++(zP 1 0++(zP 2 n++(zP 4 i++(zP 8 g++(zP 4 0++(b++R))))))=(zP 1 k++zP 1 0++zP 2 n)++(zP 4 i++(zP 8 g++(zP 4 0++(b++R)))):=by simp only[uN]
 rw[this];exact vL _ _ 4 i 4 (by simp[zC]) (by simpa using h)
theorem zLH(k n i g:Nat)(b R:List UInt8)(h:g<256 ^ 8):yE (zD9 k n i g b R) 8 8=g:=by
 unfold zD9;have:zP 1 k++(zP 1 0++(zP 2 n++(zP 4 i++(zP 8 g++(zP 4 0++(b++R))))))=(zP 1 k++zP 1 0++zP 2 n++zP 4 i)++(zP 8 g++(zP 4 0++(b++R))):=by simp only[uN]
 rw[this];exact vL _ _ 8 g 8 (by simp[zC]) h
theorem zLI(k n i g:Nat)(b R:List UInt8):((zD9 k n i g b R).drop 20).take b.length=b:=by
 unfold zD9;have:zP 1 k++(zP 1 0++(zP 2 n++(zP 4 i++(zP 8 g++(zP 4 0++(b++R))))))=(zP 1 k++zP 1 0++zP 2 n++zP 4 i++zP 8 g++zP 4 0)++(b++R):=by simp only[uN]
 rw[this,List.drop_append_of_le_length (by simp[zC]),tA (by simp[zC]),wF,tH (uI _),uV (uI _)]
theorem zIL(p:zX)(size:Nat):∃R,jB p size=zD9 p.kind.toNat p.body.length p.id.toNat p.gen p.body R:=by
 refine⟨List.replicate (size-4-(20+p.body.length)) 0++zP 4 (zCc (zCd p size)),?_⟩;unfold jB;generalize zP 4 (zCc (zCd p size))=C
 unfold zCd zD9;simp only[uN]
theorem zEA{p:zX}{size:Nat}(hc:yN p size=none)(hg:p.gen<18446744073709551616):jR (jB p size)=p:=by
 obtain⟨h1,h2,h3,h4,h5,h6⟩:=qF hc;have hk:=zDb h3;have hlen:=vC p size (by omega);obtain⟨R,hR⟩:=zIL p size;unfold jR;rw[hlen,hR,zLE _ _ _ _ _ _ (by omega),zLF _ _ _ _ _ _ (by omega),zLG _ _ _ _ _ _ (by omega),zLH _ _ _ _ _ _ (by exact hg),zLI,if_pos (by omega)];obtain⟨pk,pi,pg,pb⟩:=p;simp only[zX.mk.injEq,and_true] at *;exact⟨by omega,by omega⟩
theorem zIM{p:zX}{size:Nat}(hc:yN p size=none)(hg:p.gen<18446744073709551616):zBC (jB p size)=true:=by
 have hlen:=vC p size (by have:=qF hc;omega);unfold zBC;rw[zEA hc hg,hlen,hc];simp
theorem zB1{p:zX}{size:Nat}(hc:yN p size=none)(hg:p.gen<18446744073709551616):zW (jB p size) p.id=.inl p:=by
 unfold zW;rw[zIM hc hg,zEA hc hg];simp
theorem zJP(a b:Nat):(a ^^^ b) / 2=(a / 2) ^^^ (b / 2):=by
 apply Nat.eq_of_testBit_eq;intro i
 simp[Nat.testBit_xor,Nat.testBit_div_two]
theorem zJQ(a b:Nat):(a ^^^ b) % 2=(a+b) % 2:=by
 have h:=Nat.testBit_xor a b 0;simp only[Nat.testBit_zero] at h;have h1:=tB a;have h2:=tB b;have h3:=tB (a ^^^ b);rcases h1 with h1|h1 <;> rcases h2 with h2|h2 <;> rcases h3 with h3|h3 <;> rw[h1,h2,h3] at h <;> first|omega|(simp at h;done)|(exfalso;revert h;decide)
theorem zGB(a b:Nat):qN (a ^^^ b)=qN a ^^^ qN b:=by
 unfold qN;rw[zJQ,zJP];have ha:=tB a;have hb:=tB b;rcases ha with ha|ha <;> rcases hb with hb|hb
 .rw[if_neg (by omega),if_neg (by omega),if_neg (by omega)]
 .rw[if_pos (by omega),if_neg (by omega),if_pos (by omega),tG]
 .rw[if_pos (by omega),if_pos (by omega),if_neg (by omega),tG,tG,Nat.xor_comm (b / 2)]
 .rw[if_neg (by omega),if_pos (by omega),if_pos (by omega)];rw[tG,<- tG 3988292384,Nat.xor_comm 3988292384,tG,Nat.xor_self,Nat.xor_zero]
theorem zGC(v:Nat):qN (2 * v)=v:=by unfold qN;rw[if_neg (by omega)];omega
theorem zDc(a b:Nat)(ha:a<4294967296)(hb:b<4294967296)(h:qN a=qN b):a=b:=by
 unfold qN at h;have ha2:a / 2<2147483648:=by omega
 have hb2:b / 2<2147483648:=by omega
 have big:∀x y,x<2147483648->y<2147483648->x ^^^ 3988292384=y->False:=by
  intro x y hx hy e;have e2:x ^^^ y=3988292384:=by rw[<- e,<- tG,Nat.xor_self,Nat.zero_xor]
  have:=wH (n:=31) hx hy;omega
 split at h <;> split at h
 .have:a / 2=b / 2:=by
   have e:=congrArg (· ^^^ 3988292384) h;simpa[tG,Nat.xor_self] using e
  omega
 .exact (big _ _ ha2 hb2 h).elim
 .exact (big _ _ hb2 ha2 h.symm).elim
 .omega
def zAW(r:Nat)(b:Bool):Nat:=qN (r ^^^ b.toNat)
def val:List Bool->Nat
 | []=>0
 | b :: l=>b.toNat+2 * val l
theorem zKc(b:Bool)(v:Nat):b.toNat+2 * v=b.toNat ^^^ (2 * v):=by
 apply Nat.eq_of_testBit_eq;intro i
 cases i with
 | zero=>cases b <;> simp[Nat.testBit_zero] <;> omega
 | succ i =>
  rw[Nat.testBit_xor];simp only[Nat.testBit_succ];cases b <;> simp <;> congr 1 <;> omega
theorem zEB:∀(l:List Bool) (s:Nat),l.foldl zAW s=zAs l.length (s ^^^ val l)
 | [],s=>by simp[zAs,val]
 | b :: l,s=>by
  rw[List.foldl_cons,zEB l,uG,zAs,val,zKc,<- tG,zGB,zGC];rfl
theorem zG2:∀l:List Bool,val l<2 ^ l.length
 | []=>by simp[val]
 | b :: l=>by have:=zG2 l;rw[val,uG,Nat.pow_succ];cases b <;> simp <;> omega
theorem zHx:∀(l m:List Bool),l.length=m.length->val l=val m->l=m
 | [],[],_,_=>rfl
 | [],_ :: _,h,_=>by simp at h
 | _ :: _,[],h,_=>by simp at h
 | b :: l,c :: m,h,hv=>by
  simp only[val] at hv;have hb:b=c:=by cases b <;> cases c <;> simp at hv <;> first|rfl|omega
  subst hb;rw[zHx l m (by simpa using h) (by omega)]
theorem zDd:∀k a b,a<4294967296->b<4294967296->zAs k a=zAs k b->a=b
 | 0,_,_,_,_,h=>h
 | k+1,a,b,ha,hb,h=>zDc a b ha hb (zDd k _ _ (zA2 a ha) (zA2 b hb) h)
theorem zG3(b:Bool):b.toNat<4294967296:=by cases b <;> decide
theorem zCe(s:Nat)(b:Bool)(h:s<4294967296):zAW s b<4294967296:=zA2 _ (wH (n:=32) h (zG3 b))
theorem zD0:∀(l:List Bool) (s:Nat),s<4294967296->l.foldl zAW s<4294967296
 | [],_,h=>h
 | b :: l,s,h=>zD0 l _ (zCe s b h)
theorem zEC(a b c:Nat)(h:a ^^^ b=a ^^^ c):b=c:=by
 have e:=congrArg (a ^^^ ·) h;simpa[<- tG,Nat.xor_self] using e
theorem zGD(a b:Nat)(x:Bool)(ha:a<4294967296)(hb:b<4294967296)(h:zAW a x=zAW b x):a=b:=by
 have:=zDc _ _ (wH (n:=32) ha (zG3 x)) (wH (n:=32) hb (zG3 x)) h;rw[Nat.xor_comm a,Nat.xor_comm b] at this;exact zEC _ _ _ this
theorem zGE:∀(l:List Bool) (a b:Nat),a<4294967296->b<4294967296->l.foldl zAW a=l.foldl zAW b->a=b
 | [],_,_,_,_,h=>h
 | x :: l,a,b,ha,hb,h=>zGD a b x ha hb (zGE l _ _ (zCe a x ha) (zCe b x hb) h)
theorem zMI(p x y q:List Bool)(s:Nat)(hs:s<4294967296)(hl:x.length=y.length)(h32:x.length<=32)(h:(p++x++q).foldl zAW s=(p++y++q).foldl zAW s):x=y:=by
 simp only[List.foldl_append] at h;have h0:=zD0 p s hs;have h1:=zGE q _ _ (zD0 x _ h0) (zD0 y _ h0) h;generalize p.foldl zAW s=s0 at h0 h1
 rw[zEB,zEB,hl] at h1;have hp:(2:Nat) ^ y.length<=2 ^ 32:=wW (by omega) (by omega);have hvx:=zG2 x;have hvy:=zG2 y;rw[hl] at hvx;have h2:=zDd _ _ _ (wH (n:=32) h0 (by omega)) (wH (n:=32) h0 (by omega)) h1;exact zHx _ _ hl (zEC _ _ _ h2)
def zC4(l:List UInt8)(p:Nat):Bool:=(l.getD (p / 8) 0).toNat.testBit (p % 8)
structure zL where
 page:zX
 full:Bool
 dirty:Bool
 used:Bool
 pins:Nat
def yI:zL:=⟨⟨0,0,0,[]⟩,false,false,false,0⟩
structure qK where
 disk:zH
 slots:List zL
 hand:Nat
def zL.has(s:zL)(id:Nat):Bool:=s.full && decide (s.page.id=(id:Int))
def zL.wet(s:zL):Bool:=s.full && s.dirty
def qK.vw(C:qK)(id:Nat):zX ⊕ (List Int × Nat) :=
 match C.slots.find? (·.has id) with
 | some s=>.inl s.page
 | none=>zW (C.disk.look id) id
def qK.cost(C:qK):Nat:=C.disk.waiting.length+C.slots.countP (·.wet)
def zFc(p:zX)(size:Nat):Prop:=yN p size=none/\p.gen<18446744073709551616
structure yS(C:qK):Prop where
 n3:3<=C.slots.length
 n64:C.slots.length<=64
 hand:C.hand<C.slots.length
 s256:256<=C.disk.size
 s1024:C.disk.size<=1024
 b8:8<=C.disk.blocks
 b256:C.disk.blocks<=256
 lenL:C.disk.lasting.length=C.disk.blocks
 len:∀id:Nat,id<C.disk.blocks->(C.disk.look id).length=C.disk.size
 off:C.disk.off=false
 lit:C.disk.lit=false
 page:∀(i:Nat) (s:zL),C.slots[i]? = some s->s.full=true->0<=s.page.id/\s.page.id<C.disk.blocks/\zFc s.page C.disk.size
 pins:∀(i:Nat) (s:zL),C.slots[i]? = some s->s.pins=0
 one:∀(i j:Nat) (s t:zL),C.slots[i]? = some s->C.slots[j]? = some t->s.full=true->t.full=true->s.page.id=t.page.id->i=j
 clean:∀(i:Nat) (s:zL),C.slots[i]? = some s->s.full=true->s.dirty=false->zW (C.disk.look s.page.id.toNat) s.page.id=.inl s.page
theorem yC{s:zL}{id:Nat}:s.has id=true ↔ s.full=true/\s.page.id=(id:Int):=by simp[zL.has]
theorem yS.vw_at{C:qK}(h:yS C){i:Nat}{s:zL}{id:Nat}(hi:C.slots[i]? = some s)(hs:s.has id=true):C.vw id=.inl s.page:=by
 unfold qK.vw;cases hf:C.slots.find? (·.has id) with
 | none =>
  have:=List.find?_eq_none.1 hf s (uP hi);exact absurd hs this
 | some t =>
  have ht:=List.find?_some hf;obtain⟨j,hj,e⟩:=uR (List.mem_of_find?_eq_some hf);have hj2:C.slots[j]? = some t:=by rw[<- e];exact uA hj
  have h1:=yC.1 hs;have h2:=yC.1 ht;have:=h.one i j s t hi hj2 h1.1 h2.1 (by rw[h1.2,h2.2]);subst this;rw[hi] at hj2;injection hj2 with hj2;rw[hj2]
theorem vD{C:qK}{id:Nat}(h:∀(i:Nat) (s:zL),C.slots[i]? = some s->s.has id=false):C.vw id=zW (C.disk.look id) id:=by
 unfold qK.vw;have:C.slots.find? (·.has id)=none:=List.find?_eq_none.2 (λs hs=>by
  obtain⟨j,hj,e⟩:=uR hs;have:=h j s (by rw[<- e];exact uA hj);rw[this];simp)
 rw[this]
structure Sim(C C':qK):Prop where
 inv:yS C'
 blocks:C'.disk.blocks=C.disk.blocks
 size:C'.disk.size=C.disk.size
 lasting:C'.disk.lasting=C.disk.lasting
 vw:∀id:Nat,C'.vw id=C.vw id
 dirt:∀id:Nat,(∀(i:Nat) (s:zL),C.slots[i]? = some s->s.has id=true->s.dirty=false) ->
  C'.disk.look id=C.disk.look id/\(∀(i:Nat) (s:zL),C'.slots[i]? = some s->s.has id=true->s.dirty=false)/\∀p∈C'.disk.waiting,p.1=id->p∈C.disk.waiting
 cost:C'.cost<=C.cost
theorem Sim.refl{C:qK}(h:yS C):Sim C C:=⟨h,rfl,rfl,rfl,λ_=>rfl,λ_ h=>⟨rfl,h,λ_ h _=>h⟩,uI _⟩
theorem Sim.trans{C C1 C2:qK}(h:Sim C C1)(k:Sim C1 C2):Sim C C2 :=
 ⟨k.inv,k.blocks.trans h.blocks,k.size.trans h.size,k.lasting.trans h.lasting,λid=>(k.vw id).trans (h.vw id),
  λid hd=>by
   obtain⟨h1,h2,h3⟩:=h.dirt id hd;obtain⟨k1,k2,k3⟩:=k.dirt id h2;exact⟨k1.trans h1,k2,λp hp e=>h3 p (k3 p hp e) e⟩,uQ k.cost h.cost⟩
theorem zE{α:Type}{l:List α}{i j:Nat}{x y:α}(h:(l.set i x)[j]? = some y):(j=i/\y=x)\/(j≠i/\l[j]? = some y):=by
 by_cases e:j=i
 .subst e;rw[rD] at h;simp at h;exact .inl ⟨rfl,h.2.symm⟩
 .right
  rw[wE (λe'=>e e'.symm)] at h;exact⟨e,h⟩
theorem zAe{α:Type}{l:List α}{i:Nat}{x y:α}(h:l[i]? = some y):(l.set i x)[i]? = some x:=by
 rw[tR (uB.1 h).1]
theorem set_other{α:Type}{l:List α}{i j:Nat}{x y:α}(e:j≠i)(h:l[j]? = some y):(l.set i x)[j]? = some y:=by
 rw[wE (λe'=>e e'.symm)];exact h
theorem vT{α:Type}(f:α->Bool):∀(l:List α) (i:Nat) (x y:α),l[i]? = some y->(l.set i x).countP f+(if f y then 1 else 0)=l.countP f+(if f x then 1 else 0)
 | [],i,x,y,h=>by simp at h
 | a :: l,0,x,y,h=>by
  simp at h;subst h;simp only[List.set_cons_zero,List.countP_cons];omega
 | a :: l,i+1,x,y,h=>by
  have:=vT f l i x y (by simpa using h);simp only[List.set_cons_succ,List.countP_cons];omega
theorem zGF{C:qK}(h:yS C){i:Nat}{s:zL}(hi:C.slots[i]? = some s)(u:Bool):Sim C { C with slots:=C.slots.set i { s with used:=u } }:=by
 have hs:=(uB.1 hi).1;have inv:yS { C with slots:=C.slots.set i { s with used:=u } } :=
  ⟨by simpa using h.n3,by simpa using h.n64,by simpa using h.hand,h.s256,h.s1024,h.b8,h.b256,h.lenL,h.len,h.off,h.lit,
   λj t ht hf=>by rcases zE ht with ⟨_,rfl⟩|⟨_,ht⟩;exact h.page i s hi hf;exact h.page j t ht hf,
   λj t ht=>by rcases zE ht with ⟨_,rfl⟩|⟨_,ht⟩;exact h.pins i s hi;exact h.pins j t ht,
   λj k t t' ht ht' hf hf' he=>by
    rcases zE ht with ⟨ej,rfl⟩|⟨hj,ht⟩ <;> rcases zE ht' with ⟨ek,rfl⟩|⟨hk,ht'⟩
    .rw[ej,ek]
    .rw[ej];exact h.one i k s t' hi ht' hf hf' he
    .rw[ek];exact h.one j i t s ht hi hf hf' he
    .exact h.one j k t t' ht ht' hf hf' he,
   λj t ht hf hd=>by rcases zE ht with ⟨_,rfl⟩|⟨_,ht⟩;exact h.clean i s hi hf hd;exact h.clean j t ht hf hd⟩
 refine⟨inv,rfl,rfl,rfl,λid=>?_,λid hd=>⟨rfl,λj t ht hh=>?_,λp hp _=>hp⟩,?_⟩
 .by_cases hx:∃(j:Nat) (t:zL),C.slots[j]? = some t/\t.has id=true
  .obtain⟨j,t,hj,ht⟩:=hx;rw[h.vw_at hj ht];by_cases e:j=i
   .subst e;rw[hi] at hj;injection hj with hj;subst hj;exact inv.vw_at (i:=j) (s:={ s with used:=u }) (zAe hi) ht
   .exact inv.vw_at (i:=j) (s:=t) (set_other e hj) ht
  .have hn:∀(j:Nat) (t:zL),C.slots[j]? = some t->t.has id=false:=λj t hj=>by
    cases hb:t.has id with
    | false=>rfl
    | true=>exact absurd ⟨j,t,hj,hb⟩ hx
   rw[vD hn];exact vD (λj t hj=>by
    rcases zE hj with ⟨_,rfl⟩|⟨_,hj⟩
    .exact hn i s hi
    .exact hn j t hj)
 .rcases zE ht with ⟨_,rfl⟩|⟨_,ht⟩
  .exact hd i s hi hh
  .exact hd j t ht hh
 .unfold qK.cost;have:=vT (·.wet) C.slots i { s with used:=u } s hi;have e:({ s with used:=u }:zL).wet=s.wet:=rfl;rw[e] at this;show C.disk.waiting.length+(C.slots.set i { s with used:=u }).countP (·.wet)<=C.disk.waiting.length+C.slots.countP (·.wet);omega
theorem zJR{C:qK}(h:yS C){k:Nat}(hk:k<C.slots.length):Sim C { C with hand:=k } :=
 ⟨⟨h.n3,h.n64,hk,h.s256,h.s1024,h.b8,h.b256,h.lenL,h.len,h.off,h.lit,h.page,h.pins,h.one,h.clean⟩,rfl,rfl,rfl,λ_=>rfl,λ_ hd=>⟨rfl,hd,λ_ hp _=>hp⟩,uI _⟩
theorem zE7{C:qK}(h:yS C){i:Nat}{s:zL}(hi:C.slots[i]? = some s)(hw:s.wet=false):Sim C { C with slots:=C.slots.set i yI }:=by
 have inv:yS { C with slots:=C.slots.set i yI } :=
  ⟨by simpa using h.n3,by simpa using h.n64,by simpa using h.hand,h.s256,h.s1024,h.b8,h.b256,h.lenL,h.len,h.off,h.lit,
   λj t ht hf=>by rcases zE ht with ⟨_,rfl⟩|⟨_,ht⟩;exact absurd hf (by simp[yI]);exact h.page j t ht hf,
   λj t ht=>by rcases zE ht with ⟨_,rfl⟩|⟨_,ht⟩;rfl;exact h.pins j t ht,
   λj k t t' ht ht' hf hf' he=>by
    rcases zE ht with ⟨rfl,rfl⟩|⟨hj,ht⟩
    .exact absurd hf (by simp[yI])
    .rcases zE ht' with ⟨rfl,rfl⟩|⟨hk,ht'⟩
     .exact absurd hf' (by simp[yI])
     .exact h.one j k t t' ht ht' hf hf' he,
   λj t ht hf hd=>by rcases zE ht with ⟨_,rfl⟩|⟨_,ht⟩;exact absurd hf (by simp[yI]);exact h.clean j t ht hf hd⟩
 refine⟨inv,rfl,rfl,rfl,λid=>?_,λid hd=>⟨rfl,λj t ht hh=>?_,λp hp _=>hp⟩,?_⟩
 .by_cases hx:∃(j:Nat) (t:zL),C.slots[j]? = some t/\t.has id=true
  .obtain⟨j,t,hj,ht⟩:=hx;rw[h.vw_at hj ht];by_cases e:j=i
   .subst e;rw[hi] at hj;injection hj with hj;subst hj;obtain⟨hf,hid⟩:=yC.1 ht;have hd:s.dirty=false:=by simpa[zL.wet,hf] using hw
    have hc:=h.clean j s hi hf hd;rw[hid,uL] at hc;rw[<- hc];exact vD (λk t hk=>by
     rcases zE hk with ⟨_,rfl⟩|⟨hne,hk⟩
     .rfl
     .cases hb:t.has id with
      | false=>rfl
      | true =>
       have h2:=yC.1 hb;exact absurd (h.one k j t s hk hi h2.1 hf (by rw[h2.2,hid])) hne)
   .exact inv.vw_at (i:=j) (s:=t) (set_other e hj) ht
  .have hn:∀(j:Nat) (t:zL),C.slots[j]? = some t->t.has id=false:=λj t hj=>by
    cases hb:t.has id with
    | false=>rfl
    | true=>exact absurd ⟨j,t,hj,hb⟩ hx
   rw[vD hn];exact vD (λj t hj=>by
    rcases zE hj with ⟨_,rfl⟩|⟨_,hj⟩
    .rfl
    .exact hn j t hj)
 .rcases zE ht with ⟨_,rfl⟩|⟨_,ht⟩
  .rfl
  .exact hd j t ht hh
 .unfold qK.cost;have:=vT (·.wet) C.slots i yI s hi;have e:yI.wet=false:=rfl;rw[e] at this;show C.disk.waiting.length+(C.slots.set i yI).countP (·.wet)<=C.disk.waiting.length+C.slots.countP (·.wet);simp at this;split at this <;> omega
theorem zJS{C:qK}(h:yS C){i:Nat}{s:zL}(hi:C.slots[i]? = some s)(hs:s.full=false)(id:Nat)(hid:id<C.disk.blocks)(hno:∀(j:Nat) (t:zL),C.slots[j]? = some t->t.has id=false)(p:zX)
  (hp:zW (C.disk.look id) id=.inl p) (hpi:p.id=(id:Int)) (hok:zFc p C.disk.size):Sim C { C with slots:=C.slots.set i ⟨p,true,false,true,0⟩ }:=by
 have inv:yS { C with slots:=C.slots.set i ⟨p,true,false,true,0⟩ } :=
  ⟨by simpa using h.n3,by simpa using h.n64,by simpa using h.hand,h.s256,h.s1024,h.b8,h.b256,h.lenL,h.len,h.off,h.lit,
   λj t ht hf=>by rcases zE ht with ⟨_,rfl⟩|⟨_,ht⟩;exact⟨by simp only[hpi];omega,by simp only[hpi];exact Int.ofNat_lt.2 hid,hok⟩;exact h.page j t ht hf,
   λj t ht=>by rcases zE ht with ⟨_,rfl⟩|⟨_,ht⟩;rfl;exact h.pins j t ht,
   λj k t t' ht ht' hf hf' he=>by
    rcases zE ht with ⟨ej,rfl⟩|⟨hj,ht⟩ <;> rcases zE ht' with ⟨ek,rfl⟩|⟨hk,ht'⟩
    .rw[ej,ek]
    .have:=hno k t' ht';rw[show t'.has id=true from yC.2 ⟨hf',by rw[<- he];exact hpi⟩] at this;cases this
    .have:=hno j t ht;rw[show t.has id=true from yC.2 ⟨hf,by rw[he];exact hpi⟩] at this;cases this
    .exact h.one j k t t' ht ht' hf hf' he,
   λj t ht hf hd=>by rcases zE ht with ⟨_,rfl⟩|⟨_,ht⟩;(simp only[hpi,uL];exact hp);exact h.clean j t ht hf hd⟩
 refine⟨inv,rfl,rfl,rfl,λid'=>?_,λid' hd=>⟨rfl,λj t ht hh=>?_,λp hp _=>hp⟩,?_⟩
 .by_cases hx:∃(j:Nat) (t:zL),C.slots[j]? = some t/\t.has id'=true
  .obtain⟨j,t,hj,ht⟩:=hx;rw[h.vw_at hj ht];by_cases e:j=i
   .subst e;rw[hi] at hj;injection hj with hj;subst hj;rw[zL.has,hs] at ht;simp at ht
   .exact inv.vw_at (i:=j) (s:=t) (set_other e hj) ht
  .have hn:∀(j:Nat) (t:zL),C.slots[j]? = some t->t.has id'=false:=λj t hj=>by
    cases hb:t.has id' with
    | false=>rfl
    | true=>exact absurd ⟨j,t,hj,hb⟩ hx
   rw[vD hn];by_cases e:id'=id
   .subst e;rw[hp];exact inv.vw_at (i:=i) (s:=⟨p,true,false,true,0⟩) (zAe hi) (yC.2 ⟨rfl,hpi⟩)
   .exact vD (λj t hj=>by
     rcases zE hj with ⟨_,rfl⟩|⟨_,hj⟩
     .cases hb:zL.has ⟨p,true,false,true,0⟩ id' with
      | false=>rfl
      | true =>
       have:=(yC.1 hb).2;simp only[hpi] at this;omega
     .exact hn j t hj)
 .rcases zE ht with ⟨_,rfl⟩|⟨_,ht⟩
  .rfl
  .exact hd j t ht hh
 .unfold qK.cost;have:=vT (·.wet) C.slots i ⟨p,true,false,true,0⟩ s hi;have e:zL.wet ⟨p,true,false,true,0⟩=false:=rfl;rw[e] at this;show C.disk.waiting.length+(C.slots.set i ⟨p,true,false,true,0⟩).countP (·.wet)<=C.disk.waiting.length+C.slots.countP (·.wet);simp at this;split at this <;> omega
def zH.wrote(D:zH)(i:Nat)(b:List UInt8):zH:={ D with waiting:=D.waiting++[(i,b)],after:=RowKit.wrap64 (D.after-1),count:=RowKit.wrap64 (D.count+1) }
theorem zAO(D:zH)(i:Nat)(b:List UInt8)(j:Nat):(D.wrote i b).look j=if i=j then b else D.look j:=by
 unfold zH.look zH.wrote;simp only[zC3,jO];by_cases e:i=j
 .simp[e]
 .simp[e]
def jE(C:qK)(i:Nat)(s:zL):qK:={ C with disk:=C.disk.wrote s.page.id.toNat (jB s.page C.disk.size),slots:=C.slots.set i { s with dirty:=false } }
theorem zIN{C:qK}(h:yS C){i:Nat}{s:zL}(hi:C.slots[i]? = some s)(hf:s.full=true)(hd:s.dirty=true):Sim C (jE C i s):=by
 obtain⟨hp0,hp1,hok⟩:=h.page i s hi hf;obtain⟨id,hid⟩:∃id:Nat,s.page.id=(id:Int):=⟨s.page.id.toNat,by omega⟩;have hopen:=zB1 hok.1 hok.2;have hself:s.has id=true:=yC.2 ⟨hf,hid⟩;have uniq:∀(j:Nat) (t:zL),C.slots[j]? = some t->t.has id=true->j=i:=λj t hj ht=>by
  have h2:=yC.1 ht;exact h.one j i t s hj hi h2.1 hf (by rw[h2.2,hid])
 have look2:∀j,(jE C i s).disk.look j=if id=j then jB s.page C.disk.size else C.disk.look j:=λj=>by
  unfold jE;simp only[hid,uL];exact zAO _ _ _ _
 have inv:yS (jE C i s) :=
  ⟨by simpa[jE] using h.n3,by simpa[jE] using h.n64,by simpa[jE] using h.hand,h.s256,h.s1024,h.b8,h.b256,h.lenL,λj hj=>by rw[look2];split;(exact vC _ _ (by have:=qF hok.1;omega));exact h.len j hj,h.off,h.lit,
   λj t ht hf=>by rcases zE ht with ⟨_,rfl⟩|⟨_,ht⟩;exact h.page i s hi hf;exact h.page j t ht hf,
   λj t ht=>by rcases zE ht with ⟨_,rfl⟩|⟨_,ht⟩;exact h.pins i s hi;exact h.pins j t ht,
   λj k t t' ht ht' hf hf' he=>by
    rcases zE ht with ⟨ej,rfl⟩|⟨hj,ht⟩ <;> rcases zE ht' with ⟨ek,rfl⟩|⟨hk,ht'⟩
    .rw[ej,ek]
    .rw[ej];exact h.one i k s t' hi ht' hf hf' he
    .rw[ek];exact h.one j i t s ht hi hf hf' he
    .exact h.one j k t t' ht ht' hf hf' he,
   λj t ht hft hdt=>by
    rw[look2];rcases zE ht with ⟨_,rfl⟩|⟨hne,ht⟩
    .rw[if_pos (by simp only[hid];omega)];exact hopen
    .obtain⟨q0,_,_⟩:=h.page j t ht hft;rw[if_neg (λe=>hne (uniq j t ht (yC.2 ⟨hft,by omega⟩)))];exact h.clean j t ht hft hdt⟩
 refine⟨inv,rfl,rfl,rfl,λid'=>?_,λid' hdd=>?_,?_⟩
 .by_cases hx:∃(j:Nat) (t:zL),C.slots[j]? = some t/\t.has id'=true
  .obtain⟨j,t,hj,ht⟩:=hx;rw[h.vw_at hj ht];by_cases e:j=i
   .subst e;rw[hi] at hj;injection hj with hj;subst hj;exact inv.vw_at (i:=j) (s:={ s with dirty:=false }) (zAe hi) ht
   .exact inv.vw_at (i:=j) (s:=t) (set_other e hj) ht
  .have hn:∀(j:Nat) (t:zL),C.slots[j]? = some t->t.has id'=false:=λj t hj=>by
    cases hb:t.has id' with
    | false=>rfl
    | true=>exact absurd ⟨j,t,hj,hb⟩ hx
   have hne:id≠id':=λe=>by have:=hn i s hi;rw[<- e,hself] at this;cases this
   rw[vD hn,vD (λj t hj=>by
    rcases zE hj with ⟨_,rfl⟩|⟨_,hj⟩
    .exact hn i s hi
    .exact hn j t hj),look2,if_neg hne]
 .have hne:id≠id':=λe=>by have:=hdd i s hi (e ▸ hself);rw[hd] at this;cases this
  refine⟨by rw[look2,if_neg hne],λj t ht hh=>?_,λp hp e=>?_⟩
  .rcases zE ht with ⟨_,rfl⟩|⟨_,ht⟩
   .rfl
   .exact hdd j t ht hh
  .have:p∈C.disk.waiting++[(s.page.id.toNat,jB s.page C.disk.size)]:=hp;rw[wM] at this;rcases this with hp|hp
   .exact hp
   .simp at hp;subst hp;simp only[hid,uL] at e;exact absurd e hne
 .unfold qK.cost;have:=vT (·.wet) C.slots i { s with dirty:=false } s hi;have e:zL.wet { s with dirty:=false }=false:=by simp[zL.wet]
  have e2:s.wet=true:=by simp[zL.wet,hf,hd]
  rw[e,e2] at this;have e3:(jE C i s).disk.waiting.length=C.disk.waiting.length+1:=by simp[jE,zH.wrote]
  rw[e3];show _+(C.slots.set i { s with dirty:=false }).countP _<=_;simp at this;omega
structure GA where
 blocks:Nat
 size:Nat
 view:Nat->Option (zX ⊕ (List Int × Nat))
 look:Nat->Option (List UInt8)
 last:Nat->Option (List UInt8)
 cost:Nat
structure zAC(C:qK)(G:GA):Prop where
 blocks:C.disk.blocks=G.blocks
 size:C.disk.size=G.size
 view:∀id r,G.view id=some r->C.vw id=r
 look:∀id b,G.look id=some b->C.disk.look id=b/\∀(i:Nat) (s:zL),C.slots[i]? = some s->s.has id=true->s.dirty=false
 last:∀id b,G.last id=some b->C.disk.lasting.getD id []=b/\(∀p∈C.disk.waiting,p.1≠id)/\∀(i:Nat) (s:zL),C.slots[i]? = some s->s.has id=true->s.dirty=false
 cost:C.cost<=G.cost
theorem Sim.rel{C C':qK}(h:Sim C C'){G:GA}(k:zAC C G):zAC C' G :=
 ⟨h.blocks.trans k.blocks,h.size.trans k.size,λid r hr=>(h.vw id).trans (k.view id r hr),
  λid b hb=>by
   obtain⟨k1,k2⟩:=k.look id b hb;obtain⟨h1,h2,_⟩:=h.dirt id k2;exact⟨h1.trans k1,h2⟩,
  λid b hb=>by
   obtain⟨k1,k2,k3⟩:=k.last id b hb;obtain⟨_,h2,h3⟩:=h.dirt id k3;exact⟨by rw[h.lasting];exact k1,λp hp e=>k2 p (h3 p hp e) e,h2⟩,
  uQ h.cost k.cost⟩
def upd{α:Type}(f:Nat->α)(i:Nat)(x:α):Nat->α:=λj=>if j=i then x else f j
theorem zBY{α:Type}(f:Nat->α)(i:Nat)(x:α):upd f i x i=x:=by simp[upd]
theorem zCf{α:Type}(f:Nat->α){i j:Nat}(x:α)(h:j≠i):upd f i x j=f j:=by simp[upd,h]
def zED(o:Option (List UInt8))(id:Nat):Option (zX ⊕ (List Int × Nat)):=o.map λb=>zW b id
def GA.put(G:GA)(p:zX):GA:={ G with view:=upd G.view p.id.toNat (some (.inl p)),look:=upd G.look p.id.toNat none,last:=upd G.last p.id.toNat none,cost:=G.cost+1 }
def GA.drop(G:GA)(id:Nat):GA:={ G with view:=upd G.view id (zED (G.look id) id) }
def zFd(C:qK)(i:Nat)(p:zX):qK:={ C with slots:=C.slots.set i ⟨p,true,true,true,0⟩ }
theorem zHy{C:qK}{G:GA}(h:yS C)(k:zAC C G){i:Nat}{s:zL}(hi:C.slots[i]? = some s)(p:zX)(id:Nat)(hpi:p.id=(id:Int))(hid:id<C.disk.blocks)(hok:zFc p C.disk.size)
  (hx:s.has id=true\/(s.full=false/\∀(j:Nat) (t:zL),C.slots[j]? = some t->t.has id=false)):yS (zFd C i p)/\zAC (zFd C i p) (G.put p):=by
 have hoth:∀(j:Nat) (t:zL),C.slots[j]? = some t->j≠i->t.has id=false:=λj t hj hne=>by
  rcases hx with hx|⟨_,hx⟩
  .cases hb:t.has id with
   | false=>rfl
   | true =>
    have h1:=yC.1 hx;have h2:=yC.1 hb;exact absurd (h.one j i t s hj hi h2.1 h1.1 (by rw[h1.2,h2.2])) hne
  .exact hx j t hj
 have hself:zL.has ⟨p,true,true,true,0⟩ id=true:=yC.2 ⟨rfl,hpi⟩;have inv:yS (zFd C i p) :=
  ⟨by simpa[zFd] using h.n3,by simpa[zFd] using h.n64,by simpa[zFd] using h.hand,h.s256,h.s1024,h.b8,h.b256,h.lenL,h.len,h.off,h.lit,
   λj t ht hf=>by rcases zE ht with ⟨_,rfl⟩|⟨_,ht⟩;exact⟨by simp only[hpi];omega,by simp only[hpi];exact Int.ofNat_lt.2 hid,hok⟩;exact h.page j t ht hf,
   λj t ht=>by rcases zE ht with ⟨_,rfl⟩|⟨_,ht⟩;rfl;exact h.pins j t ht,
   λj k t t' ht ht' hf hf' he=>by
    rcases zE ht with ⟨ej,rfl⟩|⟨hj,ht⟩ <;> rcases zE ht' with ⟨ek,rfl⟩|⟨hk,ht'⟩
    .rw[ej,ek]
    .have:=hoth k t' ht' hk;rw[show t'.has id=true from yC.2 ⟨hf',by rw[<- he];exact hpi⟩] at this;cases this
    .have:=hoth j t ht hj;rw[show t.has id=true from yC.2 ⟨hf,by rw[he];exact hpi⟩] at this;cases this
    .exact h.one j k t t' ht ht' hf hf' he,
   λj t ht hf hd=>by rcases zE ht with ⟨_,rfl⟩|⟨_,ht⟩;cases hd;exact h.clean j t ht hf hd⟩
 have hidn:p.id.toNat=id:=by omega
 have clean:∀id',id'≠id->(∀(j:Nat) (t:zL),C.slots[j]? = some t->t.has id'=true->t.dirty=false)->∀(j:Nat) (t:zL),(zFd C i p).slots[j]? = some t->t.has id'=true->t.dirty=false:=λid' hne hc j t ht hh=>by
  rcases zE ht with ⟨_,rfl⟩|⟨_,ht⟩
  .have:=(yC.1 hh).2;simp only[hpi] at this;omega
  .exact hc j t ht hh
 refine⟨inv,k.blocks,k.size,λid' r hr=>?_,λid' b hb=>?_,λid' b hb=>?_,?_⟩
 .unfold GA.put at hr;simp only[hidn] at hr;by_cases e:id'=id
  .subst e;rw[zBY] at hr;injection hr with hr;rw[<- hr];exact inv.vw_at (i:=i) (s:=⟨p,true,true,true,0⟩) (zAe hi) hself
  .rw[zCf _ _ e] at hr;rw[<- k.view id' r hr];by_cases hx2:∃(j:Nat) (t:zL),C.slots[j]? = some t/\t.has id'=true
   .obtain⟨j,t,hj,ht⟩:=hx2;rw[h.vw_at hj ht];have hne:j≠i:=by
     rintro rfl;rw[hi] at hj;injection hj with hj;subst hj;rcases hx with hx|⟨hx,_⟩
     .have h1:=(yC.1 hx).2;have h2:=(yC.1 ht).2;omega
     .rw[zL.has,hx] at ht;simp at ht
    exact inv.vw_at (i:=j) (s:=t) (set_other hne hj) ht
   .have hn:∀(j:Nat) (t:zL),C.slots[j]? = some t->t.has id'=false:=λj t hj=>by
     cases hb:t.has id' with
     | false=>rfl
     | true=>exact absurd ⟨j,t,hj,hb⟩ hx2
    rw[vD hn];exact vD (λj t hj=>by
     rcases zE hj with ⟨_,rfl⟩|⟨_,hj⟩
     .cases hb:zL.has ⟨p,true,true,true,0⟩ id' with
      | false=>rfl
      | true =>
       have:=(yC.1 hb).2;simp only[hpi] at this;omega
     .exact hn j t hj)
 .unfold GA.put at hb;simp only[hidn] at hb;by_cases e:id'=id
  .subst e;rw[zBY] at hb;cases hb
  .rw[zCf _ _ e] at hb;obtain⟨k1,k2⟩:=k.look id' b hb;exact⟨k1,clean id' e k2⟩
 .unfold GA.put at hb;simp only[hidn] at hb;by_cases e:id'=id
  .subst e;rw[zBY] at hb;cases hb
  .rw[zCf _ _ e] at hb;obtain⟨k1,k2,k3⟩:=k.last id' b hb;exact⟨k1,k2,clean id' e k3⟩
 .have hc:=k.cost;unfold qK.cost at hc ⊢;have:=vT (·.wet) C.slots i ⟨p,true,true,true,0⟩ s hi;have e:zL.wet ⟨p,true,true,true,0⟩=true:=rfl;rw[e] at this;show C.disk.waiting.length+(C.slots.set i ⟨p,true,true,true,0⟩).countP (·.wet)<=G.cost+1;simp at this;split at this <;> omega
theorem zKd{C:qK}(h:yS C){i:Nat}{s:zL}(hi:C.slots[i]? = some s)(p:zX)(id:Nat)(hpi:p.id=(id:Int))(hid:id<C.disk.blocks)(hok:zFc p C.disk.size)
  (hx:s.has id=true\/(s.full=false/\∀(j:Nat) (t:zL),C.slots[j]? = some t->t.has id=false)):yS (zFd C i p) :=
 (zHy (G:=⟨C.disk.blocks,C.disk.size,λ_=>none,λ_=>none,λ_=>none,C.cost⟩) h ⟨rfl,rfl,(λ_ _ h=>by cases h),(λ_ _ h=>by cases h),(λ_ _ h=>by cases h),uI _⟩ hi p id hpi hid hok hx).1
theorem zJT{C:qK}{G:GA}(h:yS C)(k:zAC C G){i:Nat}{s:zL}{id:Nat}(hi:C.slots[i]? = some s)(hs:s.has id=true):yS { C with slots:=C.slots.set i yI }/\zAC { C with slots:=C.slots.set i yI } (G.drop id):=by
 obtain⟨hf,hid⟩:=yC.1 hs;have inv:yS { C with slots:=C.slots.set i yI } :=
  ⟨by simpa using h.n3,by simpa using h.n64,by simpa using h.hand,h.s256,h.s1024,h.b8,h.b256,h.lenL,h.len,h.off,h.lit,
   λj t ht hf=>by rcases zE ht with ⟨_,rfl⟩|⟨_,ht⟩;exact absurd hf (by simp[yI]);exact h.page j t ht hf,
   λj t ht=>by rcases zE ht with ⟨_,rfl⟩|⟨_,ht⟩;rfl;exact h.pins j t ht,
   λj k t t' ht ht' hf hf' he=>by
    rcases zE ht with ⟨rfl,rfl⟩|⟨hj,ht⟩
    .exact absurd hf (by simp[yI])
    .rcases zE ht' with ⟨rfl,rfl⟩|⟨hk,ht'⟩
     .exact absurd hf' (by simp[yI])
     .exact h.one j k t t' ht ht' hf hf' he,
   λj t ht hf hd=>by rcases zE ht with ⟨_,rfl⟩|⟨_,ht⟩;exact absurd hf (by simp[yI]);exact h.clean j t ht hf hd⟩
 have clean:∀id',(∀(j:Nat) (t:zL),C.slots[j]? = some t->t.has id'=true->t.dirty=false)->∀(j:Nat) (t:zL),(C.slots.set i yI)[j]? = some t->t.has id'=true->t.dirty=false:=λid' hc j t ht hh=>by
  rcases zE ht with ⟨_,rfl⟩|⟨_,ht⟩
  .rfl
  .exact hc j t ht hh
 refine⟨inv,k.blocks,k.size,λid' r hr=>?_,λid' b hb=>?_,λid' b hb=>?_,?_⟩
 .unfold GA.drop at hr;simp only at hr;by_cases e:id'=id
  .subst e;rw[zBY] at hr;unfold zED at hr;obtain⟨b,hb,hr⟩:=tJ.1 hr;rw[<- hr,<- (k.look id' b hb).1];exact vD (λj t hk=>by
     rcases zE hk with ⟨_,rfl⟩|⟨hne,hk⟩
     .rfl
     .cases hb:t.has id' with
      | false=>rfl
      | true =>
       have h2:=yC.1 hb;exact absurd (h.one j i t s hk hi h2.1 hf (by rw[h2.2,hid])) hne)
  .rw[zCf _ _ e] at hr;rw[<- k.view id' r hr];by_cases hx2:∃(j:Nat) (t:zL),C.slots[j]? = some t/\t.has id'=true
   .obtain⟨j,t,hj,ht⟩:=hx2;rw[h.vw_at hj ht];have hne:j≠i:=by
     rintro rfl;rw[hi] at hj;injection hj with hj;subst hj;have h2:=(yC.1 ht).2;omega
    exact inv.vw_at (i:=j) (s:=t) (set_other hne hj) ht
   .have hn:∀(j:Nat) (t:zL),C.slots[j]? = some t->t.has id'=false:=λj t hj=>by
     cases hb:t.has id' with
     | false=>rfl
     | true=>exact absurd ⟨j,t,hj,hb⟩ hx2
    rw[vD hn];exact vD (λj t hj=>by
     rcases zE hj with ⟨_,rfl⟩|⟨_,hj⟩
     .rfl
     .exact hn j t hj)
 .obtain⟨k1,k2⟩:=k.look id' b hb;exact⟨k1,clean id' k2⟩
 .obtain⟨k1,k2,k3⟩:=k.last id' b hb;exact⟨k1,k2,clean id' k3⟩
 .have hc:=k.cost;unfold qK.cost at hc ⊢;have:=vT (·.wet) C.slots i yI s hi;have e:yI.wet=false:=rfl;rw[e] at this;show C.disk.waiting.length+(C.slots.set i yI).countP (·.wet)<=G.cost;simp at this;split at this <;> omega
theorem zIP{C:qK}(h:yS C){i:Nat}{s:zL}(_:C.slots[i]? = some s):yS { C with slots:=C.slots.set i yI } :=
 ⟨by simpa using h.n3,by simpa using h.n64,by simpa using h.hand,h.s256,h.s1024,h.b8,h.b256,h.lenL,h.len,h.off,h.lit,
   λj t ht hf=>by rcases zE ht with ⟨_,rfl⟩|⟨_,ht⟩;exact absurd hf (by simp[yI]);exact h.page j t ht hf,
   λj t ht=>by rcases zE ht with ⟨_,rfl⟩|⟨_,ht⟩;rfl;exact h.pins j t ht,
   λj k t t' ht ht' hf hf' he=>by
    rcases zE ht with ⟨rfl,rfl⟩|⟨hj,ht⟩
    .exact absurd hf (by simp[yI])
    .rcases zE ht' with ⟨rfl,rfl⟩|⟨hk,ht'⟩
     .exact absurd hf' (by simp[yI])
     .exact h.one j k t t' ht ht' hf hf' he,
   λj t ht hf hd=>by rcases zE ht with ⟨_,rfl⟩|⟨_,ht⟩;exact absurd hf (by simp[yI]);exact h.clean j t ht hf hd⟩
theorem zGG{C:qK}{G:GA}(k:zAC C G){id:Nat}(hn:∀(j:Nat) (t:zL),C.slots[j]? = some t->t.has id=false):zAC C (G.drop id):=by
 refine⟨k.blocks,k.size,λid' r hr=>?_,k.look,k.last,k.cost⟩;unfold GA.drop at hr;simp only at hr;by_cases e:id'=id
 .subst e;rw[zBY] at hr;unfold zED at hr;obtain⟨b,hb,hr⟩:=tJ.1 hr;rw[<- hr,<- (k.look id' b hb).1];exact vD hn
 .rw[zCf _ _ e] at hr;exact k.view id' r hr
def zAu(C:qK):qK:={ C with slots:=List.replicate C.slots.length yI,hand:=0 }
theorem zBQ{n j:Nat}{t:zL}(h:(List.replicate n yI)[j]? = some t):t=yI:=by
 rw[wL] at h;split at h
 .injection h with h;exact h.symm
 .cases h
theorem zIQ(D:zH)(n:Nat)(h3:3<=n)(h64:n<=64)(s256:256<=D.size)(s1024:D.size<=1024)(b8:8<=D.blocks)(b256:D.blocks<=256)(lenL:D.lasting.length=D.blocks)
  (len:∀id:Nat,id<D.blocks->(D.look id).length=D.size) (off:D.off=false) (lit:D.lit=false):yS ⟨D,List.replicate n yI,0⟩ :=
 ⟨by simpa using h3,by simpa using h64,by simp;omega,s256,s1024,b8,b256,lenL,len,off,lit,
  λj t ht hf=>by (rw[zBQ ht] at hf;cases hf),λj t ht=>by (rw[zBQ ht];rfl),
  λj k t t' ht _ hf _ _=>by (rw[zBQ ht] at hf;cases hf),λj t ht hf _=>by (rw[zBQ ht] at hf;cases hf)⟩
theorem zIR(n:Nat):(List.replicate n yI).countP (·.wet)=0:=by
 rw[List.countP_replicate];rfl
theorem zIS(D:zH)(n:Nat)(G:GA)(hb:D.blocks=G.blocks)(hs:D.size=G.size)(hv:∀id r,G.view id=some r->zW (D.look id) id=r)(hl:∀id b,G.look id=some b->D.look id=b)
  (ht:∀id b,G.last id=some b->D.lasting.getD id []=b/\∀p∈D.waiting,p.1≠id) (hc:D.waiting.length<=G.cost):zAC ⟨D,List.replicate n yI,0⟩ G :=
 ⟨hb,hs,λid r hr=>by rw[vD (λj t hj=>by rw[zBQ hj];rfl)];exact hv id r hr,
  λid b h=>⟨hl id b h,λj t hj hh=>by rw[zBQ hj];rfl⟩,λid b h=>⟨(ht id b h).1,(ht id b h).2,λj t hj hh=>by rw[zBQ hj];rfl⟩,
  by unfold qK.cost;simp only[zIR];omega⟩
theorem zG4{b:List UInt8}{id:Int}{p:zX}(h:zW b id=.inl p):zFc p b.length/\p.id=id/\jB p b.length=b:=by
 unfold zW at h;split at h
 .cases h
 .rename_i ho;split at h
  .cases h
  .rename_i hid;injection h with h;subst h;simp only[rC] at ho;unfold zBC at ho;simp only[uF,uM] at ho;exact⟨⟨ho.1,zCO b⟩,by simpa using hid,ho.2⟩
theorem zGH{D:zH}{id:Nat}(hl:D.lasting.length=D.blocks)(hw:∀p∈D.waiting,p.1<D.blocks)(hid:D.blocks<=id):D.look id=[]:=by
 unfold zH.look;rw[zBe id _ (λp hp e=>by have:=hw p hp;omega)];simp[List.getD,wT (by omega:D.lasting.length<=id)]
theorem zAX:∀(w:List (Nat × List UInt8)) (l:List (List UInt8)),(settle l w).length=l.length
 | [],_=>rfl
 | (i,b) :: w,l=>by rw[settle,zAX w,tI]
theorem zEE:∀(w:List (Nat × List UInt8)) (l:List (List UInt8)) (i:Nat),i<l.length->(settle l w).getD i []=(jO i w).getD (l.getD i [])
 | [],l,i,_=>rfl
 | (j,b) :: w,l,i,hi=>by
  rw[settle,zEE w (l.set j b) i (by rw[tI];exact hi),jO];cases jO i w with
  | some c=>rfl
  | none =>
   by_cases e:j=i
   .subst e;simp[List.getD,hi]
   .simp[List.getD,wE e,e]
def zH.flushed(D:zH):zH:={ D with lasting:=settle D.lasting D.waiting,waiting:=[],after:=RowKit.wrap64 (D.after-1),count:=RowKit.wrap64 (D.count+1) }
theorem zFe{D:zH}(hl:D.lasting.length=D.blocks)(hw:∀p∈D.waiting,p.1<D.blocks)(id:Nat):D.flushed.look id=D.look id:=by
 by_cases hid:id<D.blocks
 .show (jO id []).getD ((settle D.lasting D.waiting).getD id [])=_;rw[zEE _ _ _ (by omega)];rfl
 .rw[zGH hl hw (by omega),zGH (D:=D.flushed) (by show (settle _ _).length=_;rw[zAX];exact hl) (λp hp=>by cases hp) (by show D.blocks<=id;omega)]
end
end Go.Proofs.YtgphfebjjedeaaaGreatDoor
