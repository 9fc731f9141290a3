import Derived.WalkSpells
import Derived.WalkLawsBesides
import Derived.Handy
namespace Go.Proofs.YteabpacpngaoaaaGreatDoor
section
open Go.RowKit
theorem zJh{k:IntKind}{a b:Int}(h:a=b):Ending.returned (.int k a)=.returned (.int k b):=by rw[h]
theorem yB{a b:Bool}(h:a=b):Ending.returned (.bool a)=.returned (.bool b):=by rw[h]
theorem zCj{k:IntKind}{a b:Int}(h:a=b):Value.int k a=.int k b:=by rw[h]
theorem yH{w:World}{b o:Nat}{v:Value}(h:w.cell? ⟨b,o,none⟩=some v):b<w.heap.size:=World.block_lt_of_cell? w ⟨b,o,none⟩ h
theorem zM{w:World}{b o:Nat}{v:Value}(h:w.cell? ⟨b,o,none⟩=some v)(x:Obj):(w.alloc x).cell? ⟨b,o,none⟩=some v :=
 (World.cell?_of_block (w:=w) (Below.heap_alloc w x b (yH h))).trans h
theorem qO{w:World}{b:Nat}{c:Array Value}{t:TypeId}{fz:Nat × Nat}(h:w.heap[b]? = some (.cells c t fz))(o:Nat):w.cell? ⟨b,o,none⟩=c[o]?:=by
 simp[World.cell?,h]
theorem zR{w:World}{o:Obj}{b:Nat}(h:b=w.heap.size):(w.alloc o).heap[b]? = some o:=by subst h;exact heap_alloc_new w o
structure zA(F:Nat->Prop)(w w':World):Prop where
 os:w'.os=w.os
 tape:w'.tape=w.tape
 output:w'.output=w.output
 size:w.heap.size<=w'.heap.size
 block:∀k,k<w.heap.size->¬ F k->w'.heap[k]? = w.heap[k]?
abbrev zF(w w':World):Prop:=zA (λ_=>False) w w'
section
variable {F G:Nat->Prop}{w w1 w2 w':World}
theorem zA.refl(F:Nat->Prop)(w:World):zA F w w:=⟨rfl,rfl,rfl,Nat.le_refl _,λ_ _ _=>rfl⟩
theorem zA.trans(h:zA F w w1)(k:zA F w1 w2):zA F w w2 :=
 ⟨k.os.trans h.os,k.tape.trans h.tape,k.output.trans h.output,Nat.le_trans h.size k.size,λi hi hn=>(k.block i (Nat.lt_of_lt_of_le hi h.size) hn).trans (h.block i hi hn)⟩
theorem zA.trans'(h:zA F w w1)(k:zA G w1 w2)(hG:∀i,i<w.heap.size->G i->F i):zA F w w2 :=
 ⟨k.os.trans h.os,k.tape.trans h.tape,k.output.trans h.output,Nat.le_trans h.size k.size,λi hi hn=>(k.block i (Nat.lt_of_lt_of_le hi h.size) (λg=>hn (hG i hi g))).trans (h.block i hi hn)⟩
theorem zA.mono(h:zA F w w')(hG:∀i,F i->G i):zA G w w':=⟨h.os,h.tape,h.output,h.size,λi hi hn=>h.block i hi (λf=>hn (hG i f))⟩
theorem zA.drew(h:zA F w w1):zA F w w1.drew:=⟨h.os,h.tape,h.output,h.size,h.block⟩
theorem zA.drewN(h:zA F w w1)(n:Nat):zA F w (w1.drewN n):=⟨h.os,h.tape,h.output,h.size,h.block⟩
theorem zA.alloc(h:zA F w w1)(o:Obj):zA F w (w1.alloc o) :=
 ⟨h.os,h.tape,h.output,Nat.le_trans h.size (by simp),λi hi hn=>(Below.heap_alloc _ _ _ (Nat.lt_of_lt_of_le hi h.size)).trans (h.block i hi hn)⟩
theorem zA.setCell(h:zA F w w1){p:Addr}(hp:w.heap.size<=p.block\/F p.block)(u:Value):zA F w (w1.setCell p u) :=
 ⟨h.os,h.tape,h.output,Nat.le_trans h.size (by simp[World.setCell]),λi hi hn=>(Below.heap_setCell _ _ _ _ (by rintro rfl;rcases hp with hp|hp;omega;exact hn hp)).trans (h.block i hi hn)⟩
theorem zA.grown{row:Option Nat}(h:zA F w w1)(hg:w1.grownBy w2 row)(hr:∀k,row=some k->w.heap.size<=k\/F k):zA F w w2 :=
 ⟨hg.os.trans h.os,hg.tape.trans h.tape,hg.output.trans h.output,Nat.le_trans h.size hg.size,
  λi hi hn=>(hg.block i (Nat.lt_of_lt_of_le hi h.size) (λe=>by rcases hr i e.symm with h|h;omega;exact hn h)).trans (h.block i hi hn)⟩
theorem zA.below(h:zF w w'):Below w.heap.size w w':=⟨h.os,h.tape,h.output,h.size,λi hi=>h.block i hi (λf=>f)⟩
theorem zA.ext(h:zF w w'):zA F w w':=h.mono (λ_ f=>f.elim)
theorem zA.cell(h:zA F w w'){b o:Nat}(hb:b<w.heap.size)(hF:¬ F b):w'.cell? ⟨b,o,none⟩=w.cell? ⟨b,o,none⟩:=World.cell?_of_block (w:=w) (h.block b hb hF)
theorem zA.frozen(h:zA F w w'){b o:Nat}(hb:b<w.heap.size)(hF:¬ F b):w'.frozen? ⟨b,o,none⟩=w.frozen? ⟨b,o,none⟩:=World.frozen?_of_block (w:=w) (h.block b hb hF)
end
def Sl{α:Type}(F:Nat->Prop)(w:World)(sz:Nat)(enc:α->List Value)(v:Value)(l:List α):Prop :=
 ∃a cap,v=.slice a l.length cap/\l.length<=cap/\cap<=maxLen/\l.length<=140737488355328 /\
  (l=[]\/∃b off,a=some ⟨b,off,none⟩/\b<w.heap.size/\¬ F b/\∀i x,l[i]? = some x->∀j u,(enc x)[j]? = some u->w.cell? ⟨b,off+i * sz+j,none⟩=some u)
section
variable {α:Type}{F G:Nat->Prop}{w w':World}{sz:Nat}{enc:α->List Value}{v:Value}{l:List α}
theorem Sl.mods(h:Sl F w sz enc v l)(m:zA F w w'):Sl F w' sz enc v l:=by
 obtain⟨a,cap,rfl,h1,h2,h3,h4⟩:=h;refine⟨a,cap,rfl,h1,h2,h3,?_⟩;rcases h4 with h4|⟨b,off,rfl,hb,hF,hc⟩
 .exact .inl h4
 .exact .inr ⟨b,off,rfl,Nat.lt_of_lt_of_le hb m.size,hF,λi x hi j u hu=>(m.cell hb hF).trans (hc i x hi j u hu)⟩
theorem Sl.step(h:Sl F w sz enc v l)(m:zA F w w')(hG:∀k,k<w.heap.size->¬ F k->¬ G k):Sl G w' sz enc v l:=by
 obtain⟨a,cap,rfl,h1,h2,h3,h4⟩:=h;refine⟨a,cap,rfl,h1,h2,h3,?_⟩;rcases h4 with h4|⟨b,off,rfl,hb,hF,hc⟩
 .exact .inl h4
 .exact .inr ⟨b,off,rfl,Nat.lt_of_lt_of_le hb m.size,hG b hb hF,λi x hi j u hu=>(m.cell hb hF).trans (hc i x hi j u hu)⟩
theorem Sl.anti(h:Sl F w sz enc v l)(hG:∀k,k<w.heap.size->G k->F k):Sl G w sz enc v l :=
 h.step (zA.refl _ _) (λk hk hF hg=>hF (hG k hk hg))
theorem Sl.at{a:Option Addr}(h:l=[]\/∃b off,a=some ⟨b,off,none⟩/\b<w.heap.size/\¬ F b/\∀i x,l[i]? = some x->∀j u,(enc x)[j]? = some u->w.cell? ⟨b,off+i * sz+j,none⟩=some u)
  (m:zA G w w') (hG:∀k,k<w.heap.size->G k->F k) (k:Nat) (hk:k<l.length) :
  ∃b off,a=some ⟨b,off,none⟩/\b<w.heap.size/\¬ F b/\∀j u,(enc l[k])[j]? = some u->w'.cell? ⟨b,off+k * sz+j,none⟩=some u:=by
 rcases h with h|⟨b,off,ha,hb,hF,hc⟩
 .rw[h] at hk;simp at hk
 .exact⟨b,off,ha,hb,hF,λj u hu=>(m.cell hb (λg=>hF (hG b hb g))).trans (hc k l[k] (by simp[hk]) j u hu)⟩
theorem Sl.atE{a:Option Addr}(h:l=[]\/∃b off,a=some ⟨b,off,none⟩/\b<w.heap.size/\¬ F b/\∀i x,l[i]? = some x->∀j u,(enc x)[j]? = some u->w.cell? ⟨b,off+i * sz+j,none⟩=some u)
  (m:zF w w') (k:Nat) (hk:k<l.length) :
  ∃b off,a=some ⟨b,off,none⟩/\b<w.heap.size/\¬ F b/\∀j u,(enc l[k])[j]? = some u->w'.cell? ⟨b,off+k * sz+j,none⟩=some u :=
 Sl.at h m (λ_ _ f=>f.elim) k hk
theorem Sl.one{x:α}{b:Nat}{t:TypeId}{fz:Nat × Nat}(h:w.heap[b]? = some (.cells (enc x).toArray t fz))(hF:¬ F b):Sl F w sz enc (.slice (some ⟨b,0,none⟩) 1 1) [x]:=by
 refine⟨_,1,rfl,Nat.le_refl _,by simp[maxLen],by simp,.inr ⟨b,0,rfl,(Array.getElem?_eq_some_iff.1 h).1,hF,λi y hi j u hu=>?_⟩⟩;match i,hi with
 | 0,hi =>
  simp at hi;subst hi;rw[qO h];simpa using hu
theorem Sl.nil(F:Nat->Prop)(w:World)(sz:Nat)(enc:α->List Value):Sl F w sz enc (.slice none 0 0) []:=⟨none,0,rfl,Nat.le_refl _,by simp[maxLen],by simp,.inl rfl⟩
end
structure zV where
 key:ByteArray
 value:ByteArray
 chain:Int
 size:Int
structure zJ where
 leaf:Bool
 entries:List zV
 keys:List ByteArray
 kids:List Int
def zAO(e:zV):List Value:=[.string e.key,.string e.value,.int .i64 e.chain,.int .i64 e.size]
def zCJ(p:ByteArray × ByteArray):List Value:=[.string p.1,.string p.2]
def vZ(s:ByteArray):List Value:=[.string s]
def yK(n:Int):List Value:=[.int .i64 n]
def zZ(b:UInt8):List Value:=[.int .u8 (b.toNat:Int)]
def zSX(v:Value):List Value:=[v]
def zAE(s:ByteArray):Bool:=decide (1<=(s.size:Int)) && decide ((s.size:Int)<=32)
theorem zAo(s:ByteArray):zAE s=true ↔ 1<=s.size/\s.size<=32:=by simp[zAE];omega
def leS(a b:ByteArray):Bool:=Op.bytesLess a.toList b.toList || a.toList == b.toList
def ltS(a b:ByteArray):Bool:=Op.bytesLess a.toList b.toList
def jV(e:zV):Int:=2+e.key.size+(if e.chain=0 then 1+(e.value.size:Int) else 8)
def yL:List zV->Int
 | []=>0
 | e :: r=>jV e+yL r
def yT:List ByteArray->Int
 | []=>0
 | k :: r=>(5+(k.size:Int))+yT r
def zG(n:zJ):Int:=2+(if n.leaf then 0 else 4)+yL n.entries+yT n.keys
theorem zA7(e:zV):2<=jV e:=by unfold jV;split <;> omega
theorem zAR(l:List zV):0<=yL l:=by
 induction l with
 | nil=>simp[yL]
 | cons e r ih=>have:=zA7 e;simp only[yL];omega
theorem zAe(l:List ByteArray):0<=yT l:=by
 induction l with
 | nil=>simp[yT]
 | cons e r ih=>simp only[yT];omega
theorem zAB(l r:List zV):yL (l++r)=yL l+yL r:=by
 induction l with
 | nil=>simp[yL]
 | cons e l ih=>simp only[List.cons_append,yL,ih];omega
theorem jF(l r:List ByteArray):yT (l++r)=yT l+yT r:=by
 induction l with
 | nil=>simp[yT]
 | cons e l ih=>simp only[List.cons_append,yT,ih];omega
theorem jA{α:Type}(l:List α)(k:Nat)(x:α)(h:l[k]? = some x):l.take (k+1)=l.take k++[x]:=by
 rw[List.take_add_one,h];rfl
theorem zBd(l:List zV)(k:Nat):yL (l.take k)<=yL l:=by
 have:=zAB (l.take k) (l.drop k);rw[List.take_append_drop] at this;have:=zAR (l.drop k);omega
theorem zCk(l:List ByteArray)(k:Nat):yT (l.take k)<=yT l:=by
 have:=jF (l.take k) (l.drop k);rw[List.take_append_drop] at this;have:=zAe (l.drop k);omega
end
section
def yD:Nat->Nat->List UInt8
 | 0,_=>[]
 | W+1,n=>UInt8.ofNat n :: yD W (n / 256)
def zEK:List UInt8->Nat
 | []=>0
 | x :: l=>x.toNat+256 * zEK l
theorem zD:∀W n,(yD W n).length=W
 | 0,_=>rfl
 | W+1,n=>by simp[yD,zD W]
theorem zEL:∀W n,zEK (yD W n)=n % 256 ^ W
 | 0,n=>by simp[yD,zEK,Nat.mod_one]
 | W+1,n=>by
  rw[yD,zEK,zEL W];rw[Nat.pow_succ,Nat.mul_comm (256 ^ W) 256,Nat.mod_mul];simp
theorem zEj:∀l,zEK l<256 ^ l.length
 | []=>by simp[zEK]
 | x :: l=>by
  have:=zEj l;have hx:=x.toNat_lt;rw[zEK,List.length_cons,Nat.pow_succ];omega
theorem zHG(l:List UInt8)(q m W:Nat)(x:UInt8)(hm:m<W)(hx:l[q+m]? = some x) :
  zEK ((l.drop (q+m)).take (W-m))=zEK ((l.drop (q+(m+1))).take (W-(m+1))) * 256+x.toNat:=by
 obtain⟨hlt,he⟩:=List.getElem?_eq_some_iff.1 hx;rw[List.drop_eq_getElem_cons hlt,he,show W-m=(W-(m+1))+1 by omega,List.take_succ_cons,zEK];rw[show q+m+1=q+(m+1) by omega];omega
theorem zJi(l:List UInt8)(q m W:Nat):zEK ((l.drop (q+m)).take (W-m))<256 ^ (W-m) :=
 Nat.lt_of_lt_of_le (zEj _) (Nat.pow_le_pow_right (by decide) (by simp[List.length_take];omega))
def jI(r:Nat):Nat:=if r % 2=1 then (r / 2) ^^^ 3988292384 else r / 2
def qS:Nat->Nat->Nat
 | 0,r=>r
 | k+1,r=>qS k (jI r)
def zCK(n:Nat):Nat:=qS 8 n
def zCl(r x:Nat):Nat:=(r / 256) ^^^ zCK ((r % 256) ^^^ x)
def jJ(r:Nat):List UInt8->Nat
 | []=>r
 | x :: l=>jJ (zCl r x.toNat) l
def zBQ(l:List UInt8):Nat:=4294967295 ^^^ jJ 4294967295 l
theorem zCz(r:Nat)(h:r<4294967296):jI r<4294967296:=by
 unfold jI;split
 .exact Nat.xor_lt_two_pow (n:=32) (by omega) (by decide)
 .omega
theorem zHH:∀k r,r<4294967296->qS k r<4294967296
 | 0,_,h=>h
 | k+1,r,h=>zHH k _ (zCz r h)
theorem zGP(n:Nat)(h:n<256):zCK n<4294967296:=zHH 8 n (by omega)
theorem zHI(r x:Nat)(h:r<4294967296)(hx:x<256):zCl r x<4294967296 :=
 Nat.xor_lt_two_pow (n:=32) (by omega) (zGP _ (Nat.xor_lt_two_pow (n:=8) (by omega) hx))
theorem zC0:∀(l:List UInt8) (r:Nat),r<4294967296->jJ r l<4294967296
 | [],_,h=>h
 | x :: l,r,h=>zC0 l _ (zHI r x.toNat h x.toNat_lt)
theorem zIu(l:List UInt8):zBQ l<4294967296:=Nat.xor_lt_two_pow (n:=32) (by decide) (zC0 l _ (by decide))
structure zX where
 kind:Int
 id:Int
 gen:Nat
 body:List UInt8
def zC1(k:Int):Bool:=decide (k=1) || decide (k=2) || decide (k=3) || decide (k=4) || decide (k=5)
def zAX(s:Int):Bool:=decide (256<=s) && decide (s<=1024)
def yY(p:zX)(size:Int):Option (List Int × Nat) :=
 if zAX size=false then some ([-1],2)
 else if zC1 p.kind=false\/p.id<0\/256<=p.id\/size-24<(p.body.length:Int) then some ([-1],1) else none
def zCm(p:zX)(size:Nat):List UInt8 :=
 yD 1 p.kind.toNat++yD 1 0++yD 2 p.body.length++yD 4 p.id.toNat++yD 8 p.gen++yD 4 0++p.body++List.replicate (size-4-(20+p.body.length)) 0
def vH(p:zX)(size:Nat):List UInt8:=zCm p size++yD 4 (zBQ (zCm p size))
theorem zEM(p:zX)(size:Nat)(h:p.body.length+24<=size):(zCm p size).length=size-4:=by
 simp only[zCm,List.length_append,zD,List.length_replicate];omega
theorem jW(p:zX)(size:Nat)(h:p.body.length+24<=size):(vH p size).length=size:=by
 rw[vH,List.length_append,zEM p size h,zD];omega
theorem yZ{p:zX}{size:Int}(h:yY p size=none):256<=size/\size<=1024/\zC1 p.kind=true/\0<=p.id/\p.id<256/\(p.body.length:Int)+24<=size:=by
 unfold yY at h;split at h
 .cases h
 .rename_i h1;split at h
  .cases h
  .rename_i h2;simp only[not_or,Bool.not_eq_false,Int.not_lt,Int.not_le] at h1 h2;simp only[zAX,Bool.and_eq_true,decide_eq_true_eq] at h1;exact⟨h1.1,h1.2,h2.1,h2.2.1,h2.2.2.1,by omega⟩
theorem zEN{k:Int}(h:zC1 k=true):1<=k/\k<=5:=by
 simp only[zC1,Bool.or_eq_true,decide_eq_true_eq] at h;omega
def qG(l:List UInt8)(i W:Nat):Nat:=zEK ((l.drop i).take W)
def zA2(l:List UInt8):zX :=
  { kind:=(qG l 0 1:Nat),id:=(qG l 4 4:Nat),gen:=qG l 8 8,
    body:=if qG l 2 2<=l.length-24 then (l.drop 20).take (qG l 2 2) else [] }
theorem zC2(l:List UInt8)(i W:Nat):qG l i W<256 ^ W :=
 Nat.lt_of_lt_of_le (zEj _) (Nat.pow_le_pow_right (by decide) (by simp[List.length_take];omega))
def zBO(l:List UInt8):Bool:=decide (yY (zA2 l) (l.length:Int)=none) && decide (vH (zA2 l) l.length=l)
def zFB(l:List UInt8):Int:=if 256<=(zA2 l).id then -1 else (zA2 l).id
def zQ(l:List UInt8)(id:Int):zX ⊕ (List Int × Nat) :=
 if zBO l=false then .inr ([-1,zFB l],5) else if (zA2 l).id≠id then .inr ([if id < -1 then -1 else id],5) else .inl (zA2 l)
theorem zEk(l:List UInt8):(zA2 l).gen<18446744073709551616:=zC2 l 8 8
theorem zPB(l:List UInt8):0<=(zA2 l).id/\(zA2 l).id<4294967296:=by
 have:=zC2 l 4 4;have h:(zA2 l).id=(qG l 4 4:Nat):=rfl;constructor
 .omega
 .rw[h];have:qG l 4 4<4294967296:=this;omega
structure zI where
 blocks:Nat
 size:Nat
 lasting:List (List UInt8)
 waiting:List (Nat × List UInt8)
 lit:Bool
 after:Int
 torn:Int
 cut:Int
 keep:List Bool
 off:Bool
 count:Int
def zBR(i:Nat):List (Nat × List UInt8)->Option (List UInt8)
 | []=>none
 | (j,b) :: l=>match zBR i l with
  | some c=>some c
  | none=>if j=i then some b else none
def zI.look(D:zI)(i:Nat):List UInt8:=(zBR i D.waiting).getD (D.lasting.getD i [])
def zI.check(D:zI)(i:Int):Option (List Int × Nat):=if i<0\/(D.blocks:Int)<=i then some ([if i < -1 then -1 else i],2) else none
def zI.on(D:zI)(i:Int):Option (List Int × Nat) :=
 match D.check i with
 | some e=>some e
 | none=>if D.off then some ([if i < -1 then -1 else i],7) else none
def settle:List (List UInt8)->List (Nat × List UInt8)->List (List UInt8)
 | l,[]=>l
 | l,(i,b) :: r=>settle (l.set i b) r
def zNG(keep:List Bool)(torn cut:Int):Nat->List (List UInt8)->List (Nat × List UInt8)->List (List UInt8)
 | _,l,[]=>l
 | k,l,(i,b) :: r =>
  let old:=l.getD i []
  let c:=(max 0 (min cut (b.length:Int))).toNat
  zNG keep torn cut (k+1) (if (k:Int)=torn then l.set i (b.take c++old.drop c) else if keep.getD k false then l.set i (b++old.drop b.length) else l) r
def zI.crash(D:zI)(keep:List Bool)(torn cut:Int):zI:={ D with lasting:=zNG keep torn cut 0 D.lasting D.waiting,waiting:=[] }
def zI.burns(D:zI):Bool × zI :=
 if D.lit && decide (D.after=0) then
  (true,{ D with lit:=false,after:=0,torn:=0,cut:=0,keep:=[],off:=true }.crash D.keep D.torn D.cut)
 else (false,{ D with after:=RowKit.wrap64 (D.after-1),count:=RowKit.wrap64 (D.count+1) })
def jK(blocks size:Nat):zI :=
  { blocks:=blocks,size:=size,lasting:=List.replicate blocks (List.replicate size 0),waiting:=[],lit:=false,after:=0,torn:=0,cut:=0,keep:=[],off:=false,count:=0 }
theorem zFV(i:Nat)(l r:List (Nat × List UInt8)):zBR i (l++r)=(zBR i r).or (zBR i l):=by
 induction l with
 | nil=>simp[zBR]
 | cons x l ih =>
  obtain⟨j,b⟩:=x;rw[List.cons_append,zBR,ih,zBR];cases zBR i r <;> cases zBR i l <;> rfl
theorem zDl(i:Nat):∀(l:List (Nat × List UInt8)),(∀p∈l,p.1≠i)->zBR i l=none
 | [],_=>rfl
 | (j,b) :: l,h=>by
  rw[zBR,zDl i l (λp hp=>h p (List.mem_cons_of_mem _ hp)),if_neg (h (j,b) List.mem_cons_self)]
theorem zPC(i:Nat)(l:List (Nat × List UInt8))(k:Nat)(b:List UInt8)(hk:l[k]? = some (i,b))(h:∀j p,k<j->l[j]? = some p->p.1≠i):zBR i l=some b:=by
 obtain⟨hlt,he⟩:=List.getElem?_eq_some_iff.1 hk;have h1:l=l.take k++(i,b) :: l.drop (k+1):=by
  rw[<- he,<- List.drop_eq_getElem_cons hlt,List.take_append_drop]
 have h2:zBR i (l.drop (k+1))=none:=zDl i _ (λp hp=>by
  obtain⟨j,hj,he2⟩:=List.getElem_of_mem hp;rw[List.getElem_drop] at he2;have hj2:k+1+j<l.length:=by simp at hj;omega
  exact h (k+1+j) p (by omega) (by rw[List.getElem?_eq_getElem hj2,he2]))
 rw[h1,zFV,zBR,h2,if_pos rfl];rfl
theorem zAY(A B:List UInt8)(W n:Nat)(i:Nat)(hi:A.length=i)(hn:n<256 ^ W):qG (A++(yD W n++B)) i W=n:=by
 unfold qG;rw[List.drop_append_of_le_length (by omega),List.drop_of_length_le (by omega),List.nil_append,List.take_append_of_le_length (by rw[zD];omega),List.take_of_length_le (by rw[zD];omega),zEL];exact Nat.mod_eq_of_lt hn
def zHJ(k n i g:Nat)(b R:List UInt8):List UInt8:=yD 1 k++(yD 1 0++(yD 2 n++(yD 4 i++(yD 8 g++(yD 4 0++(b++R))))))
theorem zRQ(k n i g:Nat)(b R:List UInt8)(h:k<256):qG (zHJ k n i g b R) 0 1=k:=zAY [] _ 1 k 0 rfl (by simpa using h)
theorem zRR(k n i g:Nat)(b R:List UInt8)(h:n<65536):qG (zHJ k n i g b R) 2 2=n:=by
 unfold zHJ;have:yD 1 k++(yD 1 0++(yD 2 n++(yD 4 i++(yD 8 g++(yD 4 0++(b++R))))))=(yD 1 k++yD 1 0)++(yD 2 n++(yD 4 i++(yD 8 g++(yD 4 0++(b++R))))):=by simp only[List.append_assoc]
 rw[this];exact zAY _ _ 2 n 2 (by simp[zD]) (by simpa using h)
theorem zRS(k n i g:Nat)(b R:List UInt8)(h:i<4294967296):qG (zHJ k n i g b R) 4 4=i:=by
 unfold zHJ;have:yD 1 k++(yD 1 0++(yD 2 n++(yD 4 i++(yD 8 g++(yD 4 0++(b++R))))))=(yD 1 k++yD 1 0++yD 2 n)++(yD 4 i++(yD 8 g++(yD 4 0++(b++R)))):=by simp only[List.append_assoc]
 rw[this];exact zAY _ _ 4 i 4 (by simp[zD]) (by simpa using h)
theorem zRT(k n i g:Nat)(b R:List UInt8)(h:g<256 ^ 8):qG (zHJ k n i g b R) 8 8=g:=by
 unfold zHJ;have:yD 1 k++(yD 1 0++(yD 2 n++(yD 4 i++(yD 8 g++(yD 4 0++(b++R))))))=(yD 1 k++yD 1 0++yD 2 n++yD 4 i)++(yD 8 g++(yD 4 0++(b++R))):=by simp only[List.append_assoc]
 rw[this];exact zAY _ _ 8 g 8 (by simp[zD]) h
theorem zRU(k n i g:Nat)(b R:List UInt8):((zHJ k n i g b R).drop 20).take b.length=b:=by
 unfold zHJ;have:yD 1 k++(yD 1 0++(yD 2 n++(yD 4 i++(yD 8 g++(yD 4 0++(b++R))))))=(yD 1 k++yD 1 0++yD 2 n++yD 4 i++yD 8 g++yD 4 0)++(b++R):=by simp only[List.append_assoc]
 rw[this,List.drop_append_of_le_length (by simp[zD]),List.drop_of_length_le (by simp[zD]),List.nil_append,List.take_append_of_le_length (Nat.le_refl _),List.take_of_length_le (Nat.le_refl _)]
theorem zNp(p:zX)(size:Nat):∃R,vH p size=zHJ p.kind.toNat p.body.length p.id.toNat p.gen p.body R:=by
 refine⟨List.replicate (size-4-(20+p.body.length)) 0++yD 4 (zBQ (zCm p size)),?_⟩;unfold vH;generalize yD 4 (zBQ (zCm p size))=C
 unfold zCm zHJ;simp only[List.append_assoc]
theorem zHK{p:zX}{size:Nat}(hc:yY p size=none)(hg:p.gen<18446744073709551616):zA2 (vH p size)=p:=by
 obtain⟨h1,h2,h3,h4,h5,h6⟩:=yZ hc;have hk:=zEN h3;have hlen:=jW p size (by omega);obtain⟨R,hR⟩:=zNp p size;unfold zA2;rw[hlen,hR,zRQ _ _ _ _ _ _ (by omega),zRR _ _ _ _ _ _ (by omega),zRS _ _ _ _ _ _ (by omega),zRT _ _ _ _ _ _ (by exact hg),zRU,if_pos (by omega)];obtain⟨pk,pi,pg,pb⟩:=p;simp only[zX.mk.injEq,and_true] at *;exact⟨by omega,by omega⟩
theorem zNq{p:zX}{size:Nat}(hc:yY p size=none)(hg:p.gen<18446744073709551616):zBO (vH p size)=true:=by
 have hlen:=jW p size (by have:=yZ hc;omega);unfold zBO;rw[zHK hc hg,hlen,hc];simp
theorem zCL{p:zX}{size:Nat}(hc:yY p size=none)(hg:p.gen<18446744073709551616):zQ (vH p size) p.id=.inl p:=by
 unfold zQ;rw[zNq hc hg,zHK hc hg];simp
theorem zPD(a b:Nat):(a ^^^ b) / 2=(a / 2) ^^^ (b / 2):=by
 apply Nat.eq_of_testBit_eq;intro i
 simp[Nat.testBit_xor,Nat.testBit_div_two]
theorem zPE(a b:Nat):(a ^^^ b) % 2=(a+b) % 2:=by
 have h:=Nat.testBit_xor a b 0;simp only[Nat.testBit_zero] at h;have h1:=Nat.mod_two_eq_zero_or_one a;have h2:=Nat.mod_two_eq_zero_or_one b;have h3:=Nat.mod_two_eq_zero_or_one (a ^^^ b);rcases h1 with h1|h1 <;> rcases h2 with h2|h2 <;> rcases h3 with h3|h3 <;> rw[h1,h2,h3] at h <;> first|omega|(simp at h;done)|(exfalso;revert h;decide)
theorem zGQ(a b:Nat):jI (a ^^^ b)=jI a ^^^ jI b:=by
 unfold jI;rw[zPE,zPD];have ha:=Nat.mod_two_eq_zero_or_one a;have hb:=Nat.mod_two_eq_zero_or_one b;rcases ha with ha|ha <;> rcases hb with hb|hb
 .rw[if_neg (by omega),if_neg (by omega),if_neg (by omega)]
 .rw[if_pos (by omega),if_neg (by omega),if_pos (by omega),Nat.xor_assoc]
 .rw[if_pos (by omega),if_pos (by omega),if_neg (by omega),Nat.xor_assoc,Nat.xor_assoc,Nat.xor_comm (b / 2)]
 .rw[if_neg (by omega),if_pos (by omega),if_pos (by omega)];rw[Nat.xor_assoc,<- Nat.xor_assoc 3988292384,Nat.xor_comm 3988292384,Nat.xor_assoc,Nat.xor_self,Nat.xor_zero]
theorem zGR(v:Nat):jI (2 * v)=v:=by unfold jI;rw[if_neg (by omega)];omega
theorem zGS(a b:Nat)(ha:a<4294967296)(hb:b<4294967296)(h:jI a=jI b):a=b:=by
 unfold jI at h;have ha2:a / 2<2147483648:=by omega
 have hb2:b / 2<2147483648:=by omega
 have big:∀x y,x<2147483648->y<2147483648->x ^^^ 3988292384=y->False:=by
  intro x y hx hy e;have e2:x ^^^ y=3988292384:=by rw[<- e,<- Nat.xor_assoc,Nat.xor_self,Nat.zero_xor]
  have:=Nat.xor_lt_two_pow (n:=31) hx hy;omega
 split at h <;> split at h
 .have:a / 2=b / 2:=by
   have e:=congrArg (· ^^^ 3988292384) h;simpa[Nat.xor_assoc,Nat.xor_self] using e
  omega
 .exact (big _ _ ha2 hb2 h).elim
 .exact (big _ _ hb2 ha2 h.symm).elim
 .omega
def zA3(r:Nat)(b:Bool):Nat:=jI (r ^^^ b.toNat)
def val:List Bool->Nat
 | []=>0
 | b :: l=>b.toNat+2 * val l
theorem zQZ(b:Bool)(v:Nat):b.toNat+2 * v=b.toNat ^^^ (2 * v):=by
 apply Nat.eq_of_testBit_eq;intro i
 cases i with
 | zero=>cases b <;> simp[Nat.testBit_zero] <;> omega
 | succ i =>
  rw[Nat.testBit_xor];simp only[Nat.testBit_succ];cases b <;> simp <;> congr 1 <;> omega
theorem zDb:∀(l:List Bool) (s:Nat),l.foldl zA3 s=qS l.length (s ^^^ val l)
 | [],s=>by simp[qS,val]
 | b :: l,s=>by
  rw[List.foldl_cons,zDb l,List.length_cons,qS,val,zQZ,<- Nat.xor_assoc,zGQ,zGR];rfl
theorem zL3:∀l:List Bool,val l<2 ^ l.length
 | []=>by simp[val]
 | b :: l=>by have:=zL3 l;rw[val,List.length_cons,Nat.pow_succ];cases b <;> simp <;> omega
theorem zNH:∀(l m:List Bool),l.length=m.length->val l=val m->l=m
 | [],[],_,_=>rfl
 | [],_ :: _,h,_=>by simp at h
 | _ :: _,[],h,_=>by simp at h
 | b :: l,c :: m,h,hv=>by
  simp only[val] at hv;have hb:b=c:=by cases b <;> cases c <;> simp at hv <;> first|rfl|omega
  subst hb;rw[zNH l m (by simpa using h) (by omega)]
theorem zEO:∀k a b,a<4294967296->b<4294967296->qS k a=qS k b->a=b
 | 0,_,_,_,_,h=>h
 | k+1,a,b,ha,hb,h=>zGS a b ha hb (zEO k _ _ (zCz a ha) (zCz b hb) h)
theorem zL4(b:Bool):b.toNat<4294967296:=by cases b <;> decide
theorem zFC(s:Nat)(b:Bool)(h:s<4294967296):zA3 s b<4294967296:=zCz _ (Nat.xor_lt_two_pow (n:=32) h (zL4 b))
theorem zG7:∀(l:List Bool) (s:Nat),s<4294967296->l.foldl zA3 s<4294967296
 | [],_,h=>h
 | b :: l,s,h=>zG7 l _ (zFC s b h)
theorem zHL(a b c:Nat)(h:a ^^^ b=a ^^^ c):b=c:=by
 have e:=congrArg (a ^^^ ·) h;simpa[<- Nat.xor_assoc,Nat.xor_self] using e
theorem zKX(a b:Nat)(x:Bool)(ha:a<4294967296)(hb:b<4294967296)(h:zA3 a x=zA3 b x):a=b:=by
 have:=zGS _ _ (Nat.xor_lt_two_pow (n:=32) ha (zL4 x)) (Nat.xor_lt_two_pow (n:=32) hb (zL4 x)) h;rw[Nat.xor_comm a,Nat.xor_comm b] at this;exact zHL _ _ _ this
theorem zKY:∀(l:List Bool) (a b:Nat),a<4294967296->b<4294967296->l.foldl zA3 a=l.foldl zA3 b->a=b
 | [],_,_,_,_,h=>h
 | x :: l,a,b,ha,hb,h=>zKX a b x ha hb (zKY l _ _ (zFC a x ha) (zFC b x hb) h)
theorem zRv(p x y q:List Bool)(s:Nat)(hs:s<4294967296)(hl:x.length=y.length)(h32:x.length<=32)(h:(p++x++q).foldl zA3 s=(p++y++q).foldl zA3 s):x=y:=by
 simp only[List.foldl_append] at h;have h0:=zG7 p s hs;have h1:=zKY q _ _ (zG7 x _ h0) (zG7 y _ h0) h;generalize p.foldl zA3 s=s0 at h0 h1
 rw[zDb,zDb,hl] at h1;have hp:(2:Nat) ^ y.length<=2 ^ 32:=Nat.pow_le_pow_right (by omega) (by omega);have hvx:=zL3 x;have hvy:=zL3 y;rw[hl] at hvx;have h2:=zEO _ _ _ (Nat.xor_lt_two_pow (n:=32) h0 (by omega)) (Nat.xor_lt_two_pow (n:=32) h0 (by omega)) h1;exact zNH _ _ hl (zHL _ _ _ h2)
def zA4(l:List UInt8)(p:Nat):Bool:=(l.getD (p / 8) 0).toNat.testBit (p % 8)
end
end Go.Proofs.YteabpacpngaoaaaGreatDoor
