import Derived.Test.YteabpacpngaoaaaGreatDoorC33
import Derived.Test.YteabpacpngaoaaaGreatDoorC30
import Derived.Test.YteabpacpngaoaaaGreatDoorC31
namespace Go.Proofs.YteabpacpngaoaaaGreatDoor
open Lib renaming hid->oh
set_option maxHeartbeats 4000000
set_option maxRecDepth 100000
section
open Go.RowKit
structure zA0 where
 id0:Nat
 id1:Nat
 key:ByteArray
 two:Bool
 news:Bool
abbrev StA(α:Type):=(GA × List Nat × α) ⊕ Nat
def qC(G:GA)(l:List Nat)(gen old:Nat)(n:zJ):StA zA0 :=
 if zG n<=(G.size:Int)-24 then (match qQ G l old n with
  | some i=>.inl (yN G l gen old n,yV G l old n,⟨i,0,e0,false,false⟩)
  | none=>.inr (zBI G n))
 else match zEI n with
  | none=>.inr 8
  | some (a,k,b)=>if zG a<=(G.size:Int)-24/\zG b<=(G.size:Int)-24 then (match qQ G l old a with
    | none=>.inr (zBI G a)
    | some i=>match qQ (yN G l gen old a) (yV G l old a) 0 b with
     | none=>.inr (zBI (yN G l gen old a) b)
     | some j=>.inl (yN (yN G l gen old a) (yV G l old a) gen 0 b,yV (yN G l gen old a) (yV G l old a) 0 b,⟨i,j,k,true,false⟩))
   else .inr 8
def zA1(G:GA)(l:List Nat)(gen:Nat)(key v:ByteArray):StA zV :=
 if v.size<=24 then .inl (G,l,⟨key,v,0,0⟩) else match zAp (zC3 v.size G.size).toNat l with
  | some (ids,l1)=>.inl (jZ gen v.data.toList (G.size-28) ids ids.length G,l1,⟨key,e0,((ids.getD 0 0:Nat):Int),(v.size:Int)⟩)
  | none=>.inr 3
def qR(G:GA)(n:zJ)(key:ByteArray):List Nat:=match n.entries[zAI key n.entries]? with
 | none=>[]
 | some e=>if zAf key n.entries=true/\e.chain≠0 then (vO G e.size.toNat e.chain e.size).1.map (λx=>x.1.toNat) else []
def zDK(n:zJ)(key:ByteArray)(e:zV):zJ :=
  { n with entries:=n.entries.take (zAI key n.entries)++[e]++n.entries.drop (zAI key n.entries+if zAf key n.entries=true then 1 else 0) }
def zBo(G:GA)(l:List Nat)(gen id:Nat)(n:zJ)(key v:ByteArray):StA zA0 :=
 match zA1 (jQ G (qR G n key)) (jM l (qR G n key)) gen key v with
 | .inr k=>.inr k
 | .inl (G1,l1,e)=>match qC G1 l1 gen id (zDK n key e) with
  | .inr k=>.inr k
  | .inl (G2,l2,o)=>.inl (G2,l2,{ o with news:=!zAf key n.entries })
def zDL(n:zJ)(i:Nat)(o:zA0):zJ :=
 if o.two=true then { n with kids:=n.kids.take i++[(o.id0:Int),(o.id1:Int)]++n.kids.drop (i+1),keys:=n.keys.take i++[o.key]++n.keys.drop (i+0) }
 else { n with kids:=n.kids.take i++[(o.id0:Int)]++n.kids.drop (i+1) }
def zCs(gen:Nat)(key v:ByteArray):Nat->GA->List Nat->Nat->StA zA0
 | 0,_,_,_=>.inr 5
 | f+1,G,l,id=>match G.load id with
  | .inr e=>.inr e.2
  | .inl n=>if n.leaf=true then zBo G l gen id n key v else match zCs gen key v f G l (n.kids.getD (zBS key n.keys) 0).toNat with
   | .inr k=>.inr k
   | .inl (G1,l1,o)=>match qC G1 l1 gen id (zDL n (zBS key n.keys) o) with
    | .inr k=>.inr k
    | .inl (G2,l2,o2)=>.inl (G2,l2,{ o2 with news:=o.news })
def zE9:zJ:=⟨true,[],[],[]⟩
def zCW(o:zA0):zJ:=⟨false,[],[o.key],[(o.id0:Int),(o.id1:Int)]⟩
def zC9(key v:ByteArray):Option Nat:=if zAE key=false then some 2 else if 4096<v.size then some 8 else none
def zG4(G:GA)(l:List Nat)(gen root:Nat)(key v:ByteArray):StA (Nat × Bool) :=
 match zC9 key v with
 | some k=>.inr k
 | none=>match (if root=0 then zBo G l gen 0 zE9 key v else zCs gen key v 16 G l root) with
  | .inr k=>.inr k
  | .inl (G1,l1,o)=>if o.two=false then .inl (G1,l1,(o.id0,o.news)) else match qQ G1 l1 0 (zCW o) with
   | none=>.inr (zBI G1 (zCW o))
   | some i=>.inl (yN G1 l1 gen 0 (zCW o),yV G1 l1 0 (zCW o),(i,o.news))
structure FrG(G:GA)(l:List Nat)(G':GA)(l':List Nat):Prop where
 sz:G'.size=G.size
 bl:G'.blocks=G.blocks
 len:l'.length=l.length
 keep:∀i,l[i]? = some 1\/l[i]? = some 3->(l'[i]? = some 1\/l'[i]? = some 3)/\G'.look i=G.look i/\(G'.view i=G.view i\/G'.view i=zHM (G.look i) i)
 low:∀i,i<2->l[i]? = some 1->l'[i]? = some 1
 other:∀i:Nat,l[i]? = some 0\/l[i]? = some 2->l'[i]? = some 0\/l'[i]? = some 2
section
variable {G G1 G2:GA}{l l1 l2:List Nat}
theorem FrG.refl(G:GA)(l:List Nat):FrG G l G l:=⟨rfl,rfl,rfl,λ_ h=>⟨h,rfl,.inl rfl⟩,λ_ _ h=>h,λ_ h=>h⟩
theorem FrG.trans(h:FrG G l G1 l1)(k:FrG G1 l1 G2 l2):FrG G l G2 l2 :=
 ⟨k.sz.trans h.sz,k.bl.trans h.bl,k.len.trans h.len,λi hi=>by
  obtain⟨h1,h2,h3⟩:=h.keep i hi;obtain⟨k1,k2,k3⟩:=k.keep i h1;refine⟨k1,k2.trans h2,?_⟩;rcases k3 with k3|k3
  .rw[k3];exact h3
  .rw[k3,h2];exact .inr rfl,λi hi h1=>k.low i hi (h.low i hi h1),λi hi=>k.other i (h.other i hi)⟩
def zKA(l:List Nat):Prop:=l[0]? = some 1/\l[1]? = some 1
theorem FrG.lowL(h:FrG G l G1 l1)(hl:zKA l):zKA l1:=⟨h.low 0 (by omega) hl.1,h.low 1 (by omega) hl.2⟩
theorem zKA.ok(h:zKA l):zQj l:=⟨by rw[h.1];simp,by rw[h.2];simp⟩
theorem Upd.fr{A A1:Nat->Prop}(h:Upd G l A G1 l1 A1)(hA:∀i,A i->2<=i):FrG G l G1 l1:=by
 refine⟨h.sz,h.bl,h.len,λi hi=>⟨?_,h.keep i hi⟩,λi hi h1=>?_,λi hi=>?_⟩
 .by_cases h1:A1 i
  .rcases h.inn i h1 with ⟨_,h2⟩|⟨h2,_⟩
   .rw[h2];exact hi
   .rcases hi with e|e <;> rw[h2] at e <;> simp at e
  .by_cases ha:A i
   .rcases h.gone i ha h1 with ⟨h2,_⟩|⟨_,h2⟩
    .rcases hi with e|e <;> rw[h2] at e <;> simp at e
    .exact .inr h2
   .rw[(h.rest i ha h1).1];exact hi
 .have ha:¬ A i:=λha=>by have:=hA i ha;omega
  have hn:¬ A1 i:=λh2=>by
   rcases h.inn i h2 with ⟨h3,_⟩|⟨h3,_⟩
   .exact ha h3
   .rw[h3] at h1;simp at h1
  rw[(h.rest i ha hn).1];exact h1
 .by_cases h1:A1 i
  .rcases h.inn i h1 with ⟨_,h2⟩|⟨_,h2⟩
   .rw[h2];exact hi
   .exact .inr h2
  .by_cases ha:A i
   .rcases h.gone i ha h1 with ⟨_,h2⟩|⟨h2,_⟩
    .exact .inl h2
    .rcases hi with e|e <;> rw[h2] at e <;> simp at e
   .rw[(h.rest i ha h1).1];exact hi
theorem zMp{G:GA}{l:List Nat}{old:Nat}{n:zJ}(h:qQ G l old n=none)(_ho:old=0\/(2<=old/\(l[old]? = some 1\/l[old]? = some 2))):yV G l old n=l:=by
 unfold qQ at h;unfold yV;split at h
 .rename_i hd;rw[if_pos hd];unfold vS at h;unfold vR;split at h
  .cases h
  .rename_i hf;by_cases hz:old=0
   .rw[if_pos hz];unfold zAk;rw[h]
   .rw[if_neg hz,if_neg (λhf2=>hf ⟨hz,hf2⟩),h]
 .rename_i hd;rw[if_neg hd]
theorem zMq{gen old:Nat}{n:zJ}(h:qQ G l old n=none):yN G l gen old n=G:=by unfold yN;rw[h]
def vA(l:List Nat)(old:Nat):Prop:=old=0\/(2<=old/\(l[old]? = some 1\/l[old]? = some 2))
theorem vA.ok{old:Nat}(h:vA l old):zHD l old:=h.imp id (λh=>h.2)
theorem vA.two{old:Nat}(h:vA l old):old=0\/2<=old:=h.imp id (λh=>h.1)
theorem vA.lt{old:Nat}(h:vA l old)(hl:l.length<=256):old<256:=by
 rcases h with rfl|⟨_,h|h⟩
 .omega
 .have:=(List.getElem?_eq_some_iff.1 h).1;omega
 .have:=(List.getElem?_eq_some_iff.1 h).1;omega
theorem zH3{gen old i:Nat}{n:zJ}(ho:vA l old)(hi:qQ G l old n=some i)(h0:l[0]? ≠ some 0) :
  Upd G l (λk=>k=old/\old≠0) (yN G l gen old n) (yV G l old n) (λk=>k=i)/\zAn l-(if old=0 then 1 else 0)<=zAn (yV G l old n)/\1<=i/\i<l.length/\(yN G l gen old n).view i=some (.inl ⟨zBH n,(i:Int),gen,yE n⟩)/\zBm n G.size:=by
 have hd:zBm n G.size:=by
  unfold qQ at hi;split at hi
  .rename_i h;exact h
  .cases hi
 have hp:vS l old=some i:=by unfold qQ at hi;rw[if_pos hd] at hi;exact hi
 have e1:yN G l gen old n=(qP G l old).put ⟨zBH n,(i:Int),gen,yE n⟩:=by unfold yN;rw[hi]
 have e2:yV G l old n=vR l old:=by unfold yV;rw[if_pos hd]
 obtain⟨u1,u2,u3⟩:=zOi (G:=G) ho hp ⟨zBH n,(i:Int),gen,yE n⟩ rfl h0;rw[e1,e2];exact⟨u1,u2,u3,zJN hp,by rw[zAu];simp,hd⟩
theorem zKB{gen old:Nat}{n:zJ}(ho:vA l old)(h0:l[0]? ≠ some 0):FrG G l (yN G l gen old n) (yV G l old n):=by
 cases hi:qQ G l old n with
 | none=>rw[zMq hi,zMp hi ho];exact FrG.refl G l
 | some i=>exact (zH3 ho hi h0).1.fr (λk hk=>by
   obtain⟨rfl,hz⟩:=hk;rcases ho with h|h
   .exact absurd h hz
   .exact h.1)
theorem zGk:∀(a:List Nat) (G:GA) (l:List Nat),(∀i∈a,l[i]? = some 0)->FrG G l (jQ G a) l
 | [],G,l,_=>FrG.refl G l
 | x :: a,G,l,h=>by
  have h1:FrG G l (G.drop x) l:=⟨rfl,rfl,rfl,λi hi=>⟨hi,rfl,.inl (by
   have hne:i≠x:=λe=>by rw[e,h x List.mem_cons_self] at hi;simp at hi
   rw[zCD,if_neg hne])⟩,λ_ _ h=>h,λ_ h=>h⟩
  exact h1.trans (zGk a (G.drop x) l (λi hi=>h i (List.mem_cons_of_mem _ hi)))
end
end
section
open Go.RowKit
attribute [local go_sem ↓] Go.wp_at_zero Go.wp_at_succ
structure jR(F P:Nat->Prop)(w0 wr:World)(b:Nat)(c:Array Value)(t:TypeId):Prop where
 blk:zH wr b c t
 f:F b
 p:¬ P b
 new:w0.heap.size<=b
section
variable {P P' F F':Nat->Prop}{ad:Nat->Addr}{w0 w w':World}{b b2:Nat}{c c2:Array Value}{t t2:TypeId}
theorem jR.nxt(h:jR F P w0 w b c t)(n:zY P P' F F' ad w w'):jR F' P' w0 w' b c t:=⟨n.blk h.blk h.p,n.grow b h.f,n.not h.blk.lt h.p,h.new⟩
theorem jR.ext(h:jR F P w0 w b c t)(m:zF w w'):jR F P w0 w' b c t:=⟨h.blk.ext m,h.f,h.p,h.new⟩
theorem jR.other(h:jR F P w0 w b c t){b2:Nat}(m:zA (λk=>k=b2) w w')(hb:b≠b2):jR F P w0 w' b c t:=⟨h.blk.mods m hb,h.f,h.p,h.new⟩
end
section
variable {P P0 F F0:Nat->Prop}{ad:Nat->Addr}{w0 w w':World}{b:Nat}{cc:Array Value}{t:TypeId}{c s:Nat}{G:GA}{l:List Nat}
theorem jU.var[zW](h:jU F w P c s G l)(v:jR F P w0 w b cc t)(m:zA (λk=>k=b) w w'):jU F w' P c s G l:=h.res m v.p v.f
theorem zY.var(n:zY P0 P F0 F ad w0 w)(v:jR F P w0 w b cc t)(m:zA (λk=>k=b) w w'):zY P0 P F0 F ad w0 w':=n.resD m v.new v.f
theorem jR.put(v:jR F P w0 w b cc t)(i:Nat)(x:Value):jR F P w0 (w.setCell ⟨b,i,none⟩ x) b (cc.setIfInBounds i x) t:=⟨v.blk.set i x,v.f,v.p,v.new⟩
theorem jR.mF(v:jR F P w0 w b cc t)(m:zA (λk=>k=b) w w'):zA F w w':=m.mono (λ_ hk=>hk ▸ v.f)
end
def zIm(o:zA0):Array Value:=#[.int .i64 (o.id0:Int),.int .i64 (o.id1:Int),.string o.key,.bool o.two,.bool o.news]
def zRd:zA0:=⟨0,0,e0,false,false⟩
abbrev zAJ:Array Value:=#[.int .i64 0,.int .i64 0,.string ⟨#[]⟩,.bool false,.bool false]
def zMr[zW](F P:Nat->Prop)(ad:Nat->Addr)(w:World)(c s:Nat)(G:GA)(l:List Nat)(r:StA zA0)(e:Ending)(w':World):Prop :=
  ∃(P' F':Nat->Prop) (G':GA) (l':List Nat),jU F' w' P' c s G' l'/\zY P P' F F' ad w w' /\
    ((∃ o, r = .inl (G', l', o) /\ e = .returned (.tuple #[.agg (zIm o), .nilIface])) \/
     (∃k o f el,r=.inr k/\FrG G l G' l'/\e=.returned (.tuple #[.agg (zIm o),zL f])/\vB F' ad w' (zL f) el k))
theorem Tryz.outSz:(Tryz.prog.info? 169).map (·.size)=some 5:=by kernel_rfl
theorem zCv(G:GA)(l:List Nat)(gen old:Nat)(n:zJ):(yN G l gen old n).size=G.size/\(yN G l gen old n).blocks=G.blocks/\(yN G l gen old n).cost<=G.cost+1:=by
 unfold yN;split
 .exact⟨rfl,rfl,by omega⟩
 .obtain⟨h1,h2,h3⟩:=zD1 G l old;exact⟨h1,h2,by show (qP G l old).cost+1<=_;omega⟩
structure zH4(G:GA)(l:List Nat)(old:Nat)(n:zJ):Prop where
 place:vA l old
 low:zKA l
 len:l.length<=G.blocks
 cost:G.cost+10<=1000000
 wt:zG n<=100000
 bytes:zO n=true->(yE n).length<=100000
 cut:¬ zG n<=(G.size:Int)-24->∃a k b,zEI n=some (a,k,b)/\zG a<=(G.size:Int)-24/\zG b<=(G.size:Int)-24
 few:n.entries.length<=100000/\n.keys.length<=100000/\n.kids.length<=100000
section
variable {P P' F F':Nat->Prop}{ad:Nat->Addr}{w w':World}{c s:Nat}{G:GA}{l:List Nat}
theorem zLT[zW](n:zJ)(hF:zG n<=(G.size:Int)-24)(hL:yG F ad w)(hP:∀k,P k->F k)(h:jU F w P c s G l)(gen old:Nat)(hgen:gen<18446744073709551616)(ve vk vi:Value)(hve:Sl F w 4 zAO ve n.entries)(hvk:Sl F w 1 vZ vk n.keys)(hvi:Sl F w 1 yK vi n.kids)(hok:zH4 G l old n) :
  Calls Tryz.prog 145 #[pgV c s gen,.int .i64 (old:Int),.agg #[.bool n.leaf,ve,vk,vi]] w (zMr F P ad w c s G l (qC G l gen old n)):=by
 have HFF:=oh hF;clear hF;obtain⟨w1,hw1⟩:∃w1,w1=(((w.alloc (.cells #[.pointer (some ⟨c,0,none⟩),.pointer (some ⟨s,0,none⟩),.int .u64 (gen:Int)] 120)).alloc (.cells #[.bool n.leaf,ve,vk,vi] 174)).alloc (.cells zAJ 169)).alloc (.cells zAJ 169):=⟨_,rfl⟩;have m0:zF w w1:=by rw[hw1];exact ((((zA.refl _ w).alloc _).alloc _).alloc _).alloc _
 have hz:w1.heap.size=w.heap.size+4:=by rw[hw1];simp
 have hN:zY P P F (λk=>F k\/(w.heap.size<=k/\k<w1.heap.size)) ad w w1:=zY.new hL hP (Q:=λk=>w.heap.size<=k/\k<w1.heap.size) m0 (λk hk=>hk.1) (λk hk=>hk.2);have HB:=oh (show jR (λk=>F k\/(w.heap.size<=k/\k<w1.heap.size)) P w w1 w.heap.size #[.pointer (some ⟨c,0,none⟩),.pointer (some ⟨s,0,none⟩),.int .u64 (gen:Int)] 120 from ⟨by rw[hw1];exact (((zH.new w _ _).alloc _).alloc _).alloc _,.inr ⟨by omega,by omega⟩,λhp=>by have:=h.bd _ hp;omega,by omega⟩);have HD:=oh (show jR (λk=>F k\/(w.heap.size<=k/\k<w1.heap.size)) P w w1 (w.heap.size+1) #[.bool n.leaf,ve,vk,vi] 174 from ⟨by rw[hw1];exact ((show zH ((w.alloc _).alloc (.cells #[.bool n.leaf,ve,vk,vi] 174)) (w.heap.size+1) #[.bool n.leaf,ve,vk,vi] 174 from zR (by simp)).alloc _).alloc _,.inr ⟨by omega,by omega⟩,λhp=>by have:=h.bd _ hp;omega,by omega⟩);have HR:=oh (show jR (λk=>F k\/(w.heap.size<=k/\k<w1.heap.size)) P w w1 (w.heap.size+1+1) zAJ 169 from ⟨by rw[hw1];exact (show zH (((w.alloc _).alloc _).alloc (.cells zAJ 169)) (w.heap.size+1+1) zAJ 169 from zR (by simp)).alloc _,.inr ⟨by omega,by omega⟩,λhp=>by have:=h.bd _ hp;omega,by omega⟩);have HO:=oh (show jR (λk=>F k\/(w.heap.size<=k/\k<w1.heap.size)) P w w1 (w.heap.size+1+1+1) zAJ 169 from ⟨by rw[hw1];exact zR (by simp),.inr ⟨by omega,by omega⟩,λhp=>by have:=h.bd _ hp;omega,by omega⟩);have HG:=oh (h.plusNew hP (Q:=λk=>w.heap.size<=k/\k<w1.heap.size) m0 (λk hk=>hk.1));have HVE:=oh (hN.sl hP hve);have HVK:=oh (hN.sl hP hvk);have HVI:=oh (hN.sl hP hvi);have HLIM:=oh h.lim;have HN:=oh hN;have HOK:=oh hok;have HSZ:=oh (λW (m:zF w1 W)=>zDx (HG.out.at m) gen);have HFT:Hid (∀W,zF w1 W -> Calls Tryz.prog 150 #[.agg #[.bool n.leaf,ve,vk,vi],.int .i64 (G.size:Int)] W λe w'=>e=.returned (.bool (decide (zG n<=(G.size:Int)-24)))/\zF W w'):=oh (λW m=>zEd n ve vk vi W (HVE.out.ext m) (HVK.out.ext m) (by have:=hok.wt;omega) _ (by omega) (by have:=HLIM.out;omega));obtain⟨ea,ec,rfl,_,_,_,_⟩:=hve;obtain⟨ka,kc,rfl,_,_,_,_⟩:=hvk;obtain⟨ia,ic,rfl,_,_,_,_⟩:=hvi;have b0:=HB.out.blk.cell (o:=0) rfl;have b1:=HB.out.blk.cell (o:=1) rfl;have b2:=HB.out.blk.cell (o:=2) rfl;have n0:=HD.out.blk.cell (o:=0) rfl;have n1:=HD.out.blk.cell (o:=1) rfl;have n2:=HD.out.blk.cell (o:=2) rfl;have n3:=HD.out.blk.cell (o:=3) rfl;have HW1:=oh hw1;clear hL hP h m0 hN hok hw1;unfold pgV at HSZ ⊢
 go_enter Tryz.func145, Tryz.ntmps145
 go_wp2_with fail;rw[<- HW1.out];go_cut [17] (λv17 wx=>v17=.bool (decide (zG n<=(G.size:Int)-24))/\Hid (zF w1 wx))
 case first =>
  go_region_held3 (λw'=>w'.cell? ⟨w.heap.size+1,0,none⟩=some (.bool n.leaf)/\w'.cell? ⟨w.heap.size+1,1,none⟩=some (.slice ea n.entries.length ec)/\w'.cell? ⟨w.heap.size+1,2,none⟩=some (.slice ka n.keys.length kc)/\w'.cell? ⟨w.heap.size+1,3,none⟩=some (.slice ia n.kids.length ic) /\
    w'.cell? ⟨w.heap.size,0,none⟩=some (.pointer (some ⟨c,0,none⟩))/\w'.cell? ⟨w.heap.size,1,none⟩=some (.pointer (some ⟨s,0,none⟩))/\w'.cell? ⟨w.heap.size,2,none⟩=some (.int .u64 (gen:Int)))
   (first|(with_reducible exact⟨n0,n1,n2,n3,b0,b1,b2⟩)|(with_reducible exact⟨y0,y1,y2,y3,d0,d1,d2⟩)|(with_reducible exact⟨z0,z1,z2,z3,f0,f1,f2⟩)|go_keep)
   (first
    | (go_at_call 151;(with_reducible refine (HSZ.out _ (zA.refl _ w1).drew).mono ?_);rintro e w2 ⟨rfl,hm2⟩;have y0:=zE hm2 n0;have y1:=zE hm2 n1;have y2:=zE hm2 n2;have y3:=zE hm2 n3;have d0:=zE hm2 b0;have d1:=zE hm2 b1;have d2:=zE hm2 b2)
    | (go_at_call 150;refine (HFT.out _ ((zA.refl _ w1).drew.trans hm2)).mono ?_;rintro e w3 ⟨rfl,hm3⟩;have z0:=zE hm3 y0;have z1:=zE hm3 y1;have z2:=zE hm3 y2;have z3:=zE hm3 y3;have f0:=zE hm3 d0;have f1:=zE hm3 d1;have f2:=zE hm3 d2)
    | fail)
  all_goals
   go_wp2_with fail;go_meet;exact⟨rfl,oh ((zA.refl _ w1).drew.trans (hm2.trans hm3))⟩
 obtain⟨rfl,HX⟩:=hcut;have HB:=oh (HB.out.ext HX.out);have HD:=oh (HD.out.ext HX.out);have HR:=oh (HR.out.ext HX.out);have HO:=oh (HO.out.ext HX.out);have HN1:=oh (HN.out.trans (zY.ext HN.out.env HN.out.sub HX.out));have HG:=oh (HG.out.at HX.out);have b0:=HB.out.blk.cell (o:=0) rfl;have b1:=HB.out.blk.cell (o:=1) rfl;have b2:=HB.out.blk.cell (o:=2) rfl;have n0:=HD.out.blk.cell (o:=0) rfl;have n1:=HD.out.blk.cell (o:=1) rfl;have n2:=HD.out.blk.cell (o:=2) rfl;have n3:=HD.out.blk.cell (o:=3) rfl;cases hfit:decide (zG n<=(G.size:Int)-24) with
 | true =>
  have HFT:=oh (of_decide_eq_true hfit);have HDW:=oh (zFn HN1.out.env HN1.out.sub HG.out gen old hgen n _ _ _ (HVE.out.ext HX.out) (HVK.out.ext HX.out) (HVI.out.ext HX.out) HOK.out.bytes HOK.out.place.ok HOK.out.place.two (HOK.out.place.lt (by have:=HLIM.out;omega)) HOK.out.len (by have:=HOK.out.cost;omega));unfold pgV at HDW;clear hfit;go_wp2_with fail;refine HDW.out.mono ?_;rintro e w2 ⟨P2,F2,hG2,hN2,hr⟩;have HR2:=oh (HR.out.nxt hN2);have hO2:=HO.out.nxt hN2;have HG2:=oh hG2;have HN2:=oh (HN1.out.trans hN2);have o0:=hO2.blk.cell (o:=0) rfl;have o1:=hO2.blk.cell (o:=1) rfl;have o2:=hO2.blk.cell (o:=2) rfl;have o3:=hO2.blk.cell (o:=3) rfl;have o4:=hO2.blk.cell (o:=4) rfl;have of:=hO2.blk.frozen;have HO2:=oh hO2;have r0:=HR2.out.blk.cell (o:=0) rfl;have r1:=HR2.out.blk.cell (o:=1) rfl;have r2:=HR2.out.blk.cell (o:=2) rfl;have r3:=HR2.out.blk.cell (o:=3) rfl;have r4:=HR2.out.blk.cell (o:=4) rfl;have rf:=HR2.out.blk.frozen;clear hG2 hN2 hO2;rcases hr with ⟨i,hi,rfl⟩|⟨hi,f,el,rfl,hE⟩
  .have HSA:Hid (qC G l gen old n=.inl (yN G l gen old n,yV G l old n,⟨i,0,e0,false,false⟩)):=oh (by unfold qC;rw[if_pos HFT.out,hi]);clear hi;go_wp2_with fail;have mO:=zA.at (λk=>k=w.heap.size+1+1+1) w2 (w.heap.size+1+1+1) 0 (.int .i64 (i:Int)) rfl;have g3:=HG2.out.var HO2.out mO;have n3:=HN2.out.var HO2.out mO;have r3:=HR2.out.other mO (by omega);have mR:=zA.set5 (F:=λk=>k=w.heap.size+1+1) (zA.refl _ (w2.setCell ⟨w.heap.size+1+1+1,0,none⟩ (.int .i64 (i:Int)))) (R:=w.heap.size+1+1) (.inr rfl) (.int .i64 (i:Int)) (.int .i64 0) (.string ⟨#[]⟩) (.bool false) (.bool false);have bR:=r3.blk.set5 (.int .i64 (i:Int)) (.int .i64 0) (.string ⟨#[]⟩) (.bool false) (.bool false);refine bodyPost_ret (zC rfl _ _ (w.heap.size+1+1) 169 _ _ rfl bR Tryz.underlying169 rfl Tryz.outSz) rfl ?_;exact⟨P2,F2,_,_,g3.var r3 mR,n3.var r3 mR,.inl ⟨_,HSA.out,rfl⟩⟩
  .have HSA:Hid (qC G l gen old n=.inr (zBI G n)):=oh (by unfold qC;rw[if_pos HFT.out,hi]);have HFR:Hid (FrG G l (yN G l gen old n) (yV G l old n)):=oh (zKB HOK.out.place (by rw[HOK.out.low.1];simp));have HE:=oh hE;clear hi hE;go_wp2_with fail;have mO:=zA.at (λk=>k=w.heap.size+1+1+1) w2 (w.heap.size+1+1+1) 0 (.int .i64 0) rfl;have g3:=HG2.out.var HO2.out mO;have n3:=HN2.out.var HO2.out mO;have r3:=HR2.out.other mO (by omega);have mR:=zA.set5 (F:=λk=>k=w.heap.size+1+1) (zA.refl _ (w2.setCell ⟨w.heap.size+1+1+1,0,none⟩ (.int .i64 0))) (R:=w.heap.size+1+1) (.inr rfl) (.int .i64 0) (.int .i64 0) (.string ⟨#[]⟩) (.bool false) (.bool false);have bR:=r3.blk.set5 (.int .i64 0) (.int .i64 0) (.string ⟨#[]⟩) (.bool false) (.bool false);refine bodyPost_ret (zC rfl _ _ (w.heap.size+1+1) 169 _ _ rfl bR Tryz.underlying169 rfl Tryz.outSz) rfl ?_;exact⟨P2,F2,_,_,g3.var r3 mR,n3.var r3 mR,.inr ⟨_,zRd,_,_,HSA.out,HFR.out,rfl,(HE.out.mods (HO2.out.mF mO)).mods (r3.mF mR)⟩⟩
 | false=>exact absurd HFF.out (of_decide_eq_false hfit)
end
theorem Tryz.entSz:(Tryz.prog.info? 228).map (·.size)=some 4:=by kernel_rfl
section
variable {P P' F F':Nat->Prop}{ad:Nat->Addr}{w w':World}{c s:Nat}{G:GA}{l:List Nat}
theorem zMs(gen:Nat)(key v:ByteArray)(hv:v.size<=24) :
  Calls Tryz.prog 143 #[pgV c s gen,.string key,.string v] w λe w'=>e=.returned (.tuple #[.agg #[.string key,.string v,.int .i64 0,.int .i64 0],.nilIface])/\zF w w':=by
 have hv2:(v.size:Int)<=24:=by omega
 have HB:Hid (zH ((w.alloc (.cells #[.pointer (some ⟨c,0,none⟩),.pointer (some ⟨s,0,none⟩),.int .u64 (gen:Int)] 120)).alloc (.cells #[.string key,.string v,.int .i64 0,.int .i64 0] 228)) (w.heap.size+1) #[.string key,.string v,.int .i64 0,.int .i64 0] 228):=oh (zR (by simp));have HM:Hid (zF w ((w.alloc (.cells #[.pointer (some ⟨c,0,none⟩),.pointer (some ⟨s,0,none⟩),.int .u64 (gen:Int)] 120)).alloc (.cells #[.string key,.string v,.int .i64 0,.int .i64 0] 228))):=oh (((zA.refl _ w).alloc _).alloc _);clear hv;unfold pgV
 go_enter Tryz.func143, Tryz.ntmps143
 go_wp2_with fail;refine bodyPost_ret (zC rfl _ _ (w.heap.size+1) 228 _ _ rfl HB.out Tryz.underlying228 rfl Tryz.entSz) rfl ?_;exact⟨rfl,HM.out⟩
end
section
variable {P P' F F':Nat->Prop}{ad:Nat->Addr}{w w':World}{c s:Nat}{G:GA}{l:List Nat}
def zRL(b:Bool):StA zA0->StA zA0
 | .inr k=>.inr k
 | .inl (G2,l2,o)=>.inl (G2,l2,{ o with news:=b })
theorem zP4(key:ByteArray)(es:List zV):zAI key es<=es.length:=List.findIdx_le_length
end
def zD4(key v:ByteArray):Option Err:=if zAE key=false then some ([-1],2) else if 4096<v.size then some ([-1],8) else none
section
variable {P P' F F':Nat->Prop}{ad:Nat->Addr}{w w':World}{c s:Nat}{G:GA}{l:List Nat}
theorem zLU(hL:yG F ad w)(gen:Nat)(key v:ByteArray)(hfu:zDq ad\/v.size<=4096) :
  Calls Tryz.prog 90 #[pgV c s gen,.string key,.string v] w λe w'=>∃ev,e=.returned ev/\zBw F ad w' ev (zD4 key v)/\zF w w':=by
 unfold pgV;have m0:zF w (w.alloc (.cells #[.pointer (some ⟨c,0,none⟩),.pointer (some ⟨s,0,none⟩),.int .u64 (gen:Int)] 120)):=(zA.refl _ w).alloc _;have hL0:=hL.mods m0.ext;have g2:=hL0.c2;have HL:=oh hL0;have M0:=oh m0;have HFU:=oh hfu;clear hL hL0 m0 hfu;cases hk:zAE key with
 | false =>
  have HR:Hid (zD4 key v=some ([-1],2)):=oh (by unfold zD4;rw[if_pos hk]);have HK:=oh (zCH key);rw[hk] at HK;clear hk
  go_enter Tryz.func90, Tryz.ntmps90
  go_wp2_with fail;refine (HK.out _).mono ?_;rintro e w1 ⟨rfl,rfl⟩;go_wp2_with fail;refine (qN HL.out _ _ [] 2 (.sent 2 (by decide) (by decide))).mono ?_;rintro e w1 ⟨f,rfl,hE,hm⟩;have HE:=oh hE;have HM:=oh hm;clear hE hm;go_wp2_with fail;go_ret;exact⟨_,rfl,by rw[HR.out];exact⟨f,rfl,HE.out⟩,M0.out.trans HM.out⟩
 | true =>
  have HK:=oh (zCH key);rw[hk] at HK;by_cases hv:4096<v.size
  .have HR:Hid (zD4 key v=some ([-1],8)):=oh (by unfold zD4;rw[if_neg (by rw[hk];simp),if_pos hv]);have hv2:(4096:Int)<(v.size:Int):=by omega
   have g8:=HL.out.c8 (HFU.out.resolve_right (by omega));clear hk hv
   go_enter Tryz.func90, Tryz.ntmps90
   go_wp2_with fail;refine (HK.out _).mono ?_;rintro e w1 ⟨rfl,rfl⟩;go_wp2_with fail;refine (qN HL.out _ _ [] 8 (.sent 8 (by decide) (by decide))).mono ?_;rintro e w1 ⟨f,rfl,hE,hm⟩;have HE:=oh hE;have HM:=oh hm;clear hE hm;go_wp2_with fail;go_ret;exact⟨_,rfl,by rw[HR.out];exact⟨f,rfl,HE.out⟩,M0.out.trans HM.out⟩
  .have HR:Hid (zD4 key v=none):=oh (by unfold zD4;rw[if_neg (by rw[hk];simp),if_neg hv]);have hv2:¬ (4096:Int)<(v.size:Int):=by omega
   clear hk hv
   go_enter Tryz.func90, Tryz.ntmps90
   go_wp2_with fail;refine (HK.out _).mono ?_;rintro e w1 ⟨rfl,rfl⟩;go_wp2_with fail;go_ret;exact⟨_,rfl,by rw[HR.out];rfl,M0.out⟩
end
section
variable {P P' F F':Nat->Prop}{ad:Nat->Addr}{w w':World}{S d c sp:Nat}{s:yM}{home root keys:Int}{G G':GA}{l l':List Nat}
theorem StR.at[zW](h:StR F w P S d c sp s home root keys G l)(m:zF w w'):StR F w' P S d c sp s home root keys G l:=by
 obtain⟨h1,⟨a,cc,h2⟩,h3,h4⟩:=h;exact⟨h1.at m,⟨a,cc,h2.ext m⟩,h3,h4⟩
theorem StR.nxt[zW](h:StR F w P S d c sp s home root keys G l)(n:zY P P' F F' ad w w')(hG:jU F' w' P' c sp G' l'):StR F' w' P' S d c sp s home root keys G' l':=by
 obtain⟨h1,⟨a,cc,h2⟩,h3,h4⟩:=h;exact⟨hG,⟨a,cc,n.blk h2 h3⟩,n.not h2.lt h3,n.grow S h4⟩
theorem StR.set[zW](h:StR F w P S d c sp s home root keys G l)(r k:Int):StR F ((w.setCell ⟨S,9,none⟩ (.int .i64 r)).setCell ⟨S,10,none⟩ (.int .i64 k)) P S d c sp s home r k G l:=by
 obtain⟨h1,⟨a,cc,h2⟩,h3,h4⟩:=h;have m:zA (λj=>j=S) w ((w.setCell ⟨S,9,none⟩ (.int .i64 r)).setCell ⟨S,10,none⟩ (.int .i64 k)):=zA.setCell (F:=λj=>j=S) (zA.setCell (F:=λj=>j=S) (zA.refl _ w) (p:=⟨S,9,none⟩) (.inr rfl) _) (p:=⟨S,10,none⟩) (.inr rfl) _;exact⟨h1.plus m (λk hk e=>by have e':k=S:=e;exact h3 (e' ▸ hk)) (λk e=>by have e':k=S:=e;rw[e'];exact h4) (λ_ _ h=>h),⟨a,cc,by simpa[stC] using (h2.set 9 (.int .i64 r)).set 10 (.int .i64 k)⟩,h3,h4⟩
theorem zY.withS(n:zY P P' F F' ad w w'){w2:World}(hS:S<w.heap.size)(hF:F' S)(m:zA (λj=>j=S) w' w2):zY (qE P S) (qE P' S) F F' ad w w2 :=
 ⟨⟨(n.stp.mods.mono (λj h=>.inl h)).trans' m (λi _ h=>.inr h),λk hk h=>h.elim (λh=>.inl (n.stp.old k hk h)) .inr,λk h=>h.elim (λh=>Nat.lt_of_lt_of_le (n.stp.bd k h) m.size) (λe=>by rw[e];exact Nat.lt_of_lt_of_le hS (Nat.le_trans n.stp.mods.size m.size))⟩,
  λk h=>h.elim (λh=>n.sub k h) (λe=>by rw[e];exact hF),n.grow,n.oldF,n.env.mods (m.mono (λj h=>by have h':j=S:=h;rw[h'];exact hF))⟩
theorem StR.lt[zW](h:StR F w P S d c sp s home root keys G l):S<w.heap.size:=by
 obtain⟨_,⟨a,cc,h2⟩,_,_⟩:=h;exact h2.lt
theorem zOk(r k:Int):zA (λj=>j=S) w ((w.setCell ⟨S,9,none⟩ (.int .i64 r)).setCell ⟨S,10,none⟩ (.int .i64 k)):=zA.setCell (F:=λj=>j=S) (zA.setCell (F:=λj=>j=S) (zA.refl _ w) (p:=⟨S,9,none⟩) (.inr rfl) _) (p:=⟨S,10,none⟩) (.inr rfl) _
theorem zQv[zW](h:StR F w P S d c sp s home root keys G l)(op:ByteArray) : Calls Tryz.prog 53 #[.pointer (some ⟨S,0,none⟩),.string op] w λe w'=>e=.returned .nilIface/\w=w':=by
 obtain⟨h1,⟨a,cc,h2⟩,h3,h4⟩:=h;have c12:=h2.cell (o:=12) (v:=.bool false) rfl;clear h1 h2 h3 h4
 go_enter Tryz.func53, Tryz.ntmps53
 go_wp2_with fail;go_ret;exact⟨rfl,rfl⟩
theorem Tryz.stPgSize:(Tryz.prog.info? 120).map (·.size)=some 3:=by kernel_rfl
theorem zQw[zW](h:StR F w P S d c sp s home root keys G l)(hg:s.gen+1<18446744073709551616) : Calls Tryz.prog 55 #[.pointer (some ⟨S,0,none⟩)] w λe w'=>e=.returned (pgV c sp (s.gen+1))/\zF w w':=by
 obtain⟨h1,⟨a,cc,h2⟩,h3,h4⟩:=h;have c1:=h2.cell (o:=1) (v:=.pointer (some ⟨c,0,none⟩)) rfl;have c2:=h2.cell (o:=2) (v:=.pointer (some ⟨sp,0,none⟩)) rfl;have c3:=h2.cell (o:=3) (v:=.int .u64 (s.gen:Int)) rfl;have hS:=h2.lt;have HB0:=oh (zH.new w #[.pointer none,.pointer none,.int .u64 0] 120);have hne:S≠w.heap.size:=λe=>by omega
 obtain⟨g,hgg⟩:∃g,g=s.gen:=⟨_,rfl⟩;have HPV:Hid (pgV c sp (s.gen+1)=.agg #[.pointer (some ⟨c,0,none⟩),.pointer (some ⟨sp,0,none⟩),.int .u64 ((g:Int)+1)]):=oh (by rw[hgg];rfl);rw[<- hgg] at c3 hg;clear h1 h2 h3 h4 hgg
 go_enter Tryz.func55, Tryz.ntmps55
 go_wp2_with fail;go_region
 go_wp2_with fail;refine bodyPost_ret (results_cell_row rfl _ _ w.heap.size 120 #[.pointer (some ⟨c,0,none⟩),.pointer (some ⟨sp,0,none⟩),.int .u64 ((g:Int)+1)] (0,0) _ rfl (zH.drew (zH.new w _ _)) Tryz.underlying120 rfl Tryz.stPgSize) rfl ?_;exact⟨by rw[HPV.out],((zA.refl _ w).alloc _).drew⟩
end
section
variable {P P' F F':Nat->Prop}{ad:Nat->Addr}{w w':World}{S d c sp:Nat}{s:yM}{home root keys:Int}{C:qJ}{l:List Nat}
theorem StO.at(h:StO F w P S d c sp s home root keys C l)(m:zF w w'):StO F w' P S d c sp s home root keys C l:=by
 obtain⟨sb,bvs,Pd,b2,h1,h2,h3,h4,⟨a,cc,h5⟩,h6,h7⟩:=h;exact⟨sb,bvs,Pd,b2,h1.at m,h2.mods m (λf=>f) (λf=>f),h3,h4,⟨a,cc,h5.ext m⟩,h6,h7⟩
theorem StO.blk(h:StO F w P S d c sp s home root keys C l):∃a cc,zH w S (stC d (.pointer (some ⟨c,0,none⟩)) (.pointer (some ⟨sp,0,none⟩)) s home root keys (.slice a 0 cc) false) 123:=by
 obtain⟨sb,bvs,Pd,b2,h1,h2,h3,h4,h5,h6,h7⟩:=h;exact h5
theorem zRe(c12:w.cell? ⟨S,12,none⟩=some (.bool false))(op:ByteArray) : Calls Tryz.prog 53 #[.pointer (some ⟨S,0,none⟩),.string op] w λe w'=>e=.returned .nilIface/\w=w':=by
 go_enter Tryz.func53, Tryz.ntmps53
 go_wp2_with fail;go_ret;exact⟨rfl,rfl⟩
end
end
section
open Go.RowKit
section
variable {P P' F F':Nat->Prop}{ad:Nat->Addr}{w w':World}{S d c sp:Nat}{s:yM}{home root keys:Int}{C C':qJ}{G:GA}{l l':List Nat}
theorem StO.ca(hL:yG F ad w)(hP:∀k,P k->F k)(h:StO F w P S d c sp s home root keys C l) :
  ∃sb bvs Pd,CaR F w d c sb bvs Pd C/\(∀k,caF c sb Pd k->F k)/\∀(sb':Nat) (bvs':List Value) (Pd' F':Nat->Prop) (w':World) (C':qJ),CaR F' w' d c sb' bvs' Pd' C'->zY (caF c sb Pd) (caF c sb' Pd') F F' ad w w' ->
   ∃P',StO F' w' P' S d c sp s home root keys C' l/\zY P P' F F' ad w w':=by
 obtain⟨sb,bvs,Pd,b2,h1,h2,h3,h4,⟨a,cc,h5⟩,h6,h7⟩:=h;refine⟨sb,bvs,Pd,h1,λk hk=>hP k ((h3 k).2 (.inl hk)),λsb' bvs' Pd' F' w' C' k1 n=>?_⟩;have hns:¬ caF c sb Pd sp:=λf=>h4 sp f (.inl rfl)
 have hnb:¬ caF c sb Pd b2:=λf=>h4 b2 f (.inr rfl)
 have q:=n.part (Q:=spF sp b2) (λk hk=>hP k ((h3 k).2 (.inr hk))) hL;have q2:zY P (λk=>caF c sb' Pd' k\/spF sp b2 k) F F' ad w w':=q.iff h3 (λk=>Iff.rfl);refine⟨λk=>caF c sb' Pd' k\/spF sp b2 k,⟨sb',bvs',Pd',b2,k1,h2.mods n.stp.mods hns hnb,λk=>Iff.rfl,λk hk hs=>?_,⟨a,cc,q2.blk h5 h6⟩,q2.not h5.lt h6,q2.grow S h7⟩,q2⟩;exact h4 k (n.stp.old k (zMO h2 k hs) hk) hs
theorem StO.dk(hL:yG F ad w)(hP:∀k,P k->F k)(h:StO F w P S d c sp s home root keys C l) :
  ∃Pd,jT w Pd d C.disk/\(∀k,Pd k->F k)/\∀(Pd' F':Nat->Prop) (w':World) (D:zI),jT w' Pd' d D->zY Pd Pd' F F' ad w w' ->
   ∃P',StO F' w' P' S d c sp s home root keys { C with disk:=D } l/\zY P P' F F' ad w w':=by
 obtain⟨sb,bvs,Pd,h1,hF,h2⟩:=h.ca hL hP;refine⟨Pd,h1.disk,λk hk=>hF k (.inl hk),λPd' F' w' D hD n=>?_⟩;exact h2 sb bvs Pd' F' w' _ (h1.disk' hF n hD) (n.part (Q:=λk=>k=c\/k=sb) (λk hk=>hF k (.inr hk)) hL)
theorem StO.space(hL:yG F ad w)(hP:∀k,P k->F k)(h:StO F w P S d c sp s home root keys C l) :
  ∃b2,SpR w sp b2 l/\(∀k,spF sp b2 k->F k)/\∀(w':World) (l':List Nat),SpR w' sp b2 l'->zA (spF sp b2) w w'->StO F w' P S d c sp s home root keys C l'/\zY P P F F ad w w':=by
 obtain⟨sb,bvs,Pd,b2,h1,h2,h3,h4,⟨a,cc,h5⟩,h6,h7⟩:=h;refine⟨b2,h2,λk hk=>hP k ((h3 k).2 (.inr hk)),λw' l' hS m=>?_⟩;have n:=zY.same hL hP (m.mono (λk hk=>(h3 k).2 (.inr hk)));exact⟨⟨sb,bvs,Pd,b2,h1.plus m h4 (λk hk=>hP k ((h3 k).2 (.inr hk))) (λ_ _ h=>h),hS,h3,h4,⟨a,cc,n.blk h5 h6⟩,h6,h7⟩,n⟩
theorem StR.open[zW](hd:d=zGT)(h:StR F w P S d c sp s home root keys G l):∃C,StO F w P S d c sp s home root keys C l/\yI C/\qW C G/\G.cost<=1000000/\zGB d l:=by
 obtain⟨⟨d',sb,bvs,Pd,b2,C,h1,h2,h3,h4,h5,h6,h7,h8⟩,k2,k3,k4⟩:=h;obtain rfl:d'=d:=h8.1.trans hd.symm;exact⟨C,⟨sb,bvs,Pd,b2,h1,h5,h6,h7,k2,k3,k4⟩,h2,h3,h4,h8⟩
theorem StO.offS(h:StO F w P S d c sp s home root keys C l):¬ P S/\F S:=by
 obtain⟨sb,bvs,Pd,b2,h1,h2,h3,h4,h5,h6,h7⟩:=h;exact⟨h6,h7⟩
theorem StO.cells{s':yM}{home' root' keys':Int}{a':Option Addr}{cc':Nat}(h:StO F w P S d c sp s home root keys C l)(m:zA (λj=>j=S) w w')(hB:zH w' S (stC d (.pointer (some ⟨c,0,none⟩)) (.pointer (some ⟨sp,0,none⟩)) s' home' root' keys' (.slice a' 0 cc') false) 123):StO F w' P S d c sp s' home' root' keys' C l:=by
 obtain⟨sb,bvs,Pd,b2,h1,h2,h3,h4,⟨a,cc,h5⟩,h6,h7⟩:=h;exact⟨sb,bvs,Pd,b2,h1.plus m (λk hk e=>by have e':k=S:=e;exact h6 (e' ▸ (h3 k).2 (.inl hk))) (λk e=>by have e':k=S:=e;rw[e'];exact h7) (λ_ _ h=>h),h2.mods m (λe=>h6 (e ▸ (h3 sp).2 (.inr (.inl rfl)))) (λe=>h6 (e ▸ (h3 b2).2 (.inr (.inr rfl)))),h3,h4,⟨a',cc',hB⟩,h6,h7⟩
end
end
section
open Go.RowKit
attribute [local go_sem ↓] Go.wp_at_zero Go.wp_at_succ
section
variable {P P' F F':Nat->Prop}{ad:Nat->Addr}{w w':World}{d S c sp:Nat}{s:yM}{home root keys:Int}{C:qJ}{l:List Nat}
def zBp(F P:Nat->Prop)(ad:Nat->Addr)(w:World)(S d c sp:Nat)(s:yM)(home root keys:Int)(l:List Nat)(R:qJ->Prop)(e:Ending)(w':World):Prop :=
 e=.returned .nilIface/\∃P' F' C',StO F' w' P' S d c sp s home root keys C' l/\zY P P' F F' ad w w'/\R C'
theorem zP5[zW](hL:yG F ad w)(hP:∀k,P k->F k)(h:StO F w P S d c sp s home root keys C l)(hI:yI C)(hc:C.cost<=1000000) :
  Calls Tryz.prog 96 #[.pointer (some ⟨c,0,none⟩)] w (zBp F P ad w S d c sp s home root keys l (λC'=>Sim C C'/\(∀(j:Nat) (t:zS),C'.slots[j]? = some t->t.wet=false)/\∀p∈C'.disk.waiting,p.1<C'.disk.blocks)):=by
 obtain⟨sb,bvs,Pd,h1,hF,h2⟩:=h.ca hL hP;refine (zKo hL hF h1 hI hc).mono ?_;rintro e w' ⟨Pd',F',C',rfl,k1,k2,k3,k4⟩;obtain⟨P',q1,q2⟩:=h2 _ _ _ _ _ _ k1 k3;exact⟨rfl,P',F',C',q1,q2,k2,k4,zRI k1⟩
theorem zP6(hL:yG F ad w)(hP:∀k,P k->F k)(h:StO F w P S d c sp s home root keys C l)(ho:C.disk.off=false)(hl:C.disk.lit=false) :
  Calls Tryz.prog 33 #[.pointer (some ⟨d,0,none⟩)] w (zBp F P ad w S d c sp s home root keys l (λC'=>C'=zDE C)):=by
 obtain⟨Pd,h1,hF,h2⟩:=h.dk hL hP;refine (jT.flush hL hF h1 ho hl).mono ?_;rintro e w' ⟨P1,F1,rfl,k1,k2⟩;obtain⟨P',q1,q2⟩:=h2 _ _ _ _ k1 k2;exact⟨rfl,P',F1,_,q1,q2,rfl⟩
theorem zMt(hL:yG F ad w)(hP:∀k,P k->F k)(h:StO F w P S d c sp s home root keys C l)(hw:zCb C.disk)(hfew:C.disk.waiting.length<900000)(m:vF)(hm:zAa m=true)(hg:m.gen<18446744073709551616)(uv:Value)(hu:Sl F w 1 yK uv (yA m))(hb8:8<=C.disk.blocks)(h1:256<=C.disk.size)(h2:C.disk.size<=1024) :
  Calls Tryz.prog 46 #[.pointer (some ⟨d,0,none⟩),zB5 m uv] w (zBp F P ad w S d c sp s home root keys l (λC'=>C' = { C with disk:=zD0 C.disk m 2 })):=by
 obtain⟨Pd,k1,hF,k2⟩:=h.dk hL hP;refine (zGi hL hF k1 hw hfew m hm hg uv hu hb8 h1 h2).mono ?_;rintro e w' ⟨P1,F1,rfl,k3,k4⟩;obtain⟨P',q1,q2⟩:=k2 _ _ _ _ k3 k4;exact⟨rfl,P',F1,_,q1,q2,rfl⟩
theorem zH5(hL:yG F ad w)(hP:∀k,P k->F k)(h:StO F w P S d c sp s home root keys C l)(hw:zCb C.disk)(hfew:C.disk.waiting.length<1000000)(nx:yM)(hs:zBP nx=true)(hg:nx.gen<18446744073709551616)(hz:nx.size=C.disk.size)(i:Nat)(hi:i<2)(hb:8<=C.disk.blocks) :
  Calls Tryz.prog 47 #[.pointer (some ⟨d,0,none⟩),qF nx,.int .i64 (i:Int)] w (zBp F P ad w S d c sp s home root keys l (λC'=>C'=zCC C nx i)):=by
 obtain⟨Pd,k1,hF,k2⟩:=h.dk hL hP;refine (zDY hL hF k1 hw hfew nx hs hg hz i hi hb).mono ?_;rintro e w' ⟨P1,F1,rfl,k3,k4⟩;obtain⟨P',q1,q2⟩:=k2 _ _ _ _ k3 k4;exact⟨rfl,P',F1,_,q1,q2,rfl⟩
theorem zR6[zW](h6:vQ=6)(hL:yG F ad w)(hP:∀k,P k->F k)(h:StO F w P S d c sp s home root keys C l)(hI:yI C)(hc:C.cost+2<=900000)(hwt:zCb C.disk)
  (m:vF) (hm:zAa m=true) (hg:m.gen<18446744073709551616) (hu:yA m=zBj l l.length) (z r k:Int) :
  Calls Tryz.prog 57 #[.agg #[.pointer (some ⟨S,0,none⟩),.int .u64 (m.gen:Int),.int .i64 (m.blocks:Int),.int .i64 z,.int .i64 r,.int .i64 k]] w (zBp F P ad w S d c sp s home root keys l (λC'=>zEF C m C')):=by
 obtain⟨g,hgg⟩:∃g,g=m.gen:=⟨_,rfl⟩;obtain⟨b,hb2⟩:∃b,b=m.blocks:=⟨_,rfl⟩;obtain⟨U,hU⟩:∃U,U=(yA m).length:=⟨_,rfl⟩;obtain⟨X,hX⟩:∃X,X=w.heap.size:=⟨_,rfl⟩;obtain⟨W0,hW0⟩:∃W0,W0=w.alloc (.cells #[.pointer (some ⟨S,0,none⟩),.int .u64 (g:Int),.int .i64 (b:Int),.int .i64 z,.int .i64 r,.int .i64 k] 125):=⟨_,rfl⟩;have hM0:zF w W0:=by rw[hW0];exact (zA.refl _ w).alloc _
 have hX0:zH W0 X #[.pointer (some ⟨S,0,none⟩),.int .u64 (g:Int),.int .i64 (b:Int),.int .i64 z,.int .i64 r,.int .i64 k] 125:=by rw[hW0,hX];exact zH.new w _ _
 obtain⟨b2,hsp,hsF, -⟩:=h.space hL hP;obtain⟨a0,cc0,hB⟩:=h.blk;obtain⟨hPS,hFS⟩:=h.offS;have HPX:Hid (¬ P X):=oh (λf=>by have:=hL.lt _ (hP _ f);omega);have HUS:Hid (∀W,zF W0 W -> Calls Tryz.prog 95 #[.pointer (some ⟨sp,0,none⟩)] W λe w'=>∃a c1,e=.returned (.slice a U c1)/\(∀w2 Q,zA Q w' w2->(∀j,Q j->j<W.heap.size)->Sl F w2 1 yK (.slice a U c1) (yA m))/\zF W w'):=oh (λW mm=>(zPn W sp b2 l ((hsp.mods hM0 (λf=>f) (λf=>f)).mods mm (λf=>f) (λf=>f))).mono (λe w' ⟨uv,e1,e2,e3⟩=>by
  rw[<- hu] at e2;obtain⟨a,c1,e4,e5,e6⟩:=e2.form;rw[<- hU] at e4;subst e4;refine⟨a,c1,e1,λw2 Q m2 hQ=>?_,e3⟩;have hlt:∀q,F q->q<w.heap.size:=hL.lt;exact ((e2.mods m2 (λq hq hf=>by have a1:=(e2.lt q hq).1;have a2:=hQ q hf;omega)).blocks (G:=F) (λq hq hf=>by have a1:=(e2.lt q hq).1;have a2:=hlt q hf;have a3:=hM0.size;have a4:=mm.size;omega)).sl vW.len (by
   have h6:=(jC m).1 hm;have h7:=zDd m.used 0 m.blocks h6.2.2.2.2.1 (λn hn=>⟨Nat.zero_le _,h6.2.2.2.2.2 n hn⟩) (Nat.zero_le _);unfold yA;rw[List.length_map];omega)))
 have HWM:Hid (∀W,zF W0 W->∀a c1,Sl F W 1 yK (.slice a U c1) (yA m) -> Calls Tryz.prog 46 #[.pointer (some ⟨d,0,none⟩),.agg #[.int .u64 (g:Int),.int .i64 (b:Int),.slice a U c1]] W (zBp F P ad W S d c sp s home root keys l (λC'=>C' = { C with disk:=zD0 C.disk m 2 }))):=oh (λW mm a c1 hs=>by
  have:=zMt (hL.mods (hM0.trans mm).ext) hP (h.at (hM0.trans mm)) hwt (by unfold qJ.cost at hc;omega) m hm hg _ hs hI.b8 hI.s256 hI.s1024;rw[show zB5 m (.slice a U c1)=.agg #[.int .u64 (g:Int),.int .i64 (b:Int),.slice a U c1] by rw[hgg,hb2];rfl] at this;exact this)
 obtain⟨C1,hC1⟩:∃C1,C1=({ C with disk:=zD0 C.disk m 2 }:qJ):=⟨_,rfl⟩;have hI1:yI C1:=by rw[hC1];exact zPv h6 hI hm
 have hc1:C1.cost<=1000000:=by
  have:=(zEe hwt hm hI.b8 hI.s256 2 (Nat.le_refl 2)).2.2.2;rw[hC1];unfold qJ.cost at hc ⊢;show (zD0 C.disk m 2).waiting.length+C.slots.countP (·.wet)<=1000000;omega
 have HFC:Hid (∀W (P1 F1:Nat->Prop),yG F1 ad W->(∀k,P1 k->F1 k)->StO F1 W P1 S d c sp s home root keys C1 l -> Calls Tryz.prog 96 #[.pointer (some ⟨c,0,none⟩)] W (zBp F1 P1 ad W S d c sp s home root keys l (λC'=>Sim C1 C'/\(∀(j:Nat) (t:zS),C'.slots[j]? = some t->t.wet=false)/\∀p∈C'.disk.waiting,p.1<C'.disk.blocks))):=oh (λW P1 F1 e1 e2 e3=>zP5 e1 e2 e3 hI1 hc1);have HLD:Hid (∀C2,Sim C1 C2->(∀(j:Nat) (t:zS),C2.slots[j]? = some t->t.wet=false)->(∀p∈C2.disk.waiting,p.1<C2.disk.blocks)->zEF C m (zDE C2)):=oh (λC2 e1 e2 e3=>⟨C2,rfl,by rw[<- hC1];exact e1,e2,e3⟩);rw[<- hC1] at HWM;have HSX:=oh (λW (mm:zF W0 W)=>(⟨(hX0.ext mm).cell rfl,(hX0.ext mm).cell rfl,(hX0.ext mm).cell rfl,(hB.ext (hM0.trans mm)).cell rfl,(hB.ext (hM0.trans mm)).cell rfl⟩:W.cell? ⟨X,0,none⟩=some (.pointer (some ⟨S,0,none⟩))/\W.cell? ⟨X,1,none⟩=some (.int .u64 (g:Int))/\W.cell? ⟨X,2,none⟩=some (.int .i64 (b:Int))/\W.cell? ⟨S,0,none⟩=some (.pointer (some ⟨d,0,none⟩))/\W.cell? ⟨S,2,none⟩=some (.pointer (some ⟨sp,0,none⟩))));have HM0:=oh hM0;have HPS:=oh hPS;have HP:=oh hP;have HL:=oh hL;have hXW:X<W0.heap.size:=hX0.lt;have hSW:S<W0.heap.size:=Nat.lt_of_lt_of_le hB.lt hM0.size;have zd:=HSX.out _ (zA.refl _ W0).drew;have za:=HSX.out _ ((zA.refl _ W0).alloc (.cells #[.int .u64 0,.int .i64 0,.slice none 0 0] 106)).drew;have n1:X≠W0.heap.size:=by omega
 have n2:S≠W0.heap.size:=by omega
 rw[<- hgg,<- hb2];clear hL hP h hI hc hwt hB hPS hFS hsp hsF hm hg hu hgg hb2 hU hX0 hM0 hC1 hI1 hc1
 go_enter Tryz.func57, Tryz.ntmps57
 go_wp2_with fail;rw[<- hW0,<- hX];clear hW0 hX;go_region_held3 (λw'=>w'.cell? ⟨X,0,none⟩=some (.pointer (some ⟨S,0,none⟩))/\w'.cell? ⟨X,1,none⟩=some (.int .u64 (g:Int))/\w'.cell? ⟨X,2,none⟩=some (.int .i64 (b:Int))/\w'.cell? ⟨S,0,none⟩=some (.pointer (some ⟨d,0,none⟩))/\w'.cell? ⟨S,2,none⟩=some (.pointer (some ⟨sp,0,none⟩)))
  (first|(with_reducible exact zd)|(with_reducible exact z5)|(with_reducible exact z7)|(with_reducible exact z6)|(with_reducible exact za)|fail)
  (first
   | (go_at_call 95;((with_reducible refine (HUS.out _ (zA.refl _ W0).drew).mono ?_);rintro e w6 ⟨ua,uc,rfl,hs6,m6⟩;have x6:=(zA.refl _ W0).drew.trans m6;have z5:=HSX.out _ x6;have z7:=HSX.out _ (x6.alloc (.cells #[.int .u64 0,.int .i64 0,.slice none 0 0] 106));have hB:zH (w6.alloc (.cells #[.int .u64 0,.int .i64 0,.slice none 0 0] 106)) w6.heap.size #[.int .u64 0,.int .i64 0,.slice none 0 0] 106:=zH.new w6 _ _;have b0:=hB.cell (o:=0) (v:=.int .u64 0) rfl;have b1:=hB.cell (o:=1) (v:=.int .i64 0) rfl;have b2:=hB.cell (o:=2) (v:=.slice none 0 0) rfl;have bf:=hB.frozen;have lo:W0.heap.size<=w6.heap.size:=x6.size;have z6:=HSX.out _ (x6.alloc (.cells #[.int .u64 (g:Int),.int .i64 (b:Int),.slice ua U uc] 106));have HP3:∃X3 w3,X3=w6.heap.size/\w3=w6.alloc (.cells #[.int .u64 (g:Int),.int .i64 (b:Int),.slice ua U uc] 106)/\zH w3 X3 #[.int .u64 (g:Int),.int .i64 (b:Int),.slice ua U uc] 106 /\ zF W0 w3/\Sl F w3 1 yK (.slice ua U uc) (yA m):=⟨_,_,rfl,rfl,zH.new w6 _ _,x6.alloc _,hs6 _ _ ((zA.refl (λ_=>False) w6).alloc _) (λ_ f=>f.elim)⟩))
   | (go_at_call 95;((with_reducible refine (HUS.out _ ((zA.refl _ W0).alloc (.cells #[.int .u64 0,.int .i64 0,.slice none 0 0] 106)).drew).mono ?_);rintro e w6 ⟨ua,uc,rfl,hs6,m6⟩;have x6:=((zA.refl _ W0).alloc (.cells #[.int .u64 0,.int .i64 0,.slice none 0 0] 106)).drew.trans m6;have z5:=HSX.out _ x6;have z7:=z5;have hB:zH w6 W0.heap.size #[.int .u64 0,.int .i64 0,.slice none 0 0] 106:=zH.ext (w:=(W0.alloc (.cells #[.int .u64 0,.int .i64 0,.slice none 0 0] 106)).drew) (zH.new W0 _ _) m6;have b0:=hB.cell (o:=0) (v:=.int .u64 0) rfl;have b1:=hB.cell (o:=1) (v:=.int .i64 0) rfl;have b2:=hB.cell (o:=2) (v:=.slice none 0 0) rfl;have bf:=hB.frozen;have lo:W0.heap.size<=W0.heap.size:=Nat.le_refl _;have z6:=HSX.out _ (zA.set3 (F:=λ_=>False) x6 (R:=W0.heap.size) (.inl lo) (.int .u64 (g:Int)) (.int .i64 (b:Int)) (.slice ua U uc));have HP3:∃X3 w3,X3=W0.heap.size/\w3=(((w6.setCell ⟨W0.heap.size,0,none⟩ (.int .u64 (g:Int))).setCell ⟨W0.heap.size,1,none⟩ (.int .i64 (b:Int))).setCell ⟨W0.heap.size,2,none⟩ (.slice ua U uc))/\zH w3 X3 #[.int .u64 (g:Int),.int .i64 (b:Int),.slice ua U uc] 106 /\ zF W0 w3/\Sl F w3 1 yK (.slice ua U uc) (yA m):=⟨_,_,rfl,rfl,zH.set3 hB (.int .u64 (g:Int)) (.int .i64 (b:Int)) (.slice ua U uc),zA.set3 (F:=λ_=>False) x6 (R:=W0.heap.size) (.inl lo) (.int .u64 (g:Int)) (.int .i64 (b:Int)) (.slice ua U uc),hs6 _ _ (zA.set3 (F:=λj=>j=W0.heap.size) (zA.refl _ w6) (R:=W0.heap.size) (.inr rfl) (.int .u64 (g:Int)) (.int .i64 (b:Int)) (.slice ua U uc)) (λj hj=>by rw[hj];exact (zH.new W0 #[.int .u64 0,.int .i64 0,.slice none 0 0] 106).lt)⟩))
   | fail)
 all_goals
  obtain⟨M,w3,hM,hw3,hC,m3,hs3⟩:=HP3;rw[<- hw3,<- hM];have HM3:=oh (HM0.out.trans m3);have HPM:Hid (¬ P M):=oh (λf=>by have h1:=HL.out.lt _ (HP.out _ f);have h2:=HM0.out.size;omega);clear zd za z5 z7 z6 x6 m6 hB b0 b1 b2 bf lo n1 n2 hs6;have zm:=λ(W:World) (mm:zF w3 W)=>(⟨(HSX.out W (m3.trans mm)).1,(HSX.out W (m3.trans mm)).2.2.2.1,(hC.ext mm).cell rfl,(hC.ext mm).cell rfl,(hC.ext mm).cell rfl⟩:W.cell? ⟨X,0,none⟩=some (.pointer (some ⟨S,0,none⟩))/\W.cell? ⟨S,0,none⟩=some (.pointer (some ⟨d,0,none⟩))/\W.cell? ⟨M,0,none⟩=some (.int .u64 (g:Int))/\W.cell? ⟨M,1,none⟩=some (.int .i64 (b:Int))/\W.cell? ⟨M,2,none⟩=some (.slice ua U uc))
  have zd:=zm _ (zA.refl _ w3).drew;have HWB:=oh (HWM.out _ (m3.trans (zA.refl _ w3).drew) ua uc (hs3.ext (zA.refl _ w3).drew));clear hw3 hM hC m3 hs3;go_wp2_with fail;go_region_held3 (λw'=>w'.cell? ⟨X,0,none⟩=some (.pointer (some ⟨S,0,none⟩))/\w'.cell? ⟨S,0,none⟩=some (.pointer (some ⟨d,0,none⟩))/\w'.cell? ⟨M,0,none⟩=some (.int .u64 (g:Int))/\w'.cell? ⟨M,1,none⟩=some (.int .i64 (b:Int))/\w'.cell? ⟨M,2,none⟩=some (.slice ua U uc))
   (first|(with_reducible exact zd)|(with_reducible exact zq)|fail)
   (first
    | (go_at_call 46;((with_reducible refine HWB.out.mono ?_);intro e w7 hq7;obtain⟨rfl,P7,F7,C7,h7,n7,rfl⟩:=hq7;have zq:w7.cell? ⟨X,0,none⟩=some (.pointer (some ⟨S,0,none⟩))/\w7.cell? ⟨S,0,none⟩=some (.pointer (some ⟨d,0,none⟩))/\w7.cell? ⟨M,0,none⟩=some (.int .u64 (g:Int))/\w7.cell? ⟨M,1,none⟩=some (.int .i64 (b:Int))/\w7.cell? ⟨M,2,none⟩=some (.slice ua U uc):=⟨n7.cellK zd.1 HPX.out,n7.cellK zd.2.1 HPS.out,n7.cellK zd.2.2.1 HPM.out,n7.cellK zd.2.2.2.1 HPM.out,n7.cellK zd.2.2.2.2 HPM.out⟩))
    | fail)
  have n07:=(zY.ext HL.out HP.out (HM3.out.trans (zA.refl _ w3).drew)).trans n7;have H7:=oh h7;have N7:=oh n07;have HFC7:=oh (HFC.out w7 P7 F7 n07.env n07.sub h7);obtain⟨a7,c7,hB7⟩:=h7.blk;have x0:=zq.1;have x1:=hB7.cell (o:=1) (v:=.pointer (some ⟨c,0,none⟩)) rfl;have HX7:Hid (¬ P7 X/\X<w7.heap.size):=oh ⟨n7.not (yH zd.1) HPX.out,yH zq.1⟩;clear n07 n7 h7 hB7 zd zq;go_wp2_with fail;refine HFC7.out.mono ?_;rintro e w8 ⟨rfl,P8,F8,C8,h8,n8,hS8,hcl8,hwt8⟩;have y0:=n8.cellK x0 HX7.out.1;obtain⟨a8,c8,hB8⟩:=h8.blk;have y1:=hB8.cell (o:=0) (v:=.pointer (some ⟨d,0,none⟩)) rfl;have HFD:=oh (zP6 n8.env n8.sub h8 hS8.inv.off hS8.inv.lit);have HZ:=oh (And.intro (N7.out.trans n8) (HLD.out C8 hS8 hcl8 hwt8));clear x0 x1 h8 n8 hS8 hcl8 hwt8 hB8;go_wp2_with fail;refine HFD.out.mono ?_;rintro e w9 ⟨rfl,P9,F9,C9,h9,n9,rfl⟩;have H9:=oh (And.intro h9 (HZ.out.1.trans n9));clear h9 n9 y0 y1;go_wp2_with fail;go_ret;exact⟨rfl,P9,F9,_,H9.out.1,H9.out.2,HZ.out.2⟩
end
end
end Go.Proofs.YteabpacpngaoaaaGreatDoor
