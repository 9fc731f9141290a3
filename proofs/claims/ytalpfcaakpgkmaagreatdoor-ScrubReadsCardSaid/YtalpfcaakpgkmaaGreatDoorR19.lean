import Derived.Laws.BitsAllLaws
import Derived.Test.YtalpfcaakpgkmaaGreatDoorR18
namespace Go.Proofs.YtalpfcaakpgkmaaGreatDoor
open Lib renaming hid->oh
set_option maxHeartbeats 1000000
set_option maxRecDepth 100000
section
open Go.RowKit
def qQ:List Nat->List (Nat × Nat)->List Nat
 | l,[]=>l
 | l,(i,g) :: r=>qQ (l.set i g) r
theorem zBU:∀(r:List (Nat × Nat)) (l:List Nat),(qQ l r).length=l.length
 | [],_=>rfl
 | (i,g) :: r,l=>by rw[qQ,zBU r,tN]
theorem zF7:∀(r:List (Nat × Nat)) (l:List Nat) (p:Nat × Nat),qQ l (r++[p])=(qQ l r).set p.1 p.2
 | [],_,_=>rfl
 | (i,g) :: r,l,p=>by rw[tF,qQ,zF7 r,qQ]
theorem zKV{l:List Nat}{i g k:Nat}(h:k∈l.set i g):k∈l\/k=g:=by
 obtain⟨j,hj,e⟩:=wF h;rw[List.getElem_set] at e;split at e
 .exact .inr e.symm
 .left;rw[<- e];exact tB _
theorem zEq:∀(r:List (Nat × Nat)) (l:List Nat) (k:Nat),k∈qQ l r->k∈l\/k∈r.map (·.2)
 | [],_,_,h=>.inl h
 | (i,g) :: r,l,k,h=>by
  rw[qQ] at h;rcases zEq r _ k h with h|h
  .rcases zKV h with h|h
   .exact .inl h
   .exact .inr (by simp[h])
  .exact .inr (by simp[h])
theorem zJW:∀(l:List Nat) (i g:Nat),l.Nodup->g ∉ l->(l.set i g).Nodup
 | [],_,_,_,_=>by simp
 | a :: l,0,g,h,hg=>by
  rw[List.set_cons_zero,uV];exact⟨λhm=>hg (uJ _ hm),(uV.1 h).2⟩
 | a :: l,i+1,g,h,hg=>by
  rw[List.set_cons_succ,uV];refine⟨λhm=>?_,zJW l i g (uV.1 h).2 (λhm=>hg (uJ _ hm))⟩;rcases zKV hm with hm|rfl
  .exact (uV.1 h).1 hm
  .exact hg uK
theorem zFP:∀(r:List (Nat × Nat)) (l:List Nat),(l++r.map (·.2)).Nodup->(qQ l r).Nodup
 | [],l,h=>by simpa[qQ] using h
 | (i,g) :: r,l,h=>by
  rw[qQ];rw[tS,uX] at h;obtain⟨h1,h2,h3⟩:=h;rw[uV] at h2;refine zFP r _ ?_;rw[uX];refine⟨zJW l i g h1 (λhm=>h3 g hm g uK rfl),h2.2,λa ha b hb e=>?_⟩;subst e;rcases zKV ha with ha|rfl
  .exact h3 a ha a (uJ _ hb) rfl
  .exact h2.1 hb
theorem zG5(R:Nat->List UInt8->Prop):∀(W:List (Nat × List UInt8)) (ws:List Nat) (gs:List Nat) (L:List (List UInt8)),ws.length=W.length->gs.length=L.length ->
  (∀(i g:Nat) (b:List UInt8),gs[i]? = some g->L[i]? = some b->R g b)->(∀(i g:Nat) (p:Nat × List UInt8),ws[i]? = some g->W[i]? = some p->R g p.2) ->
  ∀(i g:Nat) (b:List UInt8),(qQ gs ((W.map (·.1)).zip ws))[i]? = some g->(settle L W)[i]? = some b->R g b
 | [],ws,gs,L,_,_,h1,_,i,g,b,hg,hb=>h1 i g b (by simpa[qQ] using hg) hb
 | (j,c) :: W,[],gs,L,hl,_,_,_,_,_,_,_,_=>by simp at hl
 | (j,c) :: W,x :: ws,gs,L,hl,Bn,h1,h2,i,g,b,hg,hb=>by
  rw[tS,List.zip_cons_cons,qQ] at hg;rw[settle] at hb;refine zG5 R W ws (gs.set j x) (L.set j c) (by simpa using hl) (by simpa using Bn) (λi' g' b' hg' hb'=>?_) (λi' g' p' hg' hp'=>h2 (i'+1) g' p' (by simpa using hg') (by simpa using hp')) i g b hg hb;rcases zK hg' with ⟨rfl,rfl⟩|⟨A6,hg'⟩
  .rcases zK hb' with ⟨_,rfl⟩|⟨A6,_⟩
   .exact h2 0 g' (i',b') (by simp) (by simp)
   .exact absurd rfl A6
  .rcases zK hb' with ⟨e,_⟩|⟨_,hb'⟩
   .exact absurd e A6
   .exact h1 i' g' b' hg' hb'
section
variable {P F:NP}{ad:Nat->Addr}{w w':World}{d bl:Nat}{gs ws:List Nat}{wv kv:Value}{D:zJ}
theorem zN5{l:List Nat}{m:List Nat}(h:l.length=m.length):(l.zip m).map (·.2)=m:=List.map_snd_zip (by omega)
theorem DkR.waitC2(h:DkR w d bl gs ws wv kv D)(k:Nat)(p:Nat × List UInt8)(hk:D.waiting[k]? = some p):∃b c g,wv=.slice (some ⟨b,0,none⟩) D.waiting.length c/\ws[k]? = some g /\
  w.cell? ⟨b,k * 2,none⟩=some (.int .i64 (p.1:Int))/\w.cell? ⟨b,k * 2+1,none⟩=some (zAT D.size g)/\b ∉ d :: bl :: (gs++ws)/\p.1<D.blocks:=by
 obtain⟨b,off,n,c,g,h1,h2,h3,h4,_,_⟩:=h.waitC k p hk;have hr:=h.wrow k g p h2 hk;obtain⟨_,a',c',hv⟩:=h.wvC;rcases h.wait.1.2 with ⟨e,_⟩|⟨g',cap,cur,e,_⟩
 .rw[h1] at e;cases e
 .rw[h1] at e hv;simp only[Value.slice.injEq,Option.some.injEq,Addr.mk.injEq] at e hv;obtain⟨⟨rfl,rfl,_⟩,_,_⟩:=e;refine⟨b,c,g,by rw[h1,hv.2.1],h2,by simpa using h3,by simpa using h4,h.wait.2 b (by rw[h1];rfl),hr.1⟩
theorem DkR.settled{w1 wr:World}(h:DkR w1 d bl gs ws wv kv D)(m:zA (λx=>x=bl) w1 wr){cap:Nat}{rest:List Value}(h1:D.blocks<=cap)(h2:cap<=9223372036854775807)
  (hd:zG w1 d #[.int .i64 D.blocks,.int .i64 D.size,.slice (some ⟨bl,0,none⟩) D.blocks cap,wv,.bool D.lit,.int .i64 D.after,.int .i64 D.torn,.int .i64 D.cut,kv,.bool D.off,.int .i64 D.count] 130)
  (hb:zG wr bl (((qQ gs ((D.waiting.map (·.1)).zip ws)).map (zAT D.size))++rest).toArray 69) (hl:gs.length+rest.length=cap) :
  DkR (wr.setCell ⟨d,3,none⟩ (.slice none 0 0)) d bl (qQ gs ((D.waiting.map (·.1)).zip ws)) [] (.slice none 0 0) kv { D with lasting:=settle D.lasting D.waiting,waiting:=[] }:=by
 have hz:((D.waiting.map (·.1)).zip ws).map (·.2)=ws:=zN5 (by simp[h.lenW]);have A2:∀k,k∈qQ gs ((D.waiting.map (·.1)).zip ws)->k∈gs++ws:=λk hk=>by
  rcases zEq _ _ k hk with h|h
  .exact wE _ h
  .rw[hz] at h;exact wK _ h
 have Aa:=h.nodup;have Ab:d≠bl:=λe=>(uV.1 Aa).1 (by rw[e];exact uK)
 have An:∀k,k∈gs++ws->k≠bl/\k≠d:=λk hk=>⟨λe=>(uV.1 (uV.1 Aa).2).1 (e ▸ hk),λe=>(uV.1 Aa).1 (e ▸ uJ _ hk)⟩
 have Ar:∀(g:Nat) (b:List UInt8),(g∈gs++ws/\b.length=D.size/\zG w1 g (qA b) 5)->zG (wr.setCell ⟨d,3,none⟩ (.slice none 0 0)) g (qA b) 5:=λg b ⟨k1,_,k3⟩=>(k3.mods m (An g k1).1).set_other (An g k1).2 _
 have R:=zG5 (λg b=>g∈gs++ws/\b.length=D.size/\zG w1 g (qA b) 5) D.waiting ws gs D.lasting h.lenW (by rw[h.lenB,h.lenL])
  (λi g b hg hb=>⟨wE _ (uU hg),h.row i g b hg hb⟩) (λi g p hg hp=>⟨wK _ (uU hg),(h.wrow i g p hg hp).2⟩)
 have nd:(d :: bl :: (qQ gs ((D.waiting.map (·.1)).zip ws)++[])).Nodup:=by
  rw[wJ,uV,uV];refine⟨λhm=>?_,λhm=>(An bl (A2 bl hm)).1 rfl,zFP _ _ ?_⟩
  .rw[uQ] at hm;rcases hm with hm|hm
   .exact Ab hm
   .exact (An d (A2 d hm)).2 rfl
  .rw[hz];exact (uV.1 (uV.1 Aa).2).2
 have A7:∀k,k∈d :: bl :: (qQ gs ((D.waiting.map (·.1)).zip ws)++[])->k∈d :: bl :: (gs++ws):=λk hk=>by
  simp only[wJ,uQ] at hk ⊢;rcases hk with hk|hk|hk
  .exact .inl hk
  .exact .inr (.inl hk)
  .exact .inr (.inr (A2 k hk))
 refine⟨⟨cap,h1,h2,?_,rest,hb.set_other (λe=>Ab e.symm) _,by rw[zBU];exact hl⟩,by rw[zBU];exact h.lenB,by rw[zBF];exact h.lenL,rfl,?_,λg hg=>by simp[Value.ownBlock],h.few2,yC.nil _ _ _ _ _ _,
  λi g b hg hb=>⟨(R i g b hg hb).2.1,Ar g b (R i g b hg hb)⟩,λi g p hg=>by simp at hg,nd,h.b8,h.b256,h.s256,h.s1024,by simp⟩
 .have:=(hd.mods m Ab).set 3 (.slice none 0 0);simpa using this
 .have k1:=(h.keep.mods m (λg hg e=>h.keep.2 g hg (e ▸ uJ _ uK))).mods (zA.at (λk=>k=d) wr d 3 (.slice none 0 0) rfl) (λg hg e=>h.keep.2 g hg (e ▸ uK));exact⟨k1.1,λg hg hm=>k1.2 g hg (A7 g hm)⟩
def zMt(F P:NP)(ad:Nat->Addr)(w:World)(d:Nat)(D':zJ)(e:Ending)(w':World):Prop:=∃P' F',e=.returned .nilIface/\DkS w' P' d D'/\zX P P' F F' ad w w'
theorem zMu(hL:yH F ad w)(hP:∀k,P k->F k)(h:DkR w d bl gs ws wv kv D)(hD:∀k,P k ↔ dkF d bl gs ws wv kv k)(ho:D.off=false)(hl:D.lit=false) :
  Calls Tryz.prog 64 #[.pointer (some ⟨d,0,none⟩)] w (zMt F P ad w d D.flushed):=by
 have c9:=h.offC;rw[ho] at c9;have HL:=oh hL;have HD:=oh h;have HP:=oh hP;have A8:=oh hD;have HO:=oh ho;clear h hL hP hD ho
 go_enter Tryz.func64, Tryz.ntmps64
 go_wp2_with fail;refine (zH4 HD.out hl).mono ?_;rintro e w1 ⟨rfl,Ad,Ae⟩;obtain⟨D1,As⟩:∃x,x=D.burns.2:=⟨_,rfl⟩;have B2:D.flushed = { D1 with lasting:=settle D1.lasting D1.waiting,waiting:=[] }:=by rw[As];unfold zJ.burns zJ.flushed;simp[hl]
 rw[<- As] at Ad;have Bo:=oh B2;have A1:=oh Ad;have At:=oh Ae;obtain⟨cap,a1,a2,a3,rest,a4,a5⟩:=A1.out.own;have B3:=Ad.b256;have Bp:=Ad.few;obtain⟨n,hn⟩:∃n,n=D1.waiting.length:=⟨_,rfl⟩;obtain⟨c3,av,cv,hv⟩:=Ad.wvC;rw[hv,<- hn] at c3;rw[<- hn] at Bp;have HV:=oh hv;have HN:=oh hn;have A3:=oh a3;have A4:=oh a4;clear Ad Ae B2 As hv hn a3 a4;go_wp2_with fail;go_loopg [24] n (λm i wr=>∃k:Nat,k+m=n/\i=.int .i64 k/\Hid (zA (λx=>x=bl) w1 wr/\zG wr bl (((qQ gs (((D1.waiting.map (·.1)).zip ws).take k)).map (zAT D1.size))++rest).toArray 69))
 case atStart=>exact⟨0,by omega,rfl,oh ⟨zA.refl _ _,A4.out⟩⟩
 case round =>
  obtain⟨k,hk,rfl,HW⟩:=hrel;have Ab:d≠bl:=λe=>(uV.1 A1.out.nodup).1 (by rw[e];exact uK)
  have d3:=((A3.out.mods HW.out.1 Ab).d 3 wv rfl);by_cases Ag:k<n
  .obtain⟨p,hp⟩:∃p,D1.waiting[k]? = some p:=⟨_,uB (by rw[<- HN.out];exact Ag)⟩;obtain⟨b,c,g,e1,e2,e3,e4,e5,e6⟩:=A1.out.waitC2 k p hp;rw[HV.out] at e1;simp only[Value.slice.injEq] at e1;obtain⟨rfl,_,rfl⟩:=e1;have B4:b≠bl:=λe=>e5 (e ▸ uJ _ uK)
   have x0:=(HW.out.1.cell (yN e3) B4).trans e3;have x1:=(HW.out.1.cell (yN e4) B4).trans e4;simp only[zAT] at x1;have d2:=((A3.out.mods HW.out.1 Ab).d 2 (.slice (some ⟨bl,0,none⟩) D1.blocks cap) rfl);have Ac:((qQ gs (((D1.waiting.map (·.1)).zip ws).take k)).map (zAT D1.size)++rest).length=cap:=by rw[uC,wS,zBU];exact a5
   obtain⟨v0,Ah⟩:∃v0,wr.cell? ⟨bl,p.1,none⟩=some v0:=⟨_,HW.out.2.cell (by rw[List.getElem?_toArray];exact uB (by rw[Ac];omega))⟩;have fb:=HW.out.2.frozen;have C8:d<wr.heap.size:=yN d2;have Ai:bl<wr.heap.size:=yN Ah;have C9:b<wr.heap.size:=yN x0;have Bq:=oh e2;have Br:=oh hp;obtain⟨pi,pb⟩:=p;simp only at *;have h1:(0:Int)<=(pi:Int):=by omega
   have h2:(pi:Int)<(D1.blocks:Int):=by omega
   have Bs:=oh Ac;have A9:Hid (∀wz,wz=(wr.setCell ⟨bl,pi,none⟩ (.slice (some ⟨g,0,none⟩) D1.size D1.size)).alloc (.cells #[.int .i64 (pi:Int),.slice (some ⟨g,0,none⟩) D1.size D1.size] 230)->zA (λx=>x=bl) w1 wz/\zG wz bl (((qQ gs (((D1.waiting.map (·.1)).zip ws).take (k+1))).map (zAT D1.size))++rest).toArray 69):=oh (by
    rintro _ rfl;refine⟨(HW.out.1.setCell (.inr rfl) _).alloc _,?_⟩;have q:=((HW.out.2.set pi (.slice (some ⟨g,0,none⟩) D1.size D1.size)).alloc (.cells #[.int .i64 (pi:Int),.slice (some ⟨g,0,none⟩) D1.size D1.size] 230));have e:(((qQ gs (((D1.waiting.map (·.1)).zip ws).take (k+1))).map (zAT D1.size))++rest).toArray=((((qQ gs (((D1.waiting.map (·.1)).zip ws).take k)).map (zAT D1.size))++rest).toArray.setIfInBounds pi (.slice (some ⟨g,0,none⟩) D1.size D1.size)):=by
     rw[vO _ k (pi,g) (by rw[List.getElem?_zip_eq_some];exact⟨by simp[Br.out],Bq.out⟩),zF7];simp only[List.map_set,List.setIfInBounds_toArray];rw[List.set_append_left _ _ (by rw[wS,zBU,A1.out.lenB];omega)];rfl
    rw[e];exact q)
   clear hp e2 e3 e4 e5 Ac d3;go_wp2_with fail;go_region
   go_wp2_with fail;go_roundg (gk-1)
   case measure=>omega
   case rel=>exact⟨k+1,by omega,by go_num,oh (by have:=A9.out _ rfl;exact⟨this.1.drew,this.2⟩)⟩
  .obtain rfl:k=n:=by omega
   have HZ:Hid (((D1.waiting.map (·.1)).zip ws).take k=(D1.waiting.map (·.1)).zip ws):=oh (uY (by simp[A1.out.lenW,HN.out]));have f3:wr.frozen? ⟨d,3,none⟩=false:=(A3.out.mods HW.out.1 Ab).frozen 3;rw[HV.out] at d3;go_wp2_with fail;go_ret;have Ao:=HW.out.2;rw[HZ.out] at Ao;have hs:=A1.out.settled HW.out.1 a1 a2 A3.out Ao a5;have Ai:P bl:=(A8.out bl).2 (.inl (uJ _ uK));have hd:P d:=(A8.out d).2 (.inl uK);have m1:zA P w w1:=At.out.mono (λx hx=>hx ▸ hd);have m2:zA P w wr:=m1.trans (HW.out.1.mono (λx hx=>hx ▸ Ai));have m3:=m2.setCell (p:=⟨d,3,none⟩) (.inr hd) (.slice none 0 0);have Bt:Bd P w:=λx hx=>HD.out.bdF x ((A8.out x).1 hx)
   have st:Stp P (dkF d bl (qQ gs ((D1.waiting.map (·.1)).zip ws)) [] (.slice none 0 0) kv) w (wr.setCell ⟨d,3,none⟩ (.slice none 0 0)):=by
    have A7:∀x,dkF d bl (qQ gs ((D1.waiting.map (·.1)).zip ws)) [] (.slice none 0 0) kv x->P x:=λx hx=>by
     rcases hx with hx|hx|hx
     .simp only[wJ,uQ] at hx;rcases hx with rfl|rfl|hx
      .exact hd
      .exact Ai
      .refine (A8.out x).2 (.inl (uJ _ (uJ _ ?_)));rcases zEq _ _ x hx with hx|hx
       .exact wE _ hx
       .rw[zN5 (by simp[A1.out.lenW])] at hx;exact wK _ hx
     .simp[Value.ownBlock] at hx
     .exact (A8.out x).2 (.inr (.inr hx))
    exact⟨m3,λx _ hx=>A7 x hx,λx hx=>uF (Bt x (A7 x hx)) m3.size⟩
   refine⟨_,_,rfl,⟨bl,_,_,_,kv,?_,λk=>rQ⟩,zX.of HL.out HP.out st⟩;rw[Bo.out];exact hs
end
end
section
open Go.RowKit
attribute [local go_sem ↓] Go.wp_at_zero Go.wp_at_succ
theorem zQO(b s:Nat)(h1:8<=b)(h2:b<=256)(h3:256<=s)(h4:s<=1024)(w:World) :
  Calls Tryz.prog 75 #[.agg #[.int .i64 (b:Int),.int .i64 (s:Int)]] w λe w'=>e=.returned (.bool true)/\zF w w':=by
 have a1:decide ((8:Int)<=(b:Int))=true:=by simp;omega
 have a2:decide ((b:Int)<=256)=true:=by simp;omega
 have a3:decide ((256:Int)<=(s:Int))=true:=by simp;omega
 have a4:decide ((s:Int)<=1024)=true:=by simp;omega
 clear h1 h2 h3 h4
 go_enter Tryz.func75, Tryz.ntmps75
 go_wp2
 go_ret;exact⟨rfl,zr.alloc _⟩
def zLQ(size:Nat)(g:Nat):List Value:=[zAT size g]
theorem zRX(size:Nat):zCx (zLQ size) 1:=⟨λ_=>rfl,by intro x u hu;simp[zLQ,zAT] at hu;subst hu;rfl⟩
theorem Tryz.elR:ElT Tryz.prog 60 69 (.slice none 0 0) 1 24:=⟨Tryz.underlying60,by kernel_rfl,rfl,by decide,by decide⟩
section
variable {F:NP}{ad:Nat->Addr}{w w':World}
def zOt(w:World)(B0 B1 b s:Nat)(wr:World)(gs:List Nat)(v:Value):Prop :=
 zF w wr/\B1<wr.heap.size/\zG wr B0 #[.int .i64 (b:Int),.int .i64 (s:Int)] 53 /\ zG wr B1 #[.int .i64 (b:Int),.int .i64 (s:Int),v,.slice none 0 0,.bool false,.int .i64 0,.int .i64 0,.int .i64 0,.slice none 0 0,.bool false,.int .i64 0] 130 /\
   yC (λx=>x∈B0 :: B1 :: gs) wr B0 69 1 (zLQ s) v gs/\(B0 :: B1 :: gs).Nodup/\∀g,g∈gs->B1<g/\zG wr g (qA (List.replicate s 0)) 5
theorem zLR(s:Nat):qA (List.replicate s 0)=Array.replicate s (.int .u8 0):=by
 rw[qA,List.map_replicate,List.toArray_replicate];rfl
theorem zOt.step{B0 B1 b s:Nat}{wr w4:World}{gs:List Nat}{v v':Value}(h:zOt w B0 B1 b s wr gs v)(hw:w.heap.size<=B0)(hB:B0<B1)
  (A5:yC (λx=>x∈B0 :: B1 :: gs) w4 B0 69 1 (zLQ s) v' (gs++[wr.heap.size])) (A0:((wr.drew.alloc (.cells (Array.replicate s (.int .u8 0)) 5)).alloc (.cells #[.slice (some ⟨wr.heap.size,0,none⟩) s s] 69)).grownBy w4 v.ownBlock)
  (Ap:v'.ownBlock=v.ownBlock\/v'.ownBlock=some (wr.heap.size+2)):zOt w B0 B1 b s (w4.setCell ⟨B1,2,none⟩ v') (gs++[wr.heap.size]) v':=by
 obtain⟨h1,h2,h3,h4,h6,h7,h8⟩:=h;have mg:=zA.of_grown A0;have m0:zF wr ((wr.drew.alloc (.cells (Array.replicate s (.int .u8 0)) 5)).alloc (.cells #[.slice (some ⟨wr.heap.size,0,none⟩) s s] 69)):=((zss wr).drew.alloc _).alloc _;have e1:((wr.drew.alloc (.cells (Array.replicate s (.int .u8 0)) 5)).alloc (.cells #[.slice (some ⟨wr.heap.size,0,none⟩) s s] 69)).heap.size=wr.heap.size+2:=by simp
 have Aj:=mg.size;rw[e1] at Aj;have e3:wr.drew.heap.size=wr.heap.size:=rfl;have mA:zA (λx=>v.ownBlock=some x) wr w4:=m0.ext.trans mg;have Ah:∀x,v.ownBlock=some x->w.heap.size<=x/\x<wr.heap.size:=λx hx=>by have:=h6.lt x hx;omega
 have B5:∀x,x∈B0 :: B1 :: gs->¬ v.ownBlock=some x:=λx hx e=>h6.2 x e hx
 have Ag:∀x,x∈B0 :: B1 :: gs->x<wr.heap.size:=λx hx=>by
  simp only[uQ] at hx;rcases hx with rfl|rfl|hx
  .exact h3.lt
  .exact h4.lt
  .exact (h8 x hx).2.lt
 have far:∀(x:Nat) (c:Array Value) (t:TypeId),x∈B0 :: B1 :: gs->x≠B1->zG wr x c t->zG (w4.setCell ⟨B1,2,none⟩ v') x c t:=λx c t hx A6 hb=>(hb.mods mA (B5 x hx)).set_other A6 _
 have A2:∀x,x∈B0 :: B1 :: (gs++[wr.heap.size])->x∈B0 :: B1 :: gs\/x=wr.heap.size:=λx hx=>by
  simp only[uQ,uM,List.not_mem_nil,or_false] at hx ⊢;rcases hx with h|h|h|h <;> simp[h]
 have Au:zG (w4.setCell ⟨B1,2,none⟩ v') wr.heap.size (qA (List.replicate s 0)) 5:=by
  rw[zLR];exact (((zG.new wr.drew _ _).alloc _).mods mg (λe=>by have:=Ah _ e;omega)).set_other (by simp only;omega) _
 refine⟨(h1.trans' mA (λi hi e=>by have:=(Ah i e).1;omega)).setCell (.inl (by simp only;omega)) _,?_,far B0 _ _ uK (by omega) h3,?_,?_,?_,λg hg=>?_⟩
 .simp only[World.setCell,Array.size_modify];omega
 .have:=(h4.mods mA (B5 B1 (uJ _ uK))).set 2 v';simpa using this
 .have Bu:∀x,v'.ownBlock=some x->x≠B1:=λx hx e=>A5.2 x hx (e ▸ uJ _ uK)
  have k1:=A5.mods (zA.at (λx=>x=B1) w4 B1 2 v' rfl) Bu;refine⟨k1.1,λx hx hm=>?_⟩;rcases A2 x hm with hm|rfl
  .exact k1.2 x hx hm
  .rcases Ap with e|e
   .have:=(Ah _ (e ▸ hx)).2;omega
   .rw[e] at hx;injection hx with hx;omega
 .have e:B0 :: B1 :: (gs++[wr.heap.size])=(B0 :: B1 :: gs)++[wr.heap.size]:=by simp
  rw[e,uX];exact⟨h7,by simp,λx hx y hy e=>by have:=Ag x hx;simp at hy;omega⟩
 .rw[uM] at hg;rcases hg with hg|hg
  .exact⟨(h8 g hg).1,far g _ _ (uJ _ (uJ _ hg)) (λe=>by have:=(h8 g hg).1;omega) (h8 g hg).2⟩
  .simp at hg;subst hg;exact⟨h2,Au⟩
theorem zLS(s:Nat):∀gs:List Nat,gs.map (zAT s)=gs.flatMap (zLQ s)
 | []=>rfl
 | x :: r=>by rw[tS,wQ,zLS s r];rfl
theorem zOt.disk{B0 B1 b s:Nat}{wr:World}{gs:List Nat}{cap:Nat}{a:Option Addr}(h:zOt w B0 B1 b s wr gs (.slice a b cap))(hl:gs.length=b)(hw:w.heap.size<=B0)(hB:B0<B1)(h1:8<=b)(h2:b<=256)(h3:256<=s)(h4:s<=1024) :
  ∃P,DkS wr P B1 (zBJ b s)/\∀k,P k->w.heap.size<=k:=by
 obtain⟨k1,k2,k3,k4,k6,k7,k8⟩:=h;rcases k6.1.2 with ⟨e,_⟩|⟨bl,cap',cur,e,hb,Av,hc,hm,hs,ht⟩
 .cases e;omega
 .simp only[Value.slice.injEq] at e;obtain⟨rfl,_,rfl⟩:=e;have Af:=k6.2 bl rfl;simp only[uQ,not_or] at Af;have Aa:=(uV.1 k7).2;unfold maxLen at hm;refine⟨dkF B1 bl gs [] (.slice none 0 0) (.slice none 0 0),⟨bl,gs,[],.slice none 0 0,.slice none 0 0,⟨⟨cap,by show b<=cap;omega,by omega,k4,cur.toList.drop gs.length,?_,?_⟩,hl,by simp[zBJ],rfl,yC.nil _ _ _ _ _ _,λg hg=>by simp[Value.ownBlock] at hg,by simp[zBJ],yC.nil _ _ _ _ _ _,
   λi g b' hg hb'=>?_,λi g p hg=>by simp at hg,?_,h1,h2,h3,h4,by simp[zBJ]⟩,λk=>rQ⟩,λk hk=>?_⟩
  .have e2:(gs.map (zAT (zBJ b s).size)++cur.toList.drop gs.length).toArray=cur:=by
    have:gs.map (zAT (zBJ b s).size)=cur.toList.take gs.length:=by
     have h5:cur.toList.take (gs.length * 1)=gs.flatMap (zLQ s):=by simpa using ht
     rw[wC] at h5;rw[h5];exact zLS s gs
    rw[this,uZ,Array.toArray_toList]
   rw[e2];exact Av
  .simp;omega
  .rw[show (zBJ b s).lasting=List.replicate b (List.replicate s 0) by rfl,tW] at hb';split at hb'
   .injection hb' with hb';subst hb';exact⟨by simp[zBJ],(k8 g (uU hg)).2⟩
   .cases hb'
  .rw[wJ,uV,uV];refine⟨?_,Af.2.2,(uV.1 Aa).2⟩;rw[uQ];rintro (e|e)
   .exact Af.2.1 e.symm
   .exact (uV.1 Aa).1 e
  .have Bv:w.heap.size<=B1:=by omega
   rcases hk with hk|hk|hk
   .simp only[wJ,uQ] at hk;rcases hk with rfl|rfl|hk
    .exact Bv
    .omega
    .have:=(k8 k hk).1;omega
   .simp[Value.ownBlock] at hk
   .simp[Value.ownBlock] at hk
theorem zQP(b s:Nat)(h1:8<=b)(h2:b<=256)(h3:256<=s)(h4:s<=1024) :
  Calls Tryz.prog 31 #[.agg #[.int .i64 (b:Int),.int .i64 (s:Int)]] w λe w'=>∃d P,e=.returned (.tuple #[.pointer (some ⟨d,0,none⟩),.nilIface])/\DkS w' P d (zBJ b s)/\(∀k,P k->w.heap.size<=k)/\zF w w':=by
 have B6:=zHy (P:=Tryz.prog) 69 5 (.int .u8 0) 1 Tryz.underlying69 Tryz.mkB rfl s (by omega) (by omega)
 go_enter Tryz.func31, Tryz.ntmps31
 go_wp2_with fail;refine (zQO b s h1 h2 h3 h4 _).mono ?_;rintro e w1 ⟨rfl,hm⟩;have k0:=(zG.new w #[.int .i64 (b:Int),.int .i64 (s:Int)] 53).ext hm;have c0:=k0.d 0 (.int .i64 (b:Int)) rfl;have c1:=k0.d 1 (.int .i64 (s:Int)) rfl;have HM:Hid (zF w w1):=oh (((zss w).alloc _).trans hm);have HS:Hid (w.heap.size<w1.heap.size):=oh k0.lt;have K0:=oh k0;have Aj:=HS.out;clear k0 hm;go_wp2_with fail;go_loopg [15] b (λm i wr=>∃(cap:Nat) (gs:List Nat) (a:Option Addr),gs.length+m=b/\i=.int .i64 gs.length/\Hid (zOt w w.heap.size w1.heap.size b s wr gs (.slice a gs.length cap)))
 case atStart=>exact⟨0,[],none,by simp,rfl,oh ⟨HM.out.alloc _,by simp,K0.out.alloc _,zG.new w1 _ _,yC.nil _ _ _ _ _ _,by simp;omega,by simp⟩⟩
 case round =>
  obtain⟨cap,gs,a,hk,rfl,HW⟩:=hrel;obtain⟨B7,Ao,Aw,Ax,Ay,Bw,B8⟩:=HW.out;have d2:=Ax.d 2 (.slice a gs.length cap) rfl;have f2:=Ax.frozen 2;have g0:=Aw.d 0 (.int .i64 (b:Int)) rfl;have g1:=Aw.d 1 (.int .i64 (s:Int)) rfl;have l0:=yN g0;have l1:=yN d2;have HO:Hid (yC (λx=>x∈w.heap.size :: w1.heap.size :: gs) wr.drew w.heap.size 69 1 (zLQ s) (.slice a gs.length cap) gs):=oh (Ay.ext zr.drew);have Bx:Hid (∀x,x∈w.heap.size :: w1.heap.size :: gs->x<wr.heap.size):=oh (λx hx=>by
   simp only[uQ] at hx;rcases hx with rfl|rfl|hx
   .exact l0
   .exact l1
   .exact (B8 x hx).2.lt)
  have By:Hid (¬ (Value.slice a gs.length cap).ownBlock=some w1.heap.size):=oh (λe=>Ay.2 _ e (by simp));have Bz:Hid (w.heap.size<=wr.heap.size):=oh B7.size;obtain⟨k,B9⟩:∃k,k=gs.length:=⟨_,rfl⟩;have Ca:=oh B9;have C0:∀x:Obj,((wr.alloc x).cell? ⟨w1.heap.size,2,none⟩=some (.slice a gs.length cap)/\(wr.alloc x).cell? ⟨w.heap.size,1,none⟩=some (.int .i64 (s:Int))):=λx=>⟨zR d2 x,zR g1 x⟩
  have Ba:∀x y:Obj,((wr.alloc x).alloc y).cell? ⟨w1.heap.size,2,none⟩=some (.slice a gs.length cap):=λx y=>zR (zR d2 x) y
  clear B7 Ao Aw Ax Ay Bw B8 B9;by_cases Ag:gs.length<b
  .go_wp2_with fail;go_region_law
    ((refine zH5 (enc:=zLQ s) (F:=λx=>x∈w.heap.size :: w1.heap.size :: gs) (G:=λ_=>False) Tryz.elR (zRX s) (by rfl) _ _ (by rfl) w.heap.size (.slice a gs.length cap) (.slice (some ⟨wr.heap.size+1,0,none⟩) 1 1) gs [wr.heap.size] (by rfl) (by rfl) (HO.out.ext (((zA.refl _ wr.drew).alloc _).alloc _)) (Sl.one (x:=wr.heap.size) (t := 69) (fz:=(0,0)) (zS (by simp)) (λf=>f)) (by simp;omega) (by have:=Bz.out;simp;omega) (λf=>by have:=Bx.out _ f;simp at this;omega) ?_;intro a' c' w4 A5 A0 Ap;obtain⟨k4,k5⟩:=zJU (zA.of_grown A0) (zJV (zJV (w:=wr.drew) ⟨d2,f2⟩ _) _) By.out))
   all_goals
    have A9:=oh (HW.out.step (uD _) Aj A5 A0 (by simpa using Ap));clear A5 A0 Ap k4 k5;go_wp2_with fail;go_roundg (gk-1)
    case measure=>omega
    case rel=>exact⟨c',gs++[wr.heap.size],a',by simp;omega,by simp,by simpa using A9⟩
  .have Bb:gs.length=b:=by omega
   have Bc:=oh Bb;clear Bb;go_wp2_with fail;go_ret2
   have hN:=HW.out;rw[Bc.out] at hN;obtain⟨P,q1,q2⟩:=hN.disk Bc.out (uD _) Aj h1 h2 h3 h4;exact⟨w1.heap.size,P,rfl,q1,q2,hN.1⟩
end
end
section
open Go.RowKit
section
variable {P F:NP}{ad:Nat->Addr}{w w':World}{d bl:Nat}{gs ws:List Nat}{wv kv:Value}{D:zJ}
theorem zRY(x mask k r:Nat)(hx:x<256)(hm:mask<4294967296)(hr:r<8):bits .xor .u8 (x:Int) (bits .and .u32 ((mask:Int) / 2 ^ k) 1 % 256 * 2 ^ r % 256)=((x ^^^ (mask / 2 ^ k % 2 * 2 ^ r):Nat):Int):=by
 have e1:((mask:Int) / 2 ^ k)=((mask / 2 ^ k:Nat):Int):=by simp
 have B6:mask / 2 ^ k<4294967296:=Nat.lt_of_le_of_lt (Nat.div_le_self _ _) hm;have e2:bits .and .u32 ((mask / 2 ^ k:Nat):Int) 1=((mask / 2 ^ k % 2:Nat):Int):=by
  have:=u32_and_nat (mask / 2 ^ k) 1 B6 (by decide);rw[nat_mask1] at this;exact this
 have hb:mask / 2 ^ k % 2<2:=pE _ (by omega);rw[e1,e2];generalize mask / 2 ^ k % 2=b at hb
 have hp:=zKH b r hb hr;have e3:((b:Int) % 256 * 2 ^ r % 256)=((b * 2 ^ r:Nat):Int):=by
  rw[Int.emod_eq_of_lt (by omega) (by omega:(b:Int)<256)];have e:((b * 2 ^ r:Nat):Int)=(b:Int) * 2 ^ r:=by simp
  rw[<- e];omega
 rw[e3];exact u8_xor_nat x (b * 2 ^ r) hx hp
theorem zJX:∀(l:List Nat) (i j x:Nat),l.Nodup->l[i]? = some x->l[j]? = some x->i=j
 | [],i,_,_,_,h,_=>by simp at h
 | a :: l,0,0,_,_,_,_=>rfl
 | a :: l,0,j+1,x,hn,h1,h2=>by
  simp at h1 h2;subst h1;exact absurd (uU h2) (uV.1 hn).1
 | a :: l,i+1,0,x,hn,h1,h2=>by
  simp at h1 h2;subst h2;exact absurd (uU h1) (uV.1 hn).1
 | a :: l,i+1,j+1,x,hn,h1,h2=>by rw[zJX l i j x (uV.1 hn).2 (by simpa using h1) (by simpa using h2)]
theorem DkR.rowSet{w1 wr:World}{i g:Nat}{l:List UInt8}(h:DkR w1 d bl gs ws wv kv D)(hg:gs[i]? = some g)(m:zA (λx=>x=g) w1 wr)(hb:zG wr g (qA l) 5)(hl:l.length=D.size)(hd:g≠d)(Ai:g≠bl) :
  DkR wr d bl gs ws wv kv { D with lasting:=D.lasting.set i l }:=by
 have hn:=h.nodup;have Be:=(uV.1 (uV.1 hn).2).2;rw[uX] at Be;obtain⟨n1,n2,n3⟩:=Be;have Bf:g∈gs:=uU hg;obtain⟨cap,a1,a2,a3,rest,a4,a5⟩:=h.own;have Ak:∀x,x∈d :: bl :: (gs++ws)->g∈d :: bl :: (gs++ws):=λ_ _=>uJ _ (uJ _ (wE _ Bf))
 refine⟨⟨cap,a1,a2,a3.mods m (Ne.symm hd),rest,a4.mods m (Ne.symm Ai),a5⟩,h.lenB,by simpa using h.lenL,h.lenW,h.keep.mods m (λx hx e=>h.keep.2 x hx (e ▸ Ak d uK)),h.kw,h.few2,h.wait.mods m (λx hx e=>h.wait.2 x hx (e ▸ Ak d uK)),
  λj g' b hg' hb'=>?_,λj g' p hg' hp=>⟨(h.wrow j g' p hg' hp).1,(h.wrow j g' p hg' hp).2.1,(h.wrow j g' p hg' hp).2.2.mods m (λe=>n3 g Bf g' (uU hg') e.symm)⟩,hn,h.b8,h.b256,h.s256,h.s1024,h.few⟩
 rcases zK hb' with ⟨rfl,rfl⟩|⟨A6,hb'⟩
 .rw[hg] at hg';injection hg' with hg';subst hg';exact⟨hl,hb⟩
 .refine⟨(h.row j g' b hg' hb').1,(h.row j g' b hg' hb').2.mods m (λe=>A6 ?_)⟩;subst e;exact (zJX gs i j _ n1 hg hg').symm
theorem zKW(hL:yH F ad w)(hP:∀k,P k->F k)(h:DkR w d bl gs ws wv kv D)(hD:∀k,P k ↔ dkF d bl gs ws wv kv k)(i bit mask:Nat)(hi:i<D.blocks)(hb:bit<8 * D.size)(hm:mask<4294967296) :
  Calls Tryz.prog 20 #[.pointer (some ⟨d,0,none⟩),.int .i64 (i:Int),.int .i64 (bit:Int),.int .u32 (mask:Int)] w (zMt F P ad w d { D with lasting:=D.lasting.set i (zAf (D.lasting.getD i []) bit mask) }):=by
 have Bg:D.check i=none:=by unfold zJ.check;rw[if_neg (by omega)]
 have HL:=oh hL;have HD:=oh h;have HP:=oh hP;have A8:=oh hD;have Aj:D.size<=1024:=h.s1024;have C1:=h.b256;clear h hL hP hD
 go_enter Tryz.func20, Tryz.ntmps20
 go_wp2_with fail;refine (zBr HL.out HD.out _ i).mono ?_;rintro e w1 ⟨ev,rfl,hE,Ae⟩;rw[Bg] at hE;cases hE
 have A1:=oh (HD.out.at Ae);have At:=oh Ae;have c1:=A1.out.sizeC;obtain⟨g,L,cap,k1,k2,k3,k4,k5,k6,k7,k8⟩:=A1.out.lastC i hi;have K1:=oh k1;have K2:=oh k2;have K6:=oh k6;have K7:=oh k7;have K8:=oh k8;have Al:Hid (g≠d/\g≠bl):=oh (by
  have hn:=A1.out.nodup;have hg:g∈gs++ws:=wE _ (uU k1);exact⟨λe=>(uV.1 hn).1 (e ▸ uJ _ hg),λe=>(uV.1 (uV.1 hn).2).1 (e ▸ hg)⟩)
 have Cb:(0:Int)<=(i:Int):=by omega
 have Cc:(i:Int)<(D.blocks:Int):=by omega
 have Cd:¬ (bit:Int)<0:=by omega
 have Ce:(bit:Int)<8 * (D.size:Int):=by omega
 clear Bg Ae k1 k2 k7 k8;go_wp2_with fail;go_loopg [33] 32 (λm v wr=>∃(k:Nat) (l:List UInt8),k+m=32/\v=.int .i64 k/\Hid (zA (λx=>x=g) w1 wr/\zG wr g (qA l) 5 /\ l.length=D.size/\vY mask bit m k l=zAf L bit mask))
 case atStart=>exact⟨0,L,rfl,rfl,oh ⟨zA.refl _ _,K8.out,K7.out,rfl⟩⟩
 case round =>
  obtain⟨k,l,hk,rfl,HW⟩:=hrel;obtain⟨Aq,Bh,Bi,C2⟩:=HW.out;have x1:=(Aq.cell (yN c1) (Ne.symm Al.out.1)).trans c1;have x3:=(Aq.cell (yN k3) (Ne.symm Al.out.1)).trans k3;have x6:=(Aq.cell (yN K6.out) (Ne.symm Al.out.2)).trans K6.out;simp only[zAT] at x6;have fz:=Bh.frozen;have C3:=oh Bi;clear Aq Bh Bi C2;by_cases Ag:k<32
  .obtain⟨m,rfl⟩:∃m,gk=m+1:=⟨gk-1,by omega⟩;by_cases Bj:bit+k<8 * D.size
   .obtain⟨q,hq⟩:∃q,q=(bit+k) / 8:=⟨_,rfl⟩;obtain⟨r,hr⟩:∃r,r=(bit+k) % 8:=⟨_,rfl⟩;have C4:q<D.size:=by omega
    have Bk:r<8:=by omega
    obtain⟨x,hx⟩:∃x,l[q]? = some x:=⟨_,uB (by rw[C3.out];exact C4)⟩;have hc:wr.cell? ⟨g,q,none⟩=some (.int .u8 (x.toNat:Int)):=HW.out.2.1.cell (by rw[qA];simp[hx]);have t1:((bit:Int)+(k:Int)) / 8=(q:Int):=by omega
    have t2:((bit:Int)+(k:Int)).tdiv 8=(q:Int):=by rw[rL (by omega)];exact t1
    have t3:((bit:Int)+(k:Int)) % 8=(r:Int):=by omega
    have t4:((bit:Int)+(k:Int)).tmod 8=(r:Int):=by rw[tD (by omega)];exact t3
    have t5:(bit:Int)+(k:Int)<8 * (D.size:Int):=by omega
    have Cf:=x.toNat_lt;have u0:(0:Int)<=(q:Int):=by omega
    have u1:(q:Int)<(D.size:Int):=by omega
    have HX:=oh hx;have HQ:=oh hq;have HR:=oh hr;clear hx hq hr;have Am:bits .xor .u8 (x.toNat:Int) (bits .and .u32 ((mask:Int) / 2 ^ k) 1 % 256 * 2 ^ r % 256)=((x.toNat ^^^ (mask / 2 ^ k % 2 * 2 ^ r):Nat):Int):=zRY x.toNat mask k r x.toNat_lt hm Bk;have Az:=oh Am;have A9:Hid (zA (λx=>x=g) w1 (wr.setCell ⟨g,q,none⟩ (.int .u8 ((x.toNat ^^^ (mask / 2 ^ k % 2 * 2 ^ r):Nat):Int)))/\zG (wr.setCell ⟨g,q,none⟩ (.int .u8 ((x.toNat ^^^ (mask / 2 ^ k % 2 * 2 ^ r):Nat):Int))) g (qA (zEe l (bit+k) (mask / 2 ^ k % 2))) 5 /\ (zEe l (bit+k) (mask / 2 ^ k % 2)).length=D.size/\vY mask bit m (k+1) (zEe l (bit+k) (mask / 2 ^ k % 2))=zAf L bit mask):=oh (by
     obtain⟨j1,j2,j3,j4⟩:=HW.out;refine⟨j1.setCell (.inr rfl) _,?_,by rw[zD0];exact j3,?_⟩
     .have e:=j2.set q (.int .u8 ((x.toNat ^^^ (mask / 2 ^ k % 2 * 2 ^ r):Nat):Int));have e2:(qA l).setIfInBounds q (.int .u8 ((x.toNat ^^^ (mask / 2 ^ k % 2 * 2 ^ r):Nat):Int))=qA (zEe l (bit+k) (mask / 2 ^ k % 2)):=by
       unfold zEe qA;rw[<- HQ.out,<- HR.out,show l.getD q 0=x by simp[List.getD,HX.out],List.map_set,List.setIfInBounds_toArray,UInt8.toNat_ofNat',rI (wU (n:=8) x.toNat_lt (zKH _ _ (pE _ (by omega)) Bk))]
      rw[e2] at e;exact e
     .rw[<- j4,vY,if_pos (by rw[j3];exact Bj)])
    clear Am;go_wp2_with fail;go_region
    rw[Az.out];go_wp2_with fail;go_roundg m
    case measure=>omega
    case rel=>exact⟨k+1,zEe l (bit+k) (mask / 2 ^ k % 2),by omega,by go_num,oh ⟨A9.out.1.drew,A9.out.2⟩⟩
   .have t5:¬ (bit:Int)+(k:Int)<8 * (D.size:Int):=by omega
    have A9:Hid (vY mask bit m (k+1) l=zAf L bit mask):=oh (by
     obtain⟨j1,j2,j3,j4⟩:=HW.out;rw[<- j4,vY,if_neg (by rw[j3];exact Bj)])
    go_wp2_with fail;go_roundg m
    case measure=>omega
    case rel=>exact⟨k+1,l,by omega,by go_num,oh ⟨HW.out.1,HW.out.2.1,HW.out.2.2.1,A9.out⟩⟩
  .obtain rfl:gk=0:=by omega
   go_wp2_with fail;go_ret;obtain⟨j1,j2,j3,j4⟩:=HW.out;have e:l=zAf L bit mask:=j4;have C5:P g:=(A8.out g).2 (.inl (uJ _ (uJ _ (wE _ (uU K1.out)))));refine⟨P,F,rfl,⟨bl,gs,ws,wv,kv,?_,A8.out⟩,zX.same HL.out HP.out (At.out.ext.trans (j1.mono (λx hx=>hx ▸ C5)))⟩;have eL:D.lasting.getD i []=L:=by simp[List.getD,K2.out]
   rw[eL,<- e];exact A1.out.rowSet K1.out j1 j2 j3 Al.out.1 Al.out.2
end
def zF8[zQ](d:Nat)(l:List Nat):Prop:=d=zFM/\∀i,i<vL->l[i]? = some 1\/l[i]? = some 3
theorem zF8.set[zQ]{d:Nat}{l:List Nat}(h:zF8 d l){i x:Nat}(hi:l[i]? = some 0\/l[i]? = some 2\/x=1\/x=3):zF8 d (l.set i x):=by
 refine⟨h.1,λj hj=>?_⟩;have hl:=h.2 j hj;by_cases e:i=j
 .subst e;rw[wH (by rcases hl with h|h <;> exact (uA.1 h).1)];rcases hi with h|h|rfl|rfl
  .rw[h] at hl;simp at hl
  .rw[h] at hl;simp at hl
  .exact .inl rfl
  .exact .inr rfl
 .rw[uS e];exact hl
def jK[zQ](F:NP)(w:World)(P:NP)(c s:Nat)(G:GA)(l:List Nat):Prop :=
 ∃(d sb:Nat) (bvs:List Value) (Pd:NP) (b2:Nat) (C:qL),CaR F w d c sb bvs Pd C/\yJ C/\qZ C G/\G.cost<=1000000/\SpR w s b2 l/\(∀k,P k ↔ (caF c sb Pd k\/spF s b2 k))/\(∀k,caF c sb Pd k->¬ spF s b2 k)/\zF8 d l
def zCH[zQ](F P:NP)(ad:Nat->Addr)(w:World)(c s:Nat)(G':GA)(l':List Nat)(R:(NP)->World->Ending->Prop)(e:Ending)(w':World):Prop :=
 ∃P' F',jK F' w' P' c s G' l'/\zX P P' F F' ad w w'/\R F' w' e
def GA.check(G:GA)(id:Int):Option Err:=if id<0\/(G.blocks:Int)<=id then some ([zBz id],2) else none
def GA.get(G:GA)(id:Int):zY ⊕ Err :=
 match G.check id with
 | some e=>.inr e
 | none=>match G.view id.toNat with
  | some (.inl p)=>.inl p
  | some (.inr (l,k))=>.inr (-1 :: l,k)
  | none=>.inr ([],0)
def GA.knows(G:GA)(id:Int):Prop:=G.check id=none->∃r,G.view id.toNat=some r
section
variable {P P' F F':NP}{ad:Nat->Addr}{w w':World}{c s:Nat}{G G':GA}{l l':List Nat}{R:(NP)->World->Ending->Prop}
theorem zX.iff{Q Q':NP}(n:zX P P' F F' ad w w')(h:∀k,Q k ↔ P k)(h':∀k,Q' k ↔ P' k):zX Q Q' F F' ad w w' :=
 ⟨⟨n.stp.mods.mono (λk hk=>(h k).2 hk),λk hk hq=>(h k).2 (n.stp.old k hk ((h' k).1 hq)),λk hq=>n.stp.bd k ((h' k).1 hq)⟩,λk hq=>n.sub k ((h' k).1 hq),n.grow,n.oldF,n.env⟩
theorem jK.at[zQ](h:jK F w P c s G l)(m:zF w w'):jK F w' P c s G l:=by
 obtain⟨d,sb,bvs,Pd,b2,C,h1,h2,h3,h4,h5,h6,h7,h8⟩:=h;exact⟨d,sb,bvs,Pd,b2,C,h1.at m,h2,h3,h4,h5.mods m (λf=>f) (λf=>f),h6,h7,h8⟩
theorem jK.bd[zQ](h:jK F w P c s G l):Bd P w:=λk hk=>by
 obtain⟨d,sb,bvs,Pd,b2,C,h1,h2,h3,h4,h5,h6,h7,h8⟩:=h;rcases (h6 k).1 hk with hk|rfl|rfl
 .exact h1.bdP k hk
 .exact h5.own.lt
 .exact h5.row.lt
theorem jK.step[zQ]{d sb sb' b2:Nat}{bvs':List Value}{Pd Pd':NP}{C':qL}(hL:yH F ad w)(hP:∀k,P k->F k)(h5:SpR w s b2 l)(h6:∀k,P k ↔ (caF c sb Pd k\/spF s b2 k))(h7:∀k,caF c sb Pd k->¬ spF s b2 k)(h8:zF8 d l)
  (hC:CaR F' w' d c sb' bvs' Pd' C') (hI:yJ C') (hG:qZ C' G') (Bl:G'.cost<=1000000) (n:zX (caF c sb Pd) (caF c sb' Pd') F F' ad w w') :
  ∃P',jK F' w' P' c s G' l/\zX P P' F F' ad w w':=by
 have Bm:¬ caF c sb Pd s:=λf=>h7 s f (.inl rfl)
 have Af:¬ caF c sb Pd b2:=λf=>h7 b2 f (.inr rfl)
 have q:=n.part (Q:=spF s b2) (λk hk=>hP k ((h6 k).2 (.inr hk))) hL;refine⟨λk=>caF c sb' Pd' k\/spF s b2 k,⟨d,sb',bvs',Pd',b2,C',hC,hI,hG,Bl,h5.mods n.stp.mods Bm Af,λk=>rQ,λk hk hs=>?_,h8⟩,q.iff h6 (λk=>rQ)⟩;rcases hs with rfl|rfl
 .exact n.not h5.own.lt Bm hk
 .exact n.not h5.row.lt Af hk
theorem jK.lim[zQ](h:jK F w P c s G l):8<=G.blocks/\G.blocks<=256/\256<=G.size/\G.size<=1024/\8<=l.length/\l.length<=256:=by
 obtain⟨d,sb,bvs,Pd,b2,C,h1,h2,h3,h4,h5,h6,h7,h8⟩:=h;exact⟨h3.blocks ▸ h2.b8,h3.blocks ▸ h2.b256,h3.size ▸ h2.s256,h3.size ▸ h2.s1024,h5.len,h5.len2⟩
theorem zST[zQ]{C:qL}(h:qZ C G)(id:Int)(hk:G.knows id):C.get id=G.get id:=by
 unfold qL.get GA.get;have e:C.check id=G.check id:=by unfold qL.check GA.check;rw[h.blocks]
 rw[e];cases hc:G.check id with
 | some e=>rfl
 | none =>
  obtain⟨r,hr⟩:=hk hc;simp only[hr];rw[h.view _ r hr];rcases r with p|⟨a,b⟩ <;> rfl
theorem GA.knows.low[zQ]{C:qL}(h:qZ C G){id:Int}(hk:G.knows id):C.check id=none->vL<=id.toNat:=λhc=>by
 have e:C.check id=G.check id:=by unfold qL.check GA.check;rw[h.blocks]
 obtain⟨r,hr⟩:=hk (e ▸ hc);exact Nat.le_of_not_lt λhn=>by rw[(h.low _ hn).1] at hr;cases hr
theorem zSA[zQ](hL:yH F ad w)(hP:∀k,P k->F k)(h:jK F w P c s G l)(id:Int)(hk:G.knows id) :
  Calls Tryz.prog 256 #[.pointer (some ⟨c,0,none⟩),.int .i64 id] w (zCH F P ad w c s G l (λF' w' e=>zN3 F' ad w' (G.get id) e)):=by
 obtain⟨d,sb,bvs,Pd,b2,C,h1,h2,h3,h4,h5,h6,h7,h8⟩:=h;refine (zOp hL (λk hk=>hP k ((h6 k).2 (.inl hk))) h1 h2 (uP h3.cost h4) id (hk.low h3)).mono ?_;rintro e w' ⟨bvs',Pd',F',C',k1,k2,k3,k4⟩;obtain⟨P',q1,q2⟩:=jK.step hL hP h5 h6 h7 h8 k1 k2.inv (k2.rel h3) h4 k3;exact⟨P',F',q1,q2,by rw[<- zST h3 id hk];exact k4⟩
theorem zSB[zQ](hL:yH F ad w)(hP:∀k,P k->F k)(h:jK F w P c s G l)(p:zY)(bv:Value)(hb:Sl F w 1 zZ bv p.body)(hg:p.gen<18446744073709551616)(hid:0<=p.id/\p.id<G.blocks)(C6:vL<=p.id.toNat)(C7:qE p G.size=none)(Bl:G.cost<1000000) :
  Calls Tryz.prog 235 #[.pointer (some ⟨c,0,none⟩),qC p bv] w (zCH F P ad w c s (G.put p) l (λ_ _ e=>e=.returned .nilIface)):=by
 obtain⟨d,sb,bvs,Pd,b2,C,h1,h2,h3,h4,h5,h6,h7,h8⟩:=h;refine (zOq hL (λk hk=>hP k ((h6 k).2 (.inl hk))) h1 h2 (uP h3.cost h4) p bv hb hg C6).mono ?_;rintro e w' ⟨bvs',Pd',F',C',ev,rfl,k1,k3,k4,k5⟩;have hE:C.putE p=none:=by
  unfold qL.putE qL.check;rw[if_neg (by rw[h3.blocks];omega),h3.size];simp only[C7];rfl
 rcases k5 with ⟨_,_,_,hI,hR⟩|⟨A6,_⟩
 .obtain⟨P',q1,q2⟩:=jK.step hL hP h5 h6 h7 h8 k1 hI (hR G h3) (by show G.cost+1<=_;omega) k3;rw[hE] at k4;cases k4
  exact⟨P',F',q1,q2,rfl⟩
 .exact absurd hE A6
theorem zQQ[zQ](hL:yH F ad w)(hP:∀k,P k->F k)(h:jK F w P c s G l)(id:Nat) :
  Calls Tryz.prog 297 #[.pointer (some ⟨c,0,none⟩),.int .i64 (id:Int)] w (zCH F P ad w c s (G.drop id) l (λ_ _ e=>∃b,e=.returned (.bool b))):=by
 obtain⟨d,sb,bvs,Pd,b2,C,h1,h2,h3,h4,h5,h6,h7,h8⟩:=h;refine (zMs hL (λk hk=>hP k ((h6 k).2 (.inl hk))) h1 h2 id).mono ?_;rintro e w' ⟨b,bvs',C',rfl,k1,k3,k4,_,_,k5⟩;obtain⟨P',q1,q2⟩:=jK.step hL hP h5 h6 h7 h8 k1 k4 (k5 G h3) h4 k3;exact⟨P',F,q1,q2,b,rfl⟩
theorem zSC{F:NP}{d sb:Nat}{bvs:List Value}{Pd:NP}{C:qL}(h:CaR F w d c sb bvs Pd C):∀p∈C.disk.waiting,p.1<C.disk.blocks:=by
 obtain⟨bl,gs,ws,wv,kv,h1,h2⟩:=h.disk;intro p hp;obtain⟨j,hj,e⟩:=wF hp;have hw:j<ws.length:=by rw[h1.lenW];exact hj
 exact (h1.wrow j _ p (uB hw) (by rw[<- e];exact uB hj)).1
theorem zF8.give[zQ]{d:Nat}(h:zF8 d l)(id:Int):zF8 d (yT l id).1:=by
 unfold yT;cases qF l id with
 | some e=>exact h
 | none =>
  simp only;split
  .rename_i h2;exact h.set (.inr (.inl h2))
  .split
   .exact h.set (.inr (.inr (.inr rfl)))
   .exact h
theorem jK.fresh[zQ](h:jK F w P c s G l){i:Nat}(hi:l[i]? = some 0\/l[i]? = some 2):vL<=i:=by
 obtain⟨d,sb,bvs,Pd,b2,C,h1,h2,h3,h4,h5,h6,h7,h8⟩:=h;refine Nat.le_of_not_lt λhn=>?_
 rcases h8.2 i hn with h|h <;> rw[h] at hi <;> simp at hi
theorem zAP{l:List Nat}{i:Nat}(h:vP l=some i):l[i]? = some 0/\i<l.length:=by
 unfold vP at h;rw[List.findIdx?_eq_some_iff_getElem] at h;obtain⟨h1,h2,_⟩:=h;exact⟨by rw[uB h1];simpa using h2,h1⟩
theorem jK.space[zQ](hL:yH F ad w)(hP:∀k,P k->F k){d sb b2:Nat}{bvs:List Value}{Pd:NP}{C:qL}(h1:CaR F w d c sb bvs Pd C)(h2:yJ C)(h3:qZ C G)(h4:G.cost<=1000000)(h6:∀k,P k ↔ (caF c sb Pd k\/spF s b2 k))(h7:∀k,caF c sb Pd k->¬ spF s b2 k)
  (h8:zF8 d l') (h5:SpR w' s b2 l') (m:zA (spF s b2) w w'):jK F w' P c s G l'/\zX P P F F ad w w' :=
 ⟨⟨d,sb,bvs,Pd,b2,C,h1.far m h7 (λk hk=>hP k ((h6 k).2 (.inr hk))),h2,h3,h4,h5,h6,h7,h8⟩,zX.same hL hP (m.mono (λk hk=>(h6 k).2 (.inr hk)))⟩
def zSt(ad:Nat->Addr)(l:List Nat)(F':NP)(w':World)(e:Ending):Prop :=
 (∃i,vP l=some i/\i<l.length/\e=.returned (.tuple #[.int .i64 (i:Int),.nilIface]))\/(vP l=none/\∃f,e=.returned (.tuple #[.int .i64 0,zP f])/\vN F' ad w' (zP f) [-1] 3)
def zA1(l:List Nat):List Nat:=match vP l with|some i=>l.set i 2|none=>l
theorem zMv[zQ](hL:yH F ad w)(hP:∀k,P k->F k)(h:jK F w P c s G l) :
  Calls Tryz.prog 296 #[.pointer (some ⟨s,0,none⟩)] w (zCH F P ad w c s G (zA1 l) (zSt ad l)):=by
 obtain⟨d,sb,bvs,Pd,b2,C,h1,h2,h3,h4,h5,h6,h7,h8⟩:=h;refine (zMk hL s b2 l h5).mono ?_;rintro e w' (⟨i,k1,k2,rfl,k3,k4⟩|⟨k1,f,rfl,k3,k4⟩)
 .obtain⟨q1,q2⟩:=jK.space hL hP h1 h2 h3 h4 h6 h7 (h8.set (.inl (zAP k1).1)) k3 k4;exact⟨P,F,by unfold zA1;rw[k1];exact q1,q2,.inl ⟨i,k1,k2,rfl⟩⟩
 .have q:=zX.ext hL hP k4;exact⟨P,F,by unfold zA1;rw[k1];exact⟨d,sb,bvs,Pd,b2,C,h1.at k4,h2,h3,h4,h5.mods k4 (λf=>f) (λf=>f),h6,h7,h8⟩,q,.inr ⟨k1,f,rfl,k3⟩⟩
theorem zQR[zQ](hL:yH F ad w)(hP:∀k,P k->F k)(h:jK F w P c s G l)(id:Int) :
  Calls Tryz.prog 298 #[.pointer (some ⟨s,0,none⟩),.int .i64 id] w (zCH F P ad w c s G (yT l id).1 (λF' w' e=>∃ev,e=.returned ev/\zAb F' ad w' ev (yT l id).2)):=by
 obtain⟨d,sb,bvs,Pd,b2,C,h1,h2,h3,h4,h5,h6,h7,h8⟩:=h;refine (zQA hL s b2 l h5 id).mono ?_;rintro e w' ⟨ev,rfl,k1,k2,k3⟩;obtain⟨q1,q2⟩:=jK.space hL hP h1 h2 h3 h4 h6 h7 (h8.give id) k2 k3;exact⟨P,F,q1,q2,ev,rfl,k1⟩
theorem zQS[zQ](h:jK F w P c s G l):∃d,Hid (jK F w P c s G l)/\(Calls Tryz.prog 294 #[.pointer (some ⟨c,0,none⟩)] w λe w'=>e=.returned (.pointer (some ⟨d,0,none⟩))/\w=w') /\
  (∀w',zF w w' -> Calls Tryz.prog 47 #[.pointer (some ⟨d,0,none⟩)] w' λe w''=>e=.returned (.agg #[.int .i64 G.blocks,.int .i64 G.size])/\zF w' w''):=by
 have H:=oh h;obtain⟨d,sb,bvs,Pd,b2,C,h1,h2,h3,h4,h5,h6,h7,h8⟩:=h;refine⟨d,H,zMq h1,λw' m=>?_⟩;rw[<- h3.blocks,<- h3.size];exact (h1.disk.at m).geo
end
end
end Go.Proofs.YtalpfcaakpgkmaaGreatDoor
