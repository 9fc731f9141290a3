import Derived.Laws.BitsAllLaws
import Derived.Test.YtdnbmdghmmpgcaaGreatDoorK18
namespace Go.Proofs.YtdnbmdghmmpgcaaGreatDoor
open Lib renaming hid→oh
set_option maxHeartbeats 1000000
set_option maxRecDepth 100000
section
open Go.RowKit
def settleG:List Nat→List (Nat × Nat)→List Nat
 | l,[]=>l
 | l,(i,g) :: r=>settleG (l.set i g) r
theorem settleG_length:∀(r:List (Nat × Nat)) (l:List Nat),(settleG l r).length=l.length
 | [],_=>rfl
 | (i,g) :: r,l=>by rw[settleG,settleG_length r,List.length_set]
theorem settleG_snoc:∀(r:List (Nat × Nat)) (l:List Nat) (p:Nat × Nat),settleG l (r++[p])=(settleG l r).set p.1 p.2
 | [],_,_=>rfl
 | (i,g) :: r,l,p=>by rw[List.cons_append,settleG,settleG_snoc r,settleG]
theorem mem_set{l:List Nat}{i g k:Nat}(h:k∈l.set i g):k∈l∨k=g:=by
 obtain⟨j,hj,e⟩:=List.getElem_of_mem h;rw[List.getElem_set] at e;split at e
 ·exact .inr e.symm
 ·left;rw[← e];exact List.getElem_mem _
theorem settleG_mem:∀(r:List (Nat × Nat)) (l:List Nat) (k:Nat),k∈settleG l r→k∈l∨k∈r.map (·.2)
 | [],_,_,h=>.inl h
 | (i,g) :: r,l,k,h=>by
  rw[settleG] at h;rcases settleG_mem r _ k h with h|h
  ·rcases mem_set h with h|h
   ·exact .inl h
   ·exact .inr (by simp[h])
  ·exact .inr (by simp[h])
theorem nodup_set:∀(l:List Nat) (i g:Nat),l.Nodup→g ∉ l→(l.set i g).Nodup
 | [],_,_,_,_=>by simp
 | a :: l,0,g,h,hg=>by
  rw[List.set_cons_zero,List.nodup_cons];exact⟨λhm=>hg (List.mem_cons_of_mem _ hm),(List.nodup_cons.1 h).2⟩
 | a :: l,i+1,g,h,hg=>by
  rw[List.set_cons_succ,List.nodup_cons];refine⟨λhm=>?_,nodup_set l i g (List.nodup_cons.1 h).2 (λhm=>hg (List.mem_cons_of_mem _ hm))⟩;rcases mem_set hm with hm|rfl
  ·exact (List.nodup_cons.1 h).1 hm
  ·exact hg List.mem_cons_self
theorem settleG_nodup:∀(r:List (Nat × Nat)) (l:List Nat),(l++r.map (·.2)).Nodup→(settleG l r).Nodup
 | [],l,h=>by simpa[settleG] using h
 | (i,g) :: r,l,h=>by
  rw[settleG];rw[List.map_cons,List.nodup_append] at h;obtain⟨h1,h2,h3⟩:=h;rw[List.nodup_cons] at h2;refine settleG_nodup r _ ?_;rw[List.nodup_append];refine⟨nodup_set l i g h1 (λhm=>h3 g hm g List.mem_cons_self rfl),h2.2,λa ha b hb e=>?_⟩;subst e;rcases mem_set ha with ha|rfl
  ·exact h3 a ha a (List.mem_cons_of_mem _ hb) rfl
  ·exact h2.1 hb
theorem settle_rows(R:Nat→List UInt8→Prop):∀(W:List (Nat × List UInt8)) (ws:List Nat) (gs:List Nat) (L:List (List UInt8)),ws.length=W.length→gs.length=L.length →
  (∀(i g:Nat) (b:List UInt8),gs[i]? = some g→L[i]? = some b→R g b)→(∀(i g:Nat) (p:Nat × List UInt8),ws[i]? = some g→W[i]? = some p→R g p.2) →
  ∀(i g:Nat) (b:List UInt8),(settleG gs ((W.map (·.1)).zip ws))[i]? = some g→(settle L W)[i]? = some b→R g b
 | [],ws,gs,L,_,_,h1,_,i,g,b,hg,hb=>h1 i g b (by simpa[settleG] using hg) hb
 | (j,c) :: W,[],gs,L,hl,_,_,_,_,_,_,_,_=>by simp at hl
 | (j,c) :: W,x :: ws,gs,L,hl,hl2,h1,h2,i,g,b,hg,hb=>by
  rw[List.map_cons,List.zip_cons_cons,settleG] at hg;rw[settle] at hb;refine settle_rows R W ws (gs.set j x) (L.set j c) (by simpa using hl) (by simpa using hl2) (λi' g' b' hg' hb'=>?_) (λi' g' p' hg' hp'=>h2 (i'+1) g' p' (by simpa using hg') (by simpa using hp')) i g b hg hb;rcases set_cases hg' with ⟨rfl,rfl⟩|⟨hne,hg'⟩
  ·rcases set_cases hb' with ⟨_,rfl⟩|⟨hne,_⟩
   ·exact h2 0 g' (i',b') (by simp) (by simp)
   ·exact absurd rfl hne
  ·rcases set_cases hb' with ⟨e,_⟩|⟨_,hb'⟩
   ·exact absurd e hne
   ·exact h1 i' g' b' hg' hb'
section
variable {P F:Nat→Prop}{ad:Nat→Addr}{w w':World}{d bl:Nat}{gs ws:List Nat}{wv kv:Value}{D:DiskA}
theorem zip_snd{l:List Nat}{m:List Nat}(h:l.length=m.length):(l.zip m).map (·.2)=m:=List.map_snd_zip (by omega)
theorem DkR.waitC2(h:DkR w d bl gs ws wv kv D)(k:Nat)(p:Nat × List UInt8)(hk:D.waiting[k]? = some p):∃b c g,wv=.slice (some ⟨b,0,none⟩) D.waiting.length c∧ws[k]? = some g ∧
  w.cell? ⟨b,k * 2,none⟩=some (.int .i64 (p.1:Int))∧w.cell? ⟨b,k * 2+1,none⟩=some (rowV D.size g)∧b ∉ d :: bl :: (gs++ws)∧p.1<D.blocks:=by
 obtain⟨b,off,n,c,g,h1,h2,h3,h4,_,_⟩:=h.waitC k p hk;have hr:=h.wrow k g p h2 hk;obtain⟨_,a',c',hv⟩:=h.wvC;rcases h.wait.1.2 with ⟨e,_⟩|⟨g',cap,cur,e,_⟩
 ·rw[h1] at e;cases e
 ·rw[h1] at e hv;simp only[Value.slice.injEq,Option.some.injEq,Addr.mk.injEq] at e hv;obtain⟨⟨rfl,rfl,_⟩,_,_⟩:=e;refine⟨b,c,g,by rw[h1,hv.2.1],h2,by simpa using h3,by simpa using h4,h.wait.2 b (by rw[h1];rfl),hr.1⟩
theorem DkR.settled{w1 wr:World}(h:DkR w1 d bl gs ws wv kv D)(m:Mods (λx=>x=bl) w1 wr){cap:Nat}{rest:List Value}(h1:D.blocks≤cap)(h2:cap≤9223372036854775807)
  (hd:Blk w1 d #[.int .i64 D.blocks,.int .i64 D.size,.slice (some ⟨bl,0,none⟩) D.blocks cap,wv,.bool D.lit,.int .i64 D.after,.int .i64 D.torn,.int .i64 D.cut,kv,.bool D.off,.int .i64 D.count] 138)
  (hb:Blk wr bl (((settleG gs ((D.waiting.map (·.1)).zip ws)).map (rowV D.size))++rest).toArray 26) (hl:gs.length+rest.length=cap) :
  DkR (wr.setCell ⟨d,3,none⟩ (.slice none 0 0)) d bl (settleG gs ((D.waiting.map (·.1)).zip ws)) [] (.slice none 0 0) kv { D with lasting:=settle D.lasting D.waiting,waiting:=[] }:=by
 have hz:((D.waiting.map (·.1)).zip ws).map (·.2)=ws:=zip_snd (by simp[h.lenW]);have hmem:∀k,k∈settleG gs ((D.waiting.map (·.1)).zip ws)→k∈gs++ws:=λk hk=>by
  rcases settleG_mem _ _ k hk with h|h
  ·exact List.mem_append_left _ h
  ·rw[hz] at h;exact List.mem_append_right _ h
 have hnd:=h.nodup;have hdb:d≠bl:=λe=>(List.nodup_cons.1 hnd).1 (by rw[e];exact List.mem_cons_self)
 have hng:∀k,k∈gs++ws→k≠bl∧k≠d:=λk hk=>⟨λe=>(List.nodup_cons.1 (List.nodup_cons.1 hnd).2).1 (e ▸ hk),λe=>(List.nodup_cons.1 hnd).1 (e ▸ List.mem_cons_of_mem _ hk)⟩
 have hrow:∀(g:Nat) (b:List UInt8),(g∈gs++ws∧b.length=D.size∧Blk w1 g (bytesC b) 5)→Blk (wr.setCell ⟨d,3,none⟩ (.slice none 0 0)) g (bytesC b) 5:=λg b ⟨k1,_,k3⟩=>(k3.mods m (hng g k1).1).set_other (hng g k1).2 _
 have R:=settle_rows (λg b=>g∈gs++ws∧b.length=D.size∧Blk w1 g (bytesC b) 5) D.waiting ws gs D.lasting h.lenW (by rw[h.lenB,h.lenL])
  (λi g b hg hb=>⟨List.mem_append_left _ (List.mem_of_getElem? hg),h.row i g b hg hb⟩) (λi g p hg hp=>⟨List.mem_append_right _ (List.mem_of_getElem? hg),(h.wrow i g p hg hp).2⟩)
 have nd:(d :: bl :: (settleG gs ((D.waiting.map (·.1)).zip ws)++[])).Nodup:=by
  rw[List.append_nil,List.nodup_cons,List.nodup_cons];refine⟨λhm=>?_,λhm=>(hng bl (hmem bl hm)).1 rfl,settleG_nodup _ _ ?_⟩
  ·rw[List.mem_cons] at hm;rcases hm with hm|hm
   ·exact hdb hm
   ·exact (hng d (hmem d hm)).2 rfl
  ·rw[hz];exact (List.nodup_cons.1 (List.nodup_cons.1 hnd).2).2
 have hsub:∀k,k∈d :: bl :: (settleG gs ((D.waiting.map (·.1)).zip ws)++[])→k∈d :: bl :: (gs++ws):=λk hk=>by
  simp only[List.append_nil,List.mem_cons] at hk ⊢;rcases hk with hk|hk|hk
  ·exact .inl hk
  ·exact .inr (.inl hk)
  ·exact .inr (.inr (hmem k hk))
 refine⟨⟨cap,h1,h2,?_,rest,hb.set_other (λe=>hdb e.symm) _,by rw[settleG_length];exact hl⟩,by rw[settleG_length];exact h.lenB,by rw[settle_length];exact h.lenL,rfl,?_,λg hg=>by simp[Value.ownBlock],h.few2,Own.nil _ _ _ _ _ _,
  λi g b hg hb=>⟨(R i g b hg hb).2.1,hrow g b (R i g b hg hb)⟩,λi g p hg=>by simp at hg,nd,h.b8,h.b256,h.s256,h.s1024,by simp⟩
 ·have:=(hd.mods m hdb).set 3 (.slice none 0 0);simpa using this
 ·have k1:=(h.keep.mods m (λg hg e=>h.keep.2 g hg (e ▸ List.mem_cons_of_mem _ List.mem_cons_self))).mods (Mods.at (λk=>k=d) wr d 3 (.slice none 0 0) rfl) (λg hg e=>h.keep.2 g hg (e ▸ List.mem_cons_self));exact⟨k1.1,λg hg hm=>k1.2 g hg (hsub g hm)⟩
def DkDone(F P:Nat→Prop)(ad:Nat→Addr)(w:World)(d:Nat)(D':DiskA)(e:Ending)(w':World):Prop:=∃P' F',e=.returned .nilIface∧DkS w' P' d D'∧Nxt P P' F F' ad w w'
theorem dkFlush_ok(hL:Env F ad w)(hP:∀k,P k→F k)(h:DkR w d bl gs ws wv kv D)(hD:∀k,P k ↔ dkF d bl gs ws wv kv k)(ho:D.off=false)(hl:D.lit=false) :
  Calls Tryz.prog 48 #[.pointer (some ⟨d,0,none⟩)] w (DkDone F P ad w d D.flushed):=by
 have c9:=h.offC;rw[ho] at c9;have HL:=oh hL;have HD:=oh h;have HP:=oh hP;have HDD:=oh hD;have HO:=oh ho;clear h hL hP hD ho
 go_enter Tryz.func48, Tryz.ntmps48
 go_wp2_with fail;refine (dkBurns_no HD.out hl).mono ?_;rintro e w1 ⟨rfl,hD1,hm1⟩;obtain⟨D1,hDe⟩:∃x,x=D.burns.2:=⟨_,rfl⟩;have hfl:D.flushed = { D1 with lasting:=settle D1.lasting D1.waiting,waiting:=[] }:=by rw[hDe];unfold DiskA.burns DiskA.flushed;simp[hl]
 rw[← hDe] at hD1;have HFL:=oh hfl;have HD1:=oh hD1;have HM1:=oh hm1;obtain⟨cap,a1,a2,a3,rest,a4,a5⟩:=HD1.out.own;have hb256:=hD1.b256;have hn6:=hD1.few;obtain⟨n,hn⟩:∃n,n=D1.waiting.length:=⟨_,rfl⟩;obtain⟨c3,av,cv,hv⟩:=hD1.wvC;rw[hv,← hn] at c3;rw[← hn] at hn6;have HV:=oh hv;have HN:=oh hn;have A3:=oh a3;have A4:=oh a4;clear hD1 hm1 hfl hDe hv hn a3 a4;go_wp2_with fail;go_loopg [24] n (λm i wr=>∃k:Nat,k+m=n∧i=.int .i64 k∧Hid (Mods (λx=>x=bl) w1 wr∧Blk wr bl (((settleG gs (((D1.waiting.map (·.1)).zip ws).take k)).map (rowV D1.size))++rest).toArray 26))
 case atStart=>exact⟨0,by omega,rfl,oh ⟨Mods.refl _ _,A4.out⟩⟩
 case round =>
  obtain⟨k,hk,rfl,HW⟩:=hrel;have hdb:d≠bl:=λe=>(List.nodup_cons.1 HD1.out.nodup).1 (by rw[e];exact List.mem_cons_self)
  have d3:=((A3.out.mods HW.out.1 hdb).cell (o:=3) (v:=wv) rfl);by_cases hlt:k<n
  ·obtain⟨p,hp⟩:∃p,D1.waiting[k]? = some p:=⟨_,List.getElem?_eq_getElem (by rw[← HN.out];exact hlt)⟩;obtain⟨b,c,g,e1,e2,e3,e4,e5,e6⟩:=HD1.out.waitC2 k p hp;rw[HV.out] at e1;simp only[Value.slice.injEq] at e1;obtain⟨rfl,_,rfl⟩:=e1;have hbb:b≠bl:=λe=>e5 (e ▸ List.mem_cons_of_mem _ List.mem_cons_self)
   have x0:=(HW.out.1.cell (cell_lt e3) hbb).trans e3;have x1:=(HW.out.1.cell (cell_lt e4) hbb).trans e4;simp only[rowV] at x1;have d2:=((A3.out.mods HW.out.1 hdb).cell (o:=2) (v:=.slice (some ⟨bl,0,none⟩) D1.blocks cap) rfl);have hlen:((settleG gs (((D1.waiting.map (·.1)).zip ws).take k)).map (rowV D1.size)++rest).length=cap:=by rw[List.length_append,List.length_map,settleG_length];exact a5
   obtain⟨v0,hv0⟩:∃v0,wr.cell? ⟨bl,p.1,none⟩=some v0:=⟨_,HW.out.2.cell (by rw[List.getElem?_toArray];exact List.getElem?_eq_getElem (by rw[hlen];omega))⟩;have fb:=HW.out.2.frozen;have hdl:d<wr.heap.size:=cell_lt d2;have hbl:bl<wr.heap.size:=cell_lt hv0;have hbq:b<wr.heap.size:=cell_lt x0;have HE2:=oh e2;have HPP:=oh hp;obtain⟨pi,pb⟩:=p;simp only at *;have h1:(0:Int)≤(pi:Int):=by omega
   have h2:(pi:Int)<(D1.blocks:Int):=by omega
   have HLEN:=oh hlen;have HNX:Hid (∀wz,wz=(wr.setCell ⟨bl,pi,none⟩ (.slice (some ⟨g,0,none⟩) D1.size D1.size)).alloc (.cells #[.int .i64 (pi:Int),.slice (some ⟨g,0,none⟩) D1.size D1.size] 192)→Mods (λx=>x=bl) w1 wz∧Blk wz bl (((settleG gs (((D1.waiting.map (·.1)).zip ws).take (k+1))).map (rowV D1.size))++rest).toArray 26):=oh (by
    rintro _ rfl;refine⟨(HW.out.1.setCell (.inr rfl) _).alloc _,?_⟩;have q:=((HW.out.2.set pi (.slice (some ⟨g,0,none⟩) D1.size D1.size)).alloc (.cells #[.int .i64 (pi:Int),.slice (some ⟨g,0,none⟩) D1.size D1.size] 192));have e:(((settleG gs (((D1.waiting.map (·.1)).zip ws).take (k+1))).map (rowV D1.size))++rest).toArray=((((settleG gs (((D1.waiting.map (·.1)).zip ws).take k)).map (rowV D1.size))++rest).toArray.setIfInBounds pi (.slice (some ⟨g,0,none⟩) D1.size D1.size)):=by
     rw[take_one _ k (pi,g) (by rw[List.getElem?_zip_eq_some];exact⟨by simp[HPP.out],HE2.out⟩),settleG_snoc];simp only[List.map_set,List.setIfInBounds_toArray];rw[List.set_append_left _ _ (by rw[List.length_map,settleG_length,HD1.out.lenB];omega)];rfl
    rw[e];exact q)
   clear hp e2 e3 e4 e5 hlen d3;go_wp2_with fail;go_region
   go_wp2_with fail;go_roundg (gk-1)
   case measure=>omega
   case rel=>exact⟨k+1,by omega,by go_num,oh (by have:=HNX.out _ rfl;exact⟨this.1.drew,this.2⟩)⟩
  ·obtain rfl:k=n:=by omega
   have HZ:Hid (((D1.waiting.map (·.1)).zip ws).take k=(D1.waiting.map (·.1)).zip ws):=oh (List.take_of_length_le (by simp[HD1.out.lenW,HN.out]));have f3:wr.frozen? ⟨d,3,none⟩=false:=(A3.out.mods HW.out.1 hdb).frozen 3;rw[HV.out] at d3;go_wp2_with fail;go_ret;have hW2:=HW.out.2;rw[HZ.out] at hW2;have hs:=HD1.out.settled HW.out.1 a1 a2 A3.out hW2 a5;have hbl:P bl:=(HDD.out bl).2 (.inl (List.mem_cons_of_mem _ List.mem_cons_self));have hd:P d:=(HDD.out d).2 (.inl List.mem_cons_self);have m1:Mods P w w1:=HM1.out.mono (λx hx=>hx ▸ hd);have m2:Mods P w wr:=m1.trans (HW.out.1.mono (λx hx=>hx ▸ hbl));have m3:=m2.setCell (p:=⟨d,3,none⟩) (.inr hd) (.slice none 0 0);have hbd:Bd P w:=λx hx=>HD.out.bdF x ((HDD.out x).1 hx)
   have st:Stp P (dkF d bl (settleG gs ((D1.waiting.map (·.1)).zip ws)) [] (.slice none 0 0) kv) w (wr.setCell ⟨d,3,none⟩ (.slice none 0 0)):=by
    have hsub:∀x,dkF d bl (settleG gs ((D1.waiting.map (·.1)).zip ws)) [] (.slice none 0 0) kv x→P x:=λx hx=>by
     rcases hx with hx|hx|hx
     ·simp only[List.append_nil,List.mem_cons] at hx;rcases hx with rfl|rfl|hx
      ·exact hd
      ·exact hbl
      ·refine (HDD.out x).2 (.inl (List.mem_cons_of_mem _ (List.mem_cons_of_mem _ ?_)));rcases settleG_mem _ _ x hx with hx|hx
       ·exact List.mem_append_left _ hx
       ·rw[zip_snd (by simp[HD1.out.lenW])] at hx;exact List.mem_append_right _ hx
     ·simp[Value.ownBlock] at hx
     ·exact (HDD.out x).2 (.inr (.inr hx))
    exact⟨m3,λx _ hx=>hsub x hx,λx hx=>Nat.lt_of_lt_of_le (hbd x (hsub x hx)) m3.size⟩
   refine⟨_,_,rfl,⟨bl,_,_,_,kv,?_,λk=>Iff.rfl⟩,Nxt.of HL.out HP.out st⟩;rw[HFL.out];exact hs
end
end
section
open Go.RowKit
attribute [local go_sem ↓] Go.wp_at_zero Go.wp_at_succ
theorem right_ok(b s:Nat)(h1:8≤b)(h2:b≤256)(h3:256≤s)(h4:s≤1024)(w:World) :
  Calls Tryz.prog 73 #[.agg #[.int .i64 (b:Int),.int .i64 (s:Int)]] w λe w'=>e=.returned (.bool true)∧Ext w w':=by
 have a1:decide ((8:Int)≤(b:Int))=true:=by simp;omega
 have a2:decide ((b:Int)≤256)=true:=by simp;omega
 have a3:decide ((256:Int)≤(s:Int))=true:=by simp;omega
 have a4:decide ((s:Int)≤1024)=true:=by simp;omega
 clear h1 h2 h3 h4
 go_enter Tryz.func73, Tryz.ntmps73
 go_wp2
 go_ret;exact⟨rfl,(Mods.refl _ _).alloc _⟩
def encG(size:Nat)(g:Nat):List Value:=[rowV size g]
theorem encG_ok(size:Nat):EncOk (encG size) 1:=⟨λ_=>rfl,by intro x u hu;simp[encG,rowV] at hu;subst hu;rfl⟩
theorem Tryz.elR:ElT Tryz.prog 52 26 (.slice none 0 0) 1 24:=⟨Tryz.underlying52,by kernel_rfl,rfl,by decide,by decide⟩
section
variable {F:Nat→Prop}{ad:Nat→Addr}{w w':World}
def NewI(w:World)(B0 B1 b s:Nat)(wr:World)(gs:List Nat)(v:Value):Prop :=
 Ext w wr∧B1<wr.heap.size∧Blk wr B0 #[.int .i64 (b:Int),.int .i64 (s:Int)] 60 ∧ Blk wr B1 #[.int .i64 (b:Int),.int .i64 (s:Int),v,.slice none 0 0,.bool false,.int .i64 0,.int .i64 0,.int .i64 0,.slice none 0 0,.bool false,.int .i64 0] 138 ∧
   Own (λx=>x∈B0 :: B1 :: gs) wr B0 26 1 (encG s) v gs∧(B0 :: B1 :: gs).Nodup∧∀g,g∈gs→B1<g∧Blk wr g (bytesC (List.replicate s 0)) 5
theorem bytesC_zero(s:Nat):bytesC (List.replicate s 0)=Array.replicate s (.int .u8 0):=by
 rw[bytesC,List.map_replicate,List.toArray_replicate];rfl
theorem NewI.step{B0 B1 b s:Nat}{wr w4:World}{gs:List Nat}{v v':Value}(h:NewI w B0 B1 b s wr gs v)(hw:w.heap.size≤B0)(hB:B0<B1)
  (hown:Own (λx=>x∈B0 :: B1 :: gs) w4 B0 26 1 (encG s) v' (gs++[wr.heap.size])) (hgrow:((wr.drew.alloc (.cells (Array.replicate s (.int .u8 0)) 5)).alloc (.cells #[.slice (some ⟨wr.heap.size,0,none⟩) s s] 26)).grownBy w4 v.ownBlock)
  (hat:v'.ownBlock=v.ownBlock∨v'.ownBlock=some (wr.heap.size+2)):NewI w B0 B1 b s (w4.setCell ⟨B1,2,none⟩ v') (gs++[wr.heap.size]) v':=by
 obtain⟨h1,h2,h3,h4,h6,h7,h8⟩:=h;have mg:=Mods.of_grown hgrow;have m0:Ext wr ((wr.drew.alloc (.cells (Array.replicate s (.int .u8 0)) 5)).alloc (.cells #[.slice (some ⟨wr.heap.size,0,none⟩) s s] 26)):=((Mods.refl _ wr).drew.alloc _).alloc _;have e1:((wr.drew.alloc (.cells (Array.replicate s (.int .u8 0)) 5)).alloc (.cells #[.slice (some ⟨wr.heap.size,0,none⟩) s s] 26)).heap.size=wr.heap.size+2:=by simp
 have hsz:=mg.size;rw[e1] at hsz;have e3:wr.drew.heap.size=wr.heap.size:=rfl;have mA:Mods (λx=>v.ownBlock=some x) wr w4:=m0.ext.trans mg;have hv0:∀x,v.ownBlock=some x→w.heap.size≤x∧x<wr.heap.size:=λx hx=>by have:=h6.lt x hx;omega
 have hvn:∀x,x∈B0 :: B1 :: gs→¬ v.ownBlock=some x:=λx hx e=>h6.2 x e hx
 have hlt:∀x,x∈B0 :: B1 :: gs→x<wr.heap.size:=λx hx=>by
  simp only[List.mem_cons] at hx;rcases hx with rfl|rfl|hx
  ·exact h3.lt
  ·exact h4.lt
  ·exact (h8 x hx).2.lt
 have far:∀(x:Nat) (c:Array Value) (t:TypeId),x∈B0 :: B1 :: gs→x≠B1→Blk wr x c t→Blk (w4.setCell ⟨B1,2,none⟩ v') x c t:=λx c t hx hne hb=>(hb.mods mA (hvn x hx)).set_other hne _
 have hmem:∀x,x∈B0 :: B1 :: (gs++[wr.heap.size])→x∈B0 :: B1 :: gs∨x=wr.heap.size:=λx hx=>by
  simp only[List.mem_cons,List.mem_append,List.not_mem_nil,or_false] at hx ⊢;rcases hx with h|h|h|h <;> simp[h]
 have hnew:Blk (w4.setCell ⟨B1,2,none⟩ v') wr.heap.size (bytesC (List.replicate s 0)) 5:=by
  rw[bytesC_zero];exact (((Blk.new wr.drew _ _).alloc _).mods mg (λe=>by have:=hv0 _ e;omega)).set_other (by simp only;omega) _
 refine⟨(h1.trans' mA (λi hi e=>by have:=(hv0 i e).1;omega)).setCell (.inl (by simp only;omega)) _,?_,far B0 _ _ List.mem_cons_self (by omega) h3,?_,?_,?_,λg hg=>?_⟩
 ·simp only[World.setCell,Array.size_modify];omega
 ·have:=(h4.mods mA (hvn B1 (List.mem_cons_of_mem _ List.mem_cons_self))).set 2 v';simpa using this
 ·have hno:∀x,v'.ownBlock=some x→x≠B1:=λx hx e=>hown.2 x hx (e ▸ List.mem_cons_of_mem _ List.mem_cons_self)
  have k1:=hown.mods (Mods.at (λx=>x=B1) w4 B1 2 v' rfl) hno;refine⟨k1.1,λx hx hm=>?_⟩;rcases hmem x hm with hm|rfl
  ·exact k1.2 x hx hm
  ·rcases hat with e|e
   ·have:=(hv0 _ (e ▸ hx)).2;omega
   ·rw[e] at hx;injection hx with hx;omega
 ·have e:B0 :: B1 :: (gs++[wr.heap.size])=(B0 :: B1 :: gs)++[wr.heap.size]:=by simp
  rw[e,List.nodup_append];exact⟨h7,by simp,λx hx y hy e=>by have:=hlt x hx;simp at hy;omega⟩
 ·rw[List.mem_append] at hg;rcases hg with hg|hg
  ·exact⟨(h8 g hg).1,far g _ _ (List.mem_cons_of_mem _ (List.mem_cons_of_mem _ hg)) (λe=>by have:=(h8 g hg).1;omega) (h8 g hg).2⟩
  ·simp at hg;subst hg;exact⟨h2,hnew⟩
theorem map_flat(s:Nat):∀gs:List Nat,gs.map (rowV s)=gs.flatMap (encG s)
 | []=>rfl
 | x :: r=>by rw[List.map_cons,List.flatMap_cons,map_flat s r];rfl
theorem NewI.disk{B0 B1 b s:Nat}{wr:World}{gs:List Nat}{cap:Nat}{a:Option Addr}(h:NewI w B0 B1 b s wr gs (.slice a b cap))(hl:gs.length=b)(hw:w.heap.size≤B0)(hB:B0<B1)(h1:8≤b)(h2:b≤256)(h3:256≤s)(h4:s≤1024) :
  ∃P,DkS wr P B1 (newDisk b s)∧∀k,P k→w.heap.size≤k:=by
 obtain⟨k1,k2,k3,k4,k6,k7,k8⟩:=h;rcases k6.1.2 with ⟨e,_⟩|⟨bl,cap',cur,e,hb,hblk,hc,hm,hs,ht⟩
 ·cases e;omega
 ·simp only[Value.slice.injEq] at e;obtain⟨rfl,_,rfl⟩:=e;have hnb:=k6.2 bl rfl;simp only[List.mem_cons,not_or] at hnb;have hnd:=(List.nodup_cons.1 k7).2;unfold maxLen at hm;refine⟨dkF B1 bl gs [] (.slice none 0 0) (.slice none 0 0),⟨bl,gs,[],.slice none 0 0,.slice none 0 0,⟨⟨cap,by show b≤cap;omega,by omega,k4,cur.toList.drop gs.length,?_,?_⟩,hl,by simp[newDisk],rfl,Own.nil _ _ _ _ _ _,λg hg=>by simp[Value.ownBlock] at hg,by simp[newDisk],Own.nil _ _ _ _ _ _,
   λi g b' hg hb'=>?_,λi g p hg=>by simp at hg,?_,h1,h2,h3,h4,by simp[newDisk]⟩,λk=>Iff.rfl⟩,λk hk=>?_⟩
  ·have e2:(gs.map (rowV (newDisk b s).size)++cur.toList.drop gs.length).toArray=cur:=by
    have:gs.map (rowV (newDisk b s).size)=cur.toList.take gs.length:=by
     have h5:cur.toList.take (gs.length * 1)=gs.flatMap (encG s):=by simpa using ht
     rw[Nat.mul_one] at h5;rw[h5];exact map_flat s gs
    rw[this,List.take_append_drop,Array.toArray_toList]
   rw[e2];exact hblk
  ·simp;omega
  ·rw[show (newDisk b s).lasting=List.replicate b (List.replicate s 0) by rfl,List.getElem?_replicate] at hb';split at hb'
   ·injection hb' with hb';subst hb';exact⟨by simp[newDisk],(k8 g (List.mem_of_getElem? hg)).2⟩
   ·cases hb'
  ·rw[List.append_nil,List.nodup_cons,List.nodup_cons];refine⟨?_,hnb.2.2,(List.nodup_cons.1 hnd).2⟩;rw[List.mem_cons];rintro (e|e)
   ·exact hnb.2.1 e.symm
   ·exact (List.nodup_cons.1 hnd).1 e
  ·have hB1:w.heap.size≤B1:=by omega
   rcases hk with hk|hk|hk
   ·simp only[List.append_nil,List.mem_cons] at hk;rcases hk with rfl|rfl|hk
    ·exact hB1
    ·omega
    ·have:=(k8 k hk).1;omega
   ·simp[Value.ownBlock] at hk
   ·simp[Value.ownBlock] at hk
theorem dkNew_ok(b s:Nat)(h1:8≤b)(h2:b≤256)(h3:256≤s)(h4:s≤1024) :
  Calls Tryz.prog 24 #[.agg #[.int .i64 (b:Int),.int .i64 (s:Int)]] w λe w'=>∃d P,e=.returned (.tuple #[.pointer (some ⟨d,0,none⟩),.nilIface])∧DkS w' P d (newDisk b s)∧(∀k,P k→w.heap.size≤k)∧Ext w w':=by
 have hmk:=run_mk (P:=Tryz.prog) 26 5 (.int .u8 0) 1 Tryz.underlying26 Tryz.mkB rfl s (by omega) (by omega)
 go_enter Tryz.func24, Tryz.ntmps24
 go_wp2_with fail;refine (right_ok b s h1 h2 h3 h4 _).mono ?_;rintro e w1 ⟨rfl,hm⟩;have k0:=(Blk.new w #[.int .i64 (b:Int),.int .i64 (s:Int)] 60).ext hm;have c0:=k0.cell (o:=0) (v:=.int .i64 (b:Int)) rfl;have c1:=k0.cell (o:=1) (v:=.int .i64 (s:Int)) rfl;have HM:Hid (Ext w w1):=oh (((Mods.refl _ w).alloc _).trans hm);have HS:Hid (w.heap.size<w1.heap.size):=oh k0.lt;have K0:=oh k0;have hsz:=HS.out;clear k0 hm;go_wp2_with fail;go_loopg [15] b (λm i wr=>∃(cap:Nat) (gs:List Nat) (a:Option Addr),gs.length+m=b∧i=.int .i64 gs.length∧Hid (NewI w w.heap.size w1.heap.size b s wr gs (.slice a gs.length cap)))
 case atStart=>exact⟨0,[],none,by simp,rfl,oh ⟨HM.out.alloc _,by simp,K0.out.alloc _,Blk.new w1 _ _,Own.nil _ _ _ _ _ _,by simp;omega,by simp⟩⟩
 case round =>
  obtain⟨cap,gs,a,hk,rfl,HW⟩:=hrel;obtain⟨hW1,hW2,hW3,hW4,hW6,hW7,hW8⟩:=HW.out;have d2:=hW4.cell (o:=2) (v:=.slice a gs.length cap) rfl;have f2:=hW4.frozen 2;have g0:=hW3.cell (o:=0) (v:=.int .i64 (b:Int)) rfl;have g1:=hW3.cell (o:=1) (v:=.int .i64 (s:Int)) rfl;have l0:=cell_lt g0;have l1:=cell_lt d2;have HO:Hid (Own (λx=>x∈w.heap.size :: w1.heap.size :: gs) wr.drew w.heap.size 26 1 (encG s) (.slice a gs.length cap) gs):=oh (hW6.ext (Mods.refl _ _).drew);have HLT:Hid (∀x,x∈w.heap.size :: w1.heap.size :: gs→x<wr.heap.size):=oh (λx hx=>by
   simp only[List.mem_cons] at hx;rcases hx with rfl|rfl|hx
   ·exact l0
   ·exact l1
   ·exact (hW8 x hx).2.lt)
  have HDN:Hid (¬ (Value.slice a gs.length cap).ownBlock=some w1.heap.size):=oh (λe=>hW6.2 _ e (by simp));have HDB:Hid (w.heap.size≤wr.heap.size):=oh hW1.size;obtain⟨k,hkk⟩:∃k,k=gs.length:=⟨_,rfl⟩;have HGL:=oh hkk;have hmkd:∀x:Obj,((wr.alloc x).cell? ⟨w1.heap.size,2,none⟩=some (.slice a gs.length cap)∧(wr.alloc x).cell? ⟨w.heap.size,1,none⟩=some (.int .i64 (s:Int))):=λx=>⟨cell_alloc d2 x,cell_alloc g1 x⟩
  have hmkd2:∀x y:Obj,((wr.alloc x).alloc y).cell? ⟨w1.heap.size,2,none⟩=some (.slice a gs.length cap):=λx y=>cell_alloc (cell_alloc d2 x) y
  clear hW1 hW2 hW3 hW4 hW6 hW7 hW8 hkk;by_cases hlt:gs.length<b
  ·go_wp2_with fail;go_region_law
    ((refine step_app (enc:=encG s) (F:=λx=>x∈w.heap.size :: w1.heap.size :: gs) (G:=λ_=>False) Tryz.elR (encG_ok s) (by rfl) _ _ (by rfl) w.heap.size (.slice a gs.length cap) (.slice (some ⟨wr.heap.size+1,0,none⟩) 1 1) gs [wr.heap.size] (by rfl) (by rfl) (HO.out.ext (((Mods.refl _ wr.drew).alloc _).alloc _)) (Sl.one (x:=wr.heap.size) (t := 26) (fz:=(0,0)) (heap_at (by simp)) (λf=>f)) (by simp;omega) (by have:=HDB.out;simp;omega) (λf=>by have:=HLT.out _ f;simp at this;omega) ?_;intro a' c' w4 hown hgrow hat;obtain⟨k4,k5⟩:=keepC (Mods.of_grown hgrow) (keepA (keepA (w:=wr.drew) ⟨d2,f2⟩ _) _) HDN.out))
   all_goals
    have HNX:=oh (HW.out.step (Nat.le_refl _) hsz hown hgrow (by simpa using hat));clear hown hgrow hat k4 k5;go_wp2_with fail;go_roundg (gk-1)
    case measure=>omega
    case rel=>exact⟨c',gs++[wr.heap.size],a',by simp;omega,by simp,by simpa using HNX⟩
  ·have hkb:gs.length=b:=by omega
   have HKB:=oh hkb;clear hkb;go_wp2_with fail;go_ret2
   have hN:=HW.out;rw[HKB.out] at hN;obtain⟨P,q1,q2⟩:=hN.disk HKB.out (Nat.le_refl _) hsz h1 h2 h3 h4;exact⟨w1.heap.size,P,rfl,q1,q2,hN.1⟩
end
end
section
open Go.RowKit
def PgR(F:Nat→Prop)(w:World)(P:Nat→Prop)(c s:Nat)(G:GA)(l:List Nat):Prop :=
 ∃(d sb:Nat) (bvs:List Value) (Pd:Nat→Prop) (b2:Nat) (C:CaA),CaR F w d c sb bvs Pd C∧CaInv C∧CaRel C G∧G.cost≤1000000∧SpR w s b2 l∧(∀k,P k ↔ (caF c sb Pd k∨spF s b2 k))∧∀k,caF c sb Pd k→¬ spF s b2 k
def PgDone(F P:Nat→Prop)(ad:Nat→Addr)(w:World)(c s:Nat)(G':GA)(l':List Nat)(R:(Nat→Prop)→World→Ending→Prop)(e:Ending)(w':World):Prop :=
 ∃P' F',PgR F' w' P' c s G' l'∧Nxt P P' F F' ad w w'∧R F' w' e
def GA.check(G:GA)(id:Int):Option Err:=if id<0∨(G.blocks:Int)≤id then some ([pgOf id],2) else none
def GA.get(G:GA)(id:Int):PageA ⊕ Err :=
 match G.check id with
 | some e=>.inr e
 | none=>match G.view id.toNat with
  | some (.inl p)=>.inl p
  | some (.inr (l,k))=>.inr (-1 :: l,k)
  | none=>.inr ([],0)
def GA.knows(G:GA)(id:Int):Prop:=G.check id=none→∃r,G.view id.toNat=some r
section
variable {P P' F F':Nat→Prop}{ad:Nat→Addr}{w w':World}{c s:Nat}{G G':GA}{l l':List Nat}{R:(Nat→Prop)→World→Ending→Prop}
theorem Nxt.iff{Q Q':Nat→Prop}(n:Nxt P P' F F' ad w w')(h:∀k,Q k ↔ P k)(h':∀k,Q' k ↔ P' k):Nxt Q Q' F F' ad w w' :=
 ⟨⟨n.stp.mods.mono (λk hk=>(h k).2 hk),λk hk hq=>(h k).2 (n.stp.old k hk ((h' k).1 hq)),λk hq=>n.stp.bd k ((h' k).1 hq)⟩,λk hq=>n.sub k ((h' k).1 hq),n.grow,n.oldF,n.env⟩
theorem PgR.at(h:PgR F w P c s G l)(m:Ext w w'):PgR F w' P c s G l:=by
 obtain⟨d,sb,bvs,Pd,b2,C,h1,h2,h3,h4,h5,h6,h7⟩:=h;exact⟨d,sb,bvs,Pd,b2,C,h1.at m,h2,h3,h4,h5.mods m (λf=>f) (λf=>f),h6,h7⟩
theorem PgR.bd(h:PgR F w P c s G l):Bd P w:=λk hk=>by
 obtain⟨d,sb,bvs,Pd,b2,C,h1,h2,h3,h4,h5,h6,h7⟩:=h;rcases (h6 k).1 hk with hk|rfl|rfl
 ·exact h1.bdP k hk
 ·exact h5.own.lt
 ·exact h5.row.lt
theorem PgR.step{d sb sb' b2:Nat}{bvs':List Value}{Pd Pd':Nat→Prop}{C':CaA}(hL:Env F ad w)(hP:∀k,P k→F k)(h5:SpR w s b2 l)(h6:∀k,P k ↔ (caF c sb Pd k∨spF s b2 k))(h7:∀k,caF c sb Pd k→¬ spF s b2 k)
  (hC:CaR F' w' d c sb' bvs' Pd' C') (hI:CaInv C') (hG:CaRel C' G') (hco:G'.cost≤1000000) (n:Nxt (caF c sb Pd) (caF c sb' Pd') F F' ad w w') :
  ∃P',PgR F' w' P' c s G' l∧Nxt P P' F F' ad w w':=by
 have hns:¬ caF c sb Pd s:=λf=>h7 s f (.inl rfl)
 have hnb:¬ caF c sb Pd b2:=λf=>h7 b2 f (.inr rfl)
 have q:=n.part (Q:=spF s b2) (λk hk=>hP k ((h6 k).2 (.inr hk))) hL;refine⟨λk=>caF c sb' Pd' k∨spF s b2 k,⟨d,sb',bvs',Pd',b2,C',hC,hI,hG,hco,h5.mods n.stp.mods hns hnb,λk=>Iff.rfl,λk hk hs=>?_⟩,q.iff h6 (λk=>Iff.rfl)⟩;rcases hs with rfl|rfl
 ·exact n.not h5.own.lt hns hk
 ·exact n.not h5.row.lt hnb hk
theorem PgR.lim(h:PgR F w P c s G l):8≤G.blocks∧G.blocks≤256∧256≤G.size∧G.size≤1024∧8≤l.length∧l.length≤256:=by
 obtain⟨d,sb,bvs,Pd,b2,C,h1,h2,h3,h4,h5,h6,h7⟩:=h;exact⟨h3.blocks ▸ h2.b8,h3.blocks ▸ h2.b256,h3.size ▸ h2.s256,h3.size ▸ h2.s1024,h5.len,h5.len2⟩
theorem get_eq{C:CaA}(h:CaRel C G)(id:Int)(hk:G.knows id):C.get id=G.get id:=by
 unfold CaA.get GA.get;have e:C.check id=G.check id:=by unfold CaA.check GA.check;rw[h.blocks]
 rw[e];cases hc:G.check id with
 | some e=>rfl
 | none =>
  obtain⟨r,hr⟩:=hk hc;simp only[hr];rw[h.view _ r hr];rcases r with p|⟨a,b⟩ <;> rfl
theorem pgGet(hL:Env F ad w)(hP:∀k,P k→F k)(h:PgR F w P c s G l)(id:Int)(hk:G.knows id) :
  Calls Tryz.prog 278 #[.pointer (some ⟨c,0,none⟩),.int .i64 id] w (PgDone F P ad w c s G l (λF' w' e=>PageRes F' ad w' (G.get id) e)):=by
 obtain⟨d,sb,bvs,Pd,b2,C,h1,h2,h3,h4,h5,h6,h7⟩:=h;refine (caGet_any hL (λk hk=>hP k ((h6 k).2 (.inl hk))) h1 h2 (Nat.le_trans h3.cost h4) id).mono ?_;rintro e w' ⟨bvs',Pd',F',C',k1,k2,k3,k4⟩;obtain⟨P',q1,q2⟩:=PgR.step hL hP h5 h6 h7 k1 k2.inv (k2.rel h3) h4 k3;exact⟨P',F',q1,q2,by rw[← get_eq h3 id hk];exact k4⟩
theorem pgPut(hL:Env F ad w)(hP:∀k,P k→F k)(h:PgR F w P c s G l)(p:PageA)(bv:Value)(hb:Sl F w 1 encB bv p.body)(hg:p.gen<18446744073709551616)(hid:0≤p.id∧p.id<G.blocks)(hpc:pgCheck p G.size=none)(hco:G.cost<1000000) :
  Calls Tryz.prog 235 #[.pointer (some ⟨c,0,none⟩),pageV p bv] w (PgDone F P ad w c s (G.put p) l (λ_ _ e=>e=.returned .nilIface)):=by
 obtain⟨d,sb,bvs,Pd,b2,C,h1,h2,h3,h4,h5,h6,h7⟩:=h;refine (caPut_any hL (λk hk=>hP k ((h6 k).2 (.inl hk))) h1 h2 (Nat.le_trans h3.cost h4) p bv hb hg).mono ?_;rintro e w' ⟨bvs',Pd',F',C',ev,rfl,k1,k3,k4,k5⟩;have hE:C.putE p=none:=by
  unfold CaA.putE CaA.check;rw[if_neg (by rw[h3.blocks];omega),h3.size];simp only[hpc];rfl
 rcases k5 with ⟨_,_,_,hI,hR⟩|⟨hne,_⟩
 ·obtain⟨P',q1,q2⟩:=PgR.step hL hP h5 h6 h7 k1 hI (hR G h3) (by show G.cost+1≤_;omega) k3;rw[hE] at k4;cases k4
  exact⟨P',F',q1,q2,rfl⟩
 ·exact absurd hE hne
theorem pgDrop(hL:Env F ad w)(hP:∀k,P k→F k)(h:PgR F w P c s G l)(id:Nat) :
  Calls Tryz.prog 286 #[.pointer (some ⟨c,0,none⟩),.int .i64 (id:Int)] w (PgDone F P ad w c s (G.drop id) l (λ_ _ e=>∃b,e=.returned (.bool b))):=by
 obtain⟨d,sb,bvs,Pd,b2,C,h1,h2,h3,h4,h5,h6,h7⟩:=h;refine (caDrop_any hL (λk hk=>hP k ((h6 k).2 (.inl hk))) h1 h2 id).mono ?_;rintro e w' ⟨b,bvs',C',rfl,k1,k3,k4,_,_,k5⟩;obtain⟨P',q1,q2⟩:=PgR.step hL hP h5 h6 h7 k1 k4 (k5 G h3) h4 k3;exact⟨P',F,q1,q2,b,rfl⟩
theorem waits{F:Nat→Prop}{d sb:Nat}{bvs:List Value}{Pd:Nat→Prop}{C:CaA}(h:CaR F w d c sb bvs Pd C):∀p∈C.disk.waiting,p.1<C.disk.blocks:=by
 obtain⟨bl,gs,ws,wv,kv,h1,h2⟩:=h.disk;intro p hp;obtain⟨j,hj,e⟩:=List.getElem_of_mem hp;have hw:j<ws.length:=by rw[h1.lenW];exact hj
 exact (h1.wrow j _ p (List.getElem?_eq_getElem hw) (by rw[← e];exact List.getElem?_eq_getElem hj)).1
theorem PgR.space(hL:Env F ad w)(hP:∀k,P k→F k){d sb b2:Nat}{bvs:List Value}{Pd:Nat→Prop}{C:CaA}(h1:CaR F w d c sb bvs Pd C)(h2:CaInv C)(h3:CaRel C G)(h4:G.cost≤1000000)(h6:∀k,P k ↔ (caF c sb Pd k∨spF s b2 k))(h7:∀k,caF c sb Pd k→¬ spF s b2 k)
  (h5:SpR w' s b2 l') (m:Mods (spF s b2) w w'):PgR F w' P c s G l'∧Nxt P P F F ad w w' :=
 ⟨⟨d,sb,bvs,Pd,b2,C,h1.far m h7 (λk hk=>hP k ((h6 k).2 (.inr hk))),h2,h3,h4,h5,h6,h7⟩,Nxt.same hL hP (m.mono (λk hk=>(h6 k).2 (.inr hk)))⟩
def TakeP(ad:Nat→Addr)(l:List Nat)(F':Nat→Prop)(w':World)(e:Ending):Prop :=
 (∃i,spFree l=some i∧i<l.length∧e=.returned (.tuple #[.int .i64 (i:Int),.nilIface]))∨(spFree l=none∧∃f,e=.returned (.tuple #[.int .i64 0,faultV f])∧ErrC F' ad w' (faultV f) [-1] 3)
def spTake(l:List Nat):List Nat:=match spFree l with|some i=>l.set i 2|none=>l
theorem pgTake(hL:Env F ad w)(hP:∀k,P k→F k)(h:PgR F w P c s G l) :
  Calls Tryz.prog 285 #[.pointer (some ⟨s,0,none⟩)] w (PgDone F P ad w c s G (spTake l) (TakeP ad l)):=by
 obtain⟨d,sb,bvs,Pd,b2,C,h1,h2,h3,h4,h5,h6,h7⟩:=h;refine (spTake_any hL s b2 l h5).mono ?_;rintro e w' (⟨i,k1,k2,rfl,k3,k4⟩|⟨k1,f,rfl,k3,k4⟩)
 ·obtain⟨q1,q2⟩:=PgR.space hL hP h1 h2 h3 h4 h6 h7 k3 k4;exact⟨P,F,by unfold spTake;rw[k1];exact q1,q2,.inl ⟨i,k1,k2,rfl⟩⟩
 ·have q:=Nxt.ext hL hP k4;exact⟨P,F,by unfold spTake;rw[k1];exact⟨d,sb,bvs,Pd,b2,C,h1.at k4,h2,h3,h4,h5.mods k4 (λf=>f) (λf=>f),h6,h7⟩,q,.inr ⟨k1,f,rfl,k3⟩⟩
theorem pgGive(hL:Env F ad w)(hP:∀k,P k→F k)(h:PgR F w P c s G l)(id:Int) :
  Calls Tryz.prog 287 #[.pointer (some ⟨s,0,none⟩),.int .i64 id] w (PgDone F P ad w c s G (spGive l id).1 (λF' w' e=>∃ev,e=.returned ev∧ErrR F' ad w' ev (spGive l id).2)):=by
 obtain⟨d,sb,bvs,Pd,b2,C,h1,h2,h3,h4,h5,h6,h7⟩:=h;refine (Give_any hL s b2 l h5 id).mono ?_;rintro e w' ⟨ev,rfl,k1,k2,k3⟩;obtain⟨q1,q2⟩:=PgR.space hL hP h1 h2 h3 h4 h6 h7 k2 k3;exact⟨P,F,q1,q2,ev,rfl,k1⟩
theorem pgDisk(h:PgR F w P c s G l):∃d,Hid (PgR F w P c s G l)∧(Calls Tryz.prog 283 #[.pointer (some ⟨c,0,none⟩)] w λe w'=>e=.returned (.pointer (some ⟨d,0,none⟩))∧w=w') ∧
  (∀w',Ext w w' → Calls Tryz.prog 86 #[.pointer (some ⟨d,0,none⟩)] w' λe w''=>e=.returned (.agg #[.int .i64 G.blocks,.int .i64 G.size])∧Ext w' w''):=by
 have H:=oh h;obtain⟨d,sb,bvs,Pd,b2,C,h1,h2,h3,h4,h5,h6,h7⟩:=h;refine⟨d,H,caDisk_any h1,λw' m=>?_⟩;rw[← h3.blocks,← h3.size];exact (h1.disk.at m).geo
end
def pgV(c s gen:Nat):Value:=.agg #[.pointer (some ⟨c,0,none⟩),.pointer (some ⟨s,0,none⟩),.int .u64 (gen:Int)]
def chCheck(n:Int):Option Err:=if n≤24∨4096<n then some ([-1],2) else none
section
variable {P P' F F':Nat→Prop}{ad:Nat→Addr}{w w':World}{c s:Nat}{G G':GA}{l l':List Nat}
theorem chSize_any(h:PgR F w P c s G l)(gen:Nat) : Calls Tryz.prog 294 #[pgV c s gen] w λe w'=>e=.returned (.int .i64 (G.size:Int))∧Ext w w':=by
 unfold pgV;have m0:Ext w (w.alloc (.cells #[.pointer (some ⟨c,0,none⟩),.pointer (some ⟨s,0,none⟩),.int .u64 (gen:Int)] 142)):=(Mods.refl _ w).alloc _;obtain⟨d,HH,h1,h2⟩:=pgDisk (h.at m0);have gf1:=Tryz.geoF1;have H1:=oh h1;have H2:=oh h2;have M0:=oh m0;clear h1 h2 h m0
 go_enter Tryz.func294, Tryz.ntmps294
 go_wp2_with fail;refine H1.out.mono ?_;rintro e w1 ⟨rfl,rfl⟩;go_wp2_with fail;refine (H2.out _ (Mods.refl _ _)).mono ?_;rintro e w2 ⟨rfl,hm⟩;have HM:=oh hm;clear hm;go_wp2_with fail;go_ret;exact⟨rfl,M0.out.trans HM.out⟩
theorem chCheck_any(hL:Env F ad w)(op:ByteArray)(gen:Nat)(n:Int) : Calls Tryz.prog 292 #[.string op,pgV c s gen,.int .i64 n] w λe w'=>∃ev,e=.returned ev∧ErrR F ad w' ev (chCheck n)∧Ext w w':=by
 unfold pgV;have m0:Ext w (w.alloc (.cells #[.pointer (some ⟨c,0,none⟩),.pointer (some ⟨s,0,none⟩),.int .u64 (gen:Int)] 142)):=(Mods.refl _ w).alloc _;have hL0:=hL.mods m0.ext;have g2:=hL.c2;have hsz:=hL.size;have g2' : 1 < w.heap.size:=by omega
 have HL:=oh hL0;have M0:=oh m0;clear hL hL0 m0;by_cases h1:n≤24
 ·have HR:Hid (chCheck n=some ([-1],2)):=oh (by unfold chCheck;rw[if_pos (.inl h1)])
  go_enter Tryz.func292, Tryz.ntmps292
  go_wp2_with fail;refine (new_any HL.out _ _ [] 2 (.sent 2 (by decide) (by decide))).mono ?_;rintro e w1 ⟨f,rfl,hE,hm⟩;have HE:=oh hE;have HM:=oh hm;clear hE hm;go_wp2_with fail;go_ret;exact⟨_,rfl,by rw[HR.out];exact⟨f,rfl,HE.out⟩,M0.out.trans HM.out⟩
 ·by_cases h2:4096<n
  ·have HR:Hid (chCheck n=some ([-1],2)):=oh (by unfold chCheck;rw[if_pos (.inr h2)])
   go_enter Tryz.func292, Tryz.ntmps292
   go_wp2_with fail;refine (new_any HL.out _ _ [] 2 (.sent 2 (by decide) (by decide))).mono ?_;rintro e w1 ⟨f,rfl,hE,hm⟩;have HE:=oh hE;have HM:=oh hm;clear hE hm;go_wp2_with fail;go_ret;exact⟨_,rfl,by rw[HR.out];exact⟨f,rfl,HE.out⟩,M0.out.trans HM.out⟩
  ·have HR:Hid (chCheck n=none):=oh (by unfold chCheck;rw[if_neg (by omega)])
   go_enter Tryz.func292, Tryz.ntmps292
   go_wp2_with fail;go_ret;exact⟨_,rfl,by rw[HR.out];rfl,M0.out⟩
end
end
end Go.Proofs.YtdnbmdghmmpgcaaGreatDoor
