/- insert.Put on a search tree: a leaf with a pair, a node with a pair beneath it, a whole tree. Plain. | A whole tree: what it weighs, and insert.Put on it. Plain. | insert.apart: a node, cut ahead of a place. -/
import Derived.Test.YtphafjmdhmpkbaaGreatDoorK29
import Derived.Test.YtphafjmdhmpkbaaGreatDoorK24
import Derived.Test.YtphafjmdhmpkbaaGreatDoorK08
import Derived.Test.YtphafjmdhmpkbaaGreatDoorK27
import Derived.Deep.RegionHeld3
namespace Go.Proofs.YtphafjmdhmpkbaaGreatDoor
open Go.RowKit
section
variable {G G' G1:GA} {l l' l1:List Nat} {gen:Nat} {lo:ByteArray} {hi:Option ByteArray} {ps:List PairS} {q:List Nat}
theorem place_stays {old:Nat} {A A1:Nat→Prop} (h:Upd G l A G1 l1 A1) (ho:PlaceOf l old) (hn:old ≠ 0→¬ A old):PlaceOf l1 old:=by
  rcases ho with ho | ⟨h1,h2⟩
  · exact .inl ho
  · have h0:l[old]? ≠ some 0:=fun e=>by rcases h2 with h2 | h2 <;> rw [e] at h2 <;> simp at h2
    exact .inr ⟨h1,by rw [(h.view (hn (by omega)) h0).2.1];exact h2⟩
theorem leafPut_tr {old:Nat} {n:NodeA} {key v:ByteArray} (hc:CtxG G l) (ho:PlaceOf l old) (hl:n.leaf=true) (hr:rightN n=true) (hw:weightN n≤(G.size:Int) - 24) (he:Ents G gen n.entries ps q) (hbd:∀ x ∈ ps,inB lo hi x.1) (hk:inB lo hi key) (hkb:keyB key=true) (hv:v.size≤4096)
    (hq:q.Nodup) (hu:UseL l (fun k=>k ∈ q)) (hoq:old ≠ 0→old ∉ q) :
    (leafA G l gen old n key v=.inr 3∧phiL l≤1+(ndV G.size v:Nat)) ∨
    ∃ G' l' o pgs,leafA G l gen old n key v=.inl (G',l',o)∧o.news=(findP key ps).isNone∧Came G l (fun k=>(k=old∧old ≠ 0)∨k ∈ q) gen 1 lo hi (withP key v true ps) G' l' o pgs∧pgs.length≤q.length+ndV G.size v+2∧(n.entries=[]→o.two=false):=by
  have hpw:=rightN_leaf hr hl
  have h2q:∀ i ∈ q,2≤i:=fun i hi=>(he.lt i hi).1
  obtain ⟨l1,lm,l2,q1,qm,q2,e1,e2,rfl,rfl,hlow,hhigh,his,hlm,hold,hsum⟩:=he.at_ hpw key hc.s256 hc.b256
  have hsort:SortedP (l1 ++ (lm ++ l2)):=by
    rw [he.keys] at hpw
    exact List.pairwise_map.1 hpw
  have hnd:=List.nodup_append.1 hq
  have hnd2:=List.nodup_append.1 hnd.2.1
  have hum:UseL l (fun k=>k ∈ qm):=fun k hk=>hu k (by simp [hk])
  obtain ⟨u1,u2,u3⟩:=upd_erase (G:=G) qm l hnd2.1 (fun i hi=>h2q i (by simp [hi])) hum
  have hA2:∀ k,k ∈ qm→2≤k:=fun k hk=>h2q k (by simp [hk])
  have hcg:=hc.upd u1 hA2
  unfold leafA
  rw [hold n rfl]
  have hszg:(giveG G qm).size=G.size:=u1.sz
  rcases entry_tr (gen:=gen) hcg hkb hv with ⟨f1,f2⟩ | ⟨Gw,lw,e,ids,f1,f2,f3,f4,f5,f6,f7,f8⟩
  · rw [f1]
    rw [hszg] at f2
    exact .inl ⟨rfl,by omega⟩
  · rw [f1]
    simp only
    rw [hszg] at f4 f8
    have u4:=u1.trans f2 hum
    -- what stays
    have hd1:∀ k ∈ q1 ++ q2,¬ (k ∈ qm):=fun k hk hm=>by
      rcases List.mem_append.1 hk with hk | hk
      · exact hnd.2.2 k hk k (by simp [hm]) rfl
      · exact hnd2.2.2 k hm k hk rfl
    obtain ⟨z1,z2⟩:=u4.views hd1 (fun k hk=>hu k (by rcases List.mem_append.1 hk with hk | hk <;> simp [hk]))
    have hcw:=hc.upd u4 hA2
    have how:=place_stays u4 ho (fun hz hm=>hoq hz (by simp [hm]))
    have hszw:Gw.size=G.size:=u4.sz
    have hblw:Gw.blocks=G.blocks:=u4.bl
    -- the entries then
    have hE:Ents Gw gen (n.entries.take (entAt key n.entries) ++ [e] ++ n.entries.drop (entAt key n.entries+if entIs key n.entries=true then 1 else 0)) (l1 ++ ([(key,v)] ++ l2)) (q1 ++ (ids ++ q2)):=by
      rw [List.append_assoc]
      exact (e1.mono (Nat.le_refl _) hblw hszw (fun i hi=>(z1 i (by simp [hi])).1)).append ((Ents.one f5 f6).append (e2.mono (Nat.le_refl _) hblw hszw (fun i hi=>(z1 i (by simp [hi])).1)))
    have hwp:withP key v true (l1 ++ (lm ++ l2))=l1 ++ ([(key,v)] ++ l2):=by
      rw [withP_low _ hlow,withP_high hhigh]
      congr 1
      congr 1
      rcases hlm with rfl | ⟨ov,rfl⟩
      · rfl
      · simp [withP,ltS_irrefl]
    obtain ⟨n',hn'⟩:∃ n',n'=withE n key e:=⟨_,rfl⟩
    have hent':n'.entries=n.entries.take (entAt key n.entries) ++ [e] ++ n.entries.drop (entAt key n.entries+if entIs key n.entries=true then 1 else 0):=by rw [hn'];rfl
    have hform:=form_right hr
    unfold formN at hform
    rw [if_pos hl] at hform
    have hleaf':n'.leaf=true:=by rw [hn'];exact hl
    have hkeys':n'.keys=[]:=by rw [hn'];exact hform.1
    have hkids':n'.kids=[]:=by rw [hn'];exact hform.2
    have hse':sumE n'.entries≤sumE n.entries+59:=by
      rw [hent',sumE_append,sumE_append]
      have:=rightE_wt f7
      simp only [sumE]
      omega
    have hwt:weightN n=2+sumE n.entries:=by unfold weightN;rw [hl,hform.1];simp [sumK]
    have hwt':weightN n'=2+sumE n'.entries:=by unfold weightN;rw [hleaf',hkeys'];simp [sumK]
    have hsort':SortedP (l1 ++ ([(key,v)] ++ l2)):=by rw [← hwp];exact sorted_withP hsort
    have hr':rightN n'=true:=by
      have e:n'=⟨true,n'.entries,[],[]⟩:=by rw [← hleaf',← hkeys',← hkids']
      rw [e]
      refine right_leafI (fun x hx=>?_) ?_ ?_
      · rw [hent'] at hx
        rcases List.mem_append.1 hx with hx | hx
        · rcases List.mem_append.1 hx with hx | hx
          · exact rightN_ents hr x (List.mem_of_mem_take hx)
          · rw [List.mem_singleton.1 hx];exact f7
        · exact rightN_ents hr x (List.mem_of_mem_drop hx)
      · rw [hent',hE.keys]
        exact List.pairwise_map.2 hsort'
      · have:=sumE_len n'.entries
        have:=hc.s1024
        omega
    have hb':Body Gw gen (TrD Gw gen 0) 0 lo hi n' (l1 ++ ([(key,v)] ++ l2)) (q1 ++ (ids ++ q2)):=by
      refine .inl ⟨hleaf',rfl,by simp,by rw [hent'];exact hE,fun x hx=>?_⟩
      rcases List.mem_append.1 hx with hx | hx
      · exact hbd x (by simp [hx])
      · rcases List.mem_append.1 hx with hx | hx
        · rw [List.mem_singleton.1 hx];exact hk
        · exact hbd x (by simp [hx])
    have hid:∀ i ∈ ids,i ∉ q1 ++ q2∧(old ≠ 0→i ≠ old):=fun i hi=>by
      refine ⟨fun hm=>(z1 i hm).2.2 hi,fun hz e=>?_⟩
      rcases ho with h | ⟨_,h⟩
      · exact hz h
      · have h0:l[old]? ≠ some 0:=fun e=>by rcases h with h | h <;> rw [e] at h <;> simp at h
        have:=(u4.view (i:=old) (fun hm=>hoq hz (by simp [hm])) h0).2.2
        exact this (e ▸ hi)
    have hq':(q1 ++ (ids ++ q2)).Nodup:=by
      refine List.nodup_append.2 ⟨hnd.1,List.nodup_append.2 ⟨f3,hnd2.2.1,fun a ha b hb e=>?_⟩,fun a ha b hb e=>?_⟩
      · subst e;exact (hid a ha).1 (by simp [hb])
      · subst e
        rcases List.mem_append.1 hb with hb | hb
        · exact (hid a hb).1 (by simp [ha])
        · exact hnd.2.2 a ha a (by simp [hb]) rfl
    have huids:=u4.use hum
    have hu':UseL lw (fun k=>k ∈ q1 ++ (ids ++ q2)):=fun k hk=>by
      rcases List.mem_append.1 hk with hk | hk
      · exact z2 k (by simp [hk])
      · rcases List.mem_append.1 hk with hk | hk
        · exact huids k hk
        · exact z2 k (by simp [hk])
    have hoq':old ≠ 0→old ∉ q1 ++ (ids ++ q2):=fun hz hm=>by
      rcases List.mem_append.1 hm with hm | hm
      · exact hoq hz (by simp [hm])
      · rcases List.mem_append.1 hm with hm | hm
        · exact (hid old hm).2 hz rfl
        · exact hoq hz (by simp [hm])
    have h2':∀ k ∈ q1 ++ (ids ++ q2),2≤k:=fun k hk=>(hE.lt k hk).1
    have hcs:=settle_tr hcw how hr' (by rw [hszw,hwt'];omega) hb' hq' hu' hoq' h2'
    rw [← hn']
    have hlenq:(q1 ++ (ids ++ q2)).length≤(q1 ++ (qm ++ q2)).length+ndV G.size v:=by simp only [List.length_append];omega
    rcases hcs with ⟨s1,s2⟩ | ⟨G2,ll2,o,pgs,s1,s2,s3,s4,s5⟩
    · rw [s1]
      exact .inl ⟨rfl,by omega⟩
    · rw [s1]
      simp only
      have hB:∀ k,((k=old∧old ≠ 0)∨k ∈ q1 ++ q2)→¬ (k ∈ qm)∧l[k]? ≠ some 0:=fun k hk=>by
        rcases hk with ⟨rfl,hz⟩ | hk
        · refine ⟨fun hm=>hoq hz (by simp [hm]),fun e=>?_⟩
          rcases ho with h | ⟨_,h⟩
          · exact hz h
          · rcases h with h | h <;> rw [e] at h <;> simp at h
        · exact ⟨hd1 k hk,hu.ne0 (by rcases List.mem_append.1 hk with hk | hk <;> simp [hk])⟩
      have u5:=(u4.frame hB).iff (A':=fun k=>(k=old∧old ≠ 0)∨k ∈ q1 ++ (qm ++ q2)) (A1':=fun k=>(k=old∧old ≠ 0)∨k ∈ q1 ++ (ids ++ q2)) (fun k=>by simp only [List.mem_append];grind) (fun k=>by simp only [List.mem_append];grind)
      have huA:UseL l (fun k=>(k=old∧old ≠ 0)∨k ∈ q1 ++ (qm ++ q2)):=fun k hk=>by
        rcases hk with ⟨rfl,hz⟩ | hk
        · rcases ho with h | ⟨_,h⟩
          · exact absurd h hz
          · exact h
        · exact hu k hk
      have s6:=s3.pre u5 huA
      rw [hwp]
      refine .inr ⟨G2,ll2,{ o with news:=!entIs key n.entries },pgs,rfl,?_,⟨s6.upd,s6.nodup,s6.two,s6.kids,s6.keys,s6.ctx,s6.use⟩,by omega,fun hne=>?_⟩
      · simp only [his];cases findP key (l1 ++ (lm ++ l2)) <;> rfl
      · refine s5 ?_
        have h9:sumE n.entries=0:=by rw [hne];rfl
        rw [hwt',hszw]
        have:=hc.s256
        omega
/-! ### a node with a pair beneath it -/
theorem joinA_eq (n:NodeA) (i:Nat) (o:OutA):joinA n i o = { n with kids:=n.kids.take i ++ outKids o ++ n.kids.drop (i+1),keys:=n.keys.take i ++ outKeys o ++ n.keys.drop (i+0) }:=by
  unfold joinA outKids outKeys
  by_cases h:o.two=true
  · simp [h]
  · simp [h]
theorem pg_load {id:Nat} {n:NodeA} (h:PgN G gen id n):G.load (id:Int)=.inl n∧G.node id=some n:=by
  obtain ⟨p,h1,_,h3⟩:=h.page
  have h4:G.node id=some n:=by
    unfold GA.node
    rw [if_pos h.lt,h1]
    simp only [h3]
  exact ⟨(GA.node_load h4).2,h4⟩
theorem put_tr {key v:ByteArray} (hkb:keyB key=true) (hv:v.size≤4096):∀ (d f:Nat) (G:GA) (l:List Nat) (id:Nat) (lo:ByteArray) (hi:Option ByteArray) (ps:List PairS) (pgs:List Nat),CtxG G l→TrD G gen d lo hi id ps pgs→pgs.Nodup→UseL l (fun k=>k ∈ pgs)→inB lo hi key→d≤f →
    (putA gen key v f G l id=.inr 3∧phiL l≤(ndV G.size v:Nat)+d) ∨
    ∃ G' l' o pgs',putA gen key v f G l id=.inl (G',l',o)∧o.news=(findP key ps).isNone∧Came G l (fun k=>k ∈ pgs) gen d lo hi (withP key v true ps) G' l' o pgs'∧pgs'.length≤pgs.length+ndV G.size v+d
  | 0,_,_,_,_,_,_,_,_,_,h,_,_,_,_=>h.elim
  | d+1,0,_,_,_,_,_,_,_,_,_,_,_,_,h=>by omega
  | d+1,f+1,G,l,id,lo,hi,ps,pgs,hc,hT,hn,hu,hk,hf=>by
    obtain ⟨n,q,hp,hr,rfl,hb⟩:=hT
    obtain ⟨hload,_⟩:=pg_load hp
    have hid:id ∉ q∧q.Nodup:=List.nodup_cons.1 hn
    have hqid:id ≠ 0:=by have:=hp.lo;omega
    have huq:UseL l (fun k=>k ∈ q):=fun k hk=>hu k (List.mem_cons_of_mem _ hk)
    have hpl:PlaceOf l id:=.inr ⟨hp.lo,hu id List.mem_cons_self⟩
    have hA:∀ k,(k ∈ id :: q) ↔ ((k=id∧id ≠ 0)∨k ∈ q):=fun k=>by
      rw [List.mem_cons]
      exact ⟨fun h=>h.imp (fun h=>⟨h,hqid⟩) (fun h=>h),fun h=>h.imp (fun h=>h.1) (fun h=>h)⟩
    rw [putA,hload]
    simp only
    rcases hb with ⟨hl,hd,hne,he,hbd⟩ | ⟨hl,hkd⟩
    · subst hd
      rw [if_pos hl]
      rcases leafPut_tr (key:=key) (v:=v) hc hpl hl hr hp.fit he hbd hk hkb hv hid.2 huq (fun _=>hid.1) with ⟨a1,a2⟩ | ⟨G2,l2,o,pgs,a1,a2,a3,a4,a5⟩
      · exact .inl ⟨a1,by omega⟩
      · exact .inr ⟨G2,l2,o,pgs,a1,a2,⟨a3.upd.iff hA (fun _=>Iff.rfl),a3.nodup,a3.two,a3.kids,a3.keys,a3.ctx,a3.use⟩,by rw [List.length_cons];omega⟩
    · rw [if_neg (by rw [hl];simp)]
      obtain ⟨k1,k2,c1,c,c2,l1,lm,l2,q1,qm,q2,lo',hi',e1,e2,e3,e4,rfl,rfl,e7,e8,e9,e10,e11⟩:=hkd.at_ (TrD.bounds d) hk
      have hkd0:n.kids.getD (kidAt key n.keys) 0=(c:Int):=by
        rw [e4,e2,← e3];simp [List.getD]
      rw [hkd0,Int.toNat_natCast]
      have hnd:=List.nodup_append.1 hid.2
      have hnd2:=List.nodup_append.1 hnd.2.1
      have hum:UseL l (fun k=>k ∈ qm):=fun k hk=>huq k (by simp [hk])
      have ih:=put_tr hkb hv d f G l c lo' hi' lm qm hc e7 hnd2.1 hum e8 (by omega)
      rcases ih with ⟨a1,a2⟩ | ⟨G1,l1',o,qm',a1,a2,a3,a4⟩
      · rw [a1]
        exact .inl ⟨rfl,by omega⟩
      · rw [a1]
        simp only
        have u4:=a3.upd
        have hd1:∀ k ∈ q1 ++ q2,¬ (k ∈ qm):=fun k hk hm=>by
          rcases List.mem_append.1 hk with hk | hk
          · exact hnd.2.2 k hk k (by simp [hm]) rfl
          · exact hnd2.2.2 k hm k hk rfl
        obtain ⟨z1,z2⟩:=u4.views hd1 (fun k hk=>huq k (by rcases List.mem_append.1 hk with hk | hk <;> simp [hk]))
        have how:=place_stays u4 hpl (fun _ hm=>hid.1 (by simp [hm]))
        obtain ⟨n',hn'⟩:∃ n',n'=joinA n (kidAt key n.keys) o:=⟨_,rfl⟩
        have hK:=e11 (TrD G1 gen d) _ _ _ _ a3.kids (fun lo hi c l p hp h=>TrD.mono (Nat.le_refl _) u4.bl u4.sz d lo hi c l p (fun i hi=>(z1 i (by rcases hp i hi with h | h <;> simp [h])).1) h)
        have hj:n' = { n with kids:=c1 ++ (outKids o ++ c2),keys:=k1 ++ (outKeys o ++ k2) }:=by
          rw [hn',joinA_eq,e1,e2,show kidAt key (k1 ++ k2)=k1.length by rw [← e1];exact e4]
          have t1:(c1 ++ (c:Int) :: c2).take k1.length=c1:=by rw [← e3];simp
          have t2:(c1 ++ (c:Int) :: c2).drop (k1.length+1)=c2:=by rw [← e3];simp
          rw [t1,t2]
          simp
        have hleaf':n'.leaf=false:=by rw [hj];exact hl
        have hents':n'.entries=n.entries:=by rw [hj]
        have hform:=form_right hr
        unfold formN at hform
        rw [if_neg (by rw [hl];simp)] at hform
        have hkeys':n'.keys=k1 ++ (outKeys o ++ k2):=by rw [hj]
        have hkids':n'.kids=c1 ++ (outKids o ++ c2):=by rw [hj]
        have hsk:sumK n'.keys≤sumK n.keys+37:=by
          rw [hkeys',e1,sumK_append,sumK_append,sumK_append]
          have:sumK (outKeys o)≤37:=by
            unfold outKeys
            split
            · rename_i h2
              have:=a3.keys o.key (by unfold outKeys;rw [if_pos h2];simp)
              have:=(keyB_iff _).1 this
              simp [sumK];omega
            · simp [sumK]
          omega
        have hwt:weightN n=6+sumK n.keys:=by unfold weightN;rw [hl,hform.1];simp [sumE]
        have hwt':weightN n'=6+sumK n'.keys:=by unfold weightN;rw [hleaf',hents',hform.1];simp [sumE]
        have hd2:∀ i ∈ qm',i ∉ q1 ++ q2∧i ≠ id:=fun i hi=>by
          refine ⟨fun hm=>(z1 i hm).2.2 hi,fun e=>?_⟩
          subst e
          exact (u4.view (i:=i) (fun hm=>hid.1 (by simp [hm])) (hu.ne0 List.mem_cons_self)).2.2 hi
        have hq':(q1 ++ (qm' ++ q2)).Nodup:=by
          refine List.nodup_append.2 ⟨hnd.1,List.nodup_append.2 ⟨a3.nodup,hnd2.2.1,fun a ha b hb e=>?_⟩,fun a ha b hb e=>?_⟩
          · subst e;exact (hd2 a ha).1 (by simp [hb])
          · subst e
            rcases List.mem_append.1 hb with hb | hb
            · exact (hd2 a hb).1 (by simp [ha])
            · exact hnd.2.2 a ha a (by simp [hb]) rfl
        have hr':rightN n'=true:=by
          have e:n'=⟨false,[],n'.keys,n'.kids⟩:=by rw [hj];simp [hl,hform.1]
          rw [e,hkeys',hkids']
          refine hK.right hq' (fun s hs=>?_) ?_ a3.ctx.b256
          · rcases List.mem_append.1 hs with hs | hs
            · exact rightN_keyB hr s (by rw [e1];simp [hs])
            · rcases List.mem_append.1 hs with hs | hs
              · exact a3.keys s hs
              · exact rightN_keyB hr s (by rw [e1];simp [hs])
          · have h2:2≤n.kids.length:=(rightN_sz hr).2.2 hl
            rw [e2] at h2
            have:1≤(outKids o).length:=by unfold outKids;split <;> simp
            simp at h2 ⊢;omega
        have hu':UseL l1' (fun k=>k ∈ q1 ++ (qm' ++ q2)):=fun k hk=>by
          rcases List.mem_append.1 hk with hk | hk
          · exact z2 k (by simp [hk])
          · rcases List.mem_append.1 hk with hk | hk
            · exact a3.use k hk
            · exact z2 k (by simp [hk])
        have hoq':id ≠ 0→id ∉ q1 ++ (qm' ++ q2):=fun hz hm=>by
          rcases List.mem_append.1 hm with hm | hm
          · exact hid.1 (by simp [hm])
          · rcases List.mem_append.1 hm with hm | hm
            · exact (hd2 id hm).2 rfl
            · exact hid.1 (by simp [hm])
        have h2':∀ k ∈ q1 ++ (qm' ++ q2),2≤k:=fun k hk=>(hK.ltq (TrD.ltq d) k hk).1
        have hcs:=settle_tr (gen:=gen) a3.ctx how hr' (by rw [u4.sz,hwt'];have:=hp.fit;omega) (.inr ⟨hleaf',by rw [hkeys',hkids'];exact hK⟩) hq' hu' hoq' h2'
        rw [← hn']
        have hphi:=u4.phi hum hnd2.1 a3.nodup
        have hlenq:(q1 ++ (qm' ++ q2)).length≤(q1 ++ (qm ++ q2)).length+ndV G.size v+d:=by simp only [List.length_append];omega
        rcases hcs with ⟨s1,s2⟩ | ⟨G2,ll2,o2,pgs2,s1,s2,s3,s4,s5⟩
        · rw [s1]
          exact .inl ⟨rfl,by omega⟩
        · rw [s1]
          simp only
          have hB:∀ k,(k=id∨k ∈ q1 ++ q2)→¬ (k ∈ qm)∧l[k]? ≠ some 0:=fun k hk=>by
            rcases hk with rfl | hk
            · exact ⟨fun hm=>hid.1 (by simp [hm]),hu.ne0 List.mem_cons_self⟩
            · exact ⟨hd1 k hk,huq.ne0 (by rcases List.mem_append.1 hk with hk | hk <;> simp [hk])⟩
          have u5:=(u4.frame hB).iff (A':=fun k=>k ∈ id :: (q1 ++ (qm ++ q2))) (A1':=fun k=>(k=id∧id ≠ 0)∨k ∈ q1 ++ (qm' ++ q2)) (fun k=>by simp only [List.mem_append,List.mem_cons];grind) (fun k=>by simp only [List.mem_append];grind)
          have s6:=s3.pre u5 hu
          have hwp:withP key v true (l1 ++ (lm ++ l2))=l1 ++ (withP key v true lm ++ l2):=by rw [withP_low _ e9,withP_high e10]
          rw [hwp]
          refine .inr ⟨G2,ll2,{ o2 with news:=o.news },pgs2,rfl,?_,⟨s6.upd,s6.nodup,s6.two,s6.kids,s6.keys,s6.ctx,s6.use⟩,by rw [List.length_cons];omega⟩
          show o.news=_
          rw [a2,findP_mid e9 e10]
end
def chS (sz:Nat) (l:List PairS):Nat:=(l.map fun x=>ndV sz x.2).sum
theorem chS_append (sz:Nat) (a b:List PairS):chS sz (a ++ b)=chS sz a+chS sz b:=by unfold chS;simp
theorem chS_cons (sz:Nat) (x:PairS) (b:List PairS):chS sz (x :: b)=ndV sz x.2+chS sz b:=by unfold chS;simp
section
variable {G G':GA} {gen:Nat} {T:TreeT} {lo:ByteArray} {hi:Option ByteArray} {l:List PairS} {q:List Nat} {kk:List ByteArray} {cc:List Int}
theorem Ents.count {es:List EntryA} (h:Ents G gen es l q) (hr:∀ e ∈ es,rightE e=true):q.length=chS G.size l:=by
  induction h with
  | nil=>rfl
  | @cons e x ids es l q h1 h2 _ ih =>
    rw [List.length_append,chS_cons,ih (fun y hy=>hr y (List.mem_cons_of_mem _ hy))]
    congr 1
    have he:=hr e List.mem_cons_self
    unfold rightE at he
    simp only [Bool.and_eq_true] at he
    unfold ndV
    rcases h2 with ⟨c1,c2,c3⟩ | ⟨c1,c2⟩
    · have h4:=he.2
      rw [if_pos c1] at h4
      simp only [Bool.and_eq_true,decide_eq_true_eq] at h4
      rw [c2] at h4
      rw [if_pos h4.2,c3];rfl
    · rw [if_neg (by have:=c2.lo;omega)]
      exact c2.len
theorem Kids.count {P:List PairS→List Nat→Prop} (hT:∀ lo hi c l q,T lo hi c l q→P l q) (h:Kids T lo hi kk cc l q) {sz a:Nat} (hP:∀ l q,P l q→q.length+1≤2 * l.length+chS sz l∧a≤l.length∧a+a≤q.length+1∧chS sz l+1≤q.length):q.length+kk.length+1≤2 * l.length+chS sz l∧(kk.length+1) * a≤l.length∧(kk.length+1) * (a+a)≤q.length+kk.length+1∧chS sz l+kk.length+1≤q.length:=by
  induction h with
  | one h=>have:=hP _ _ (hT _ _ _ _ _ h);simpa using this
  | cons h _ _ ih =>
    have h1:=hP _ _ (hT _ _ _ _ _ h)
    have h2:=ih
    simp only [List.length_append,List.length_cons,chS_append]
    have m1:∀ k:Nat,(k+1+1) * a=(k+1) * a+a:=fun k=>Nat.succ_mul _ _
    have m2:∀ k:Nat,(k+1+1) * (a+a)=(k+1) * (a+a)+(a+a):=fun k=>Nat.succ_mul _ _
    rw [m1,m2]
    omega
theorem Kids.pos (h:Kids (TrD G gen 0) lo hi kk cc l q):False:=by
  cases h with
  | one h=>exact h
  | cons h _ _=>exact h
theorem TrD.count:∀ (d:Nat) (lo:ByteArray) (hi:Option ByteArray) (id:Nat) (l:List PairS) (q:List Nat),TrD G gen d lo hi id l q→q.length+1≤2 * l.length+chS G.size l∧2 ^ (d - 1)≤l.length∧2 ^ (d - 1)+2 ^ (d - 1)≤q.length+1∧chS G.size l+1≤q.length
  | 0,_,_,_,_,_,h=>h.elim
  | d+1,lo,hi,id,l,q,h=>by
    obtain ⟨n,q,hp,hr,rfl,h⟩:=h
    rcases h with ⟨hl,rfl,hne,he,_⟩ | ⟨hl,hk⟩
    · have hc:=he.count (rightN_ents hr)
      have:1≤l.length:=List.length_pos_iff.2 hne
      simp only [List.length_cons]
      refine ⟨by omega,by simpa using this,by simp,by omega⟩
    · have hlen:=hk.len
      have h2:=(rightN_sz hr).2.2 hl
      have h3:=hk.count (P:=fun l q=>q.length+1≤2 * l.length+chS G.size l∧2 ^ (d - 1)≤l.length∧2 ^ (d - 1)+2 ^ (d - 1)≤q.length+1∧chS G.size l+1≤q.length) (fun lo hi c l q h=>TrD.count d lo hi c l q h) (sz:=G.size) (a:=2 ^ (d - 1)) (fun _ _ h=>h)
      have hd:1≤d:=by
        rcases Nat.eq_zero_or_pos d with h0 | h0
        · subst h0;exact hk.pos.elim
        · exact h0
      obtain ⟨k,hkk⟩:∃ k,n.keys.length=k+1:=⟨n.keys.length - 1,by omega⟩
      rw [hkk] at h3
      have e:2 ^ (d+1 - 1)=2 ^ (d - 1)+2 ^ (d - 1):=by
        rw [show d+1 - 1=(d - 1)+1 by omega,Nat.pow_succ];omega
      rw [e]
      generalize 2 ^ (d - 1)=a at *
      have m1:(k+1+1) * a=k * a+a+a:=by rw [Nat.succ_mul,Nat.succ_mul]
      have m2:(k+1+1) * (a+a)=k * (a+a)+(a+a)+(a+a):=by rw [Nat.succ_mul,Nat.succ_mul]
      rw [m1,m2] at h3
      have m3:k≤k * (a+a)∨a=0:=by
        rcases Nat.eq_zero_or_pos a with h | h
        · exact .inr h
        · exact .inl (Nat.le_mul_of_pos_right k (by omega))
      simp only [List.length_cons]
      refine ⟨by omega,by omega,?_,by omega⟩
      omega
theorem Kids.sorted (hb:∀ lo hi c l q,T lo hi c l q→∀ x ∈ l,inB lo hi x.1) (hT:∀ lo hi c l q,T lo hi c l q→SortedP l) (h:Kids T lo hi kk cc l q):SortedP l:=by
  induction h with
  | one h=>exact hT _ _ _ _ _ h
  | @cons lo hi s c keys kids l1 l2 q1 q2 h h2 h3 ih =>
    refine List.pairwise_append.2 ⟨hT _ _ _ _ _ h,ih,fun x hx y hy=>?_⟩
    exact lt_of_lt_not ((hb _ _ _ _ _ h x hx).2 s rfl) (h3.bounds hb y hy).1
theorem TrD.sorted:∀ (d:Nat) (lo:ByteArray) (hi:Option ByteArray) (id:Nat) (l:List PairS) (q:List Nat),TrD G gen d lo hi id l q→SortedP l
  | 0,_,_,_,_,_,h=>h.elim
  | d+1,lo,hi,id,l,q,h=>by
    obtain ⟨n,q,hp,hr,rfl,h⟩:=h
    rcases h with ⟨hl,rfl,hne,he,_⟩ | ⟨hl,hk⟩
    · have:=rightN_leaf hr hl
      rw [he.keys] at this
      exact List.pairwise_map.1 this
    · exact hk.sorted (TrD.bounds d) (TrD.sorted d)
def PairOk (x:PairS):Prop:=keyB x.1=true∧x.2.size≤4096
theorem Ents.ok {es:List EntryA} (h:Ents G gen es l q) (hr:∀ e ∈ es,rightE e=true):∀ x ∈ l,PairOk x:=by
  induction h with
  | nil=>intro x hx;simp at hx
  | @cons e x ids es l q h1 h2 _ ih =>
    intro y hy
    rcases List.mem_cons.1 hy with rfl | hy
    · have he:=hr e List.mem_cons_self
      unfold rightE at he
      simp only [Bool.and_eq_true] at he
      refine ⟨by rw [← h1];exact he.1,?_⟩
      rcases h2 with ⟨c1,c2,c3⟩ | ⟨c1,c2⟩
      · have h4:=he.2
        rw [if_pos c1] at h4
        simp only [Bool.and_eq_true,decide_eq_true_eq] at h4
        rw [← c2];omega
      · exact c2.hi
    · exact ih (fun z hz=>hr z (List.mem_cons_of_mem _ hz)) y hy
theorem Kids.ok (hT:∀ lo hi c l q,T lo hi c l q→∀ x ∈ l,PairOk x) (h:Kids T lo hi kk cc l q):∀ x ∈ l,PairOk x:=by
  induction h with
  | one h=>exact hT _ _ _ _ _ h
  | cons h _ _ ih =>
    intro x hx
    rcases List.mem_append.1 hx with hx | hx
    · exact hT _ _ _ _ _ h x hx
    · exact ih x hx
theorem TrD.ok:∀ (d:Nat) (lo:ByteArray) (hi:Option ByteArray) (id:Nat) (l:List PairS) (q:List Nat),TrD G gen d lo hi id l q→∀ x ∈ l,PairOk x
  | 0,_,_,_,_,_,h=>h.elim
  | d+1,lo,hi,id,l,q,h=>by
    obtain ⟨n,q,hp,hr,rfl,h⟩:=h
    rcases h with ⟨hl,rfl,hne,he,_⟩ | ⟨hl,hk⟩
    · exact he.ok (rightN_ents hr)
    · exact hk.ok (TrD.ok d)
end
structure TD (G:GA) (gen root d:Nat) (ps:List PairS) (pgs:List Nat):Prop where
  tree:(root=0∧d=0∧ps=[]∧pgs=[])∨(1≤d∧TrD G gen d e0 none root ps pgs)
  nodup:pgs.Nodup
section
variable {G G':GA} {l l':List Nat} {gen root d:Nat} {ps:List PairS} {pgs:List Nat}
theorem TD.none (G:GA) (gen:Nat):TD G gen 0 0 [] []:=⟨.inl ⟨rfl,rfl,rfl,rfl⟩,List.nodup_nil⟩
theorem TD.sorted (h:TD G gen root d ps pgs):SortedP ps:=by
  rcases h.tree with ⟨_,_,rfl,_⟩ | ⟨_,h⟩
  · exact List.Pairwise.nil
  · exact TrD.sorted _ _ _ _ _ _ h
theorem TD.ok (h:TD G gen root d ps pgs):∀ x ∈ ps,PairOk x:=by
  rcases h.tree with ⟨_,_,rfl,_⟩ | ⟨_,h⟩
  · intro x hx;simp at hx
  · exact TrD.ok _ _ _ _ _ _ h
theorem TD.lt (h:TD G gen root d ps pgs):∀ i ∈ pgs,2≤i∧i < G.blocks:=by
  rcases h.tree with ⟨_,_,_,rfl⟩ | ⟨_,h⟩
  · intro x hx;simp at hx
  · exact TrD.ltq _ _ _ _ _ _ h
theorem TD.count (h:TD G gen root d ps pgs):pgs.length+(if ps=[] then 0 else 1)≤2 * ps.length+chS G.size ps∧(ps ≠ []→2 ^ (d - 1)≤ps.length)∧(if d=0 then 0 else 2 ^ (d - 1)+2 ^ (d - 1))≤pgs.length+1∧chS G.size ps+(if ps=[] then 0 else 1)≤pgs.length:=by
  rcases h.tree with ⟨_,rfl,rfl,rfl⟩ | ⟨hd,h⟩
  · simp [chS]
  · obtain ⟨h1,h2,h3,h4⟩:=TrD.count _ _ _ _ _ _ h
    have hne:=TrD.ne _ _ _ _ _ _ h
    rw [if_neg hne,if_neg (by omega)]
    exact ⟨h1,fun _=>h2,h3,h4⟩
theorem TD.few (h:TD G gen root d ps pgs) (hb:G.blocks≤256):pgs.length≤254∧d≤7:=by
  have hl:pgs.length≤254:=by
    have h1:=nodup_fewW 254 (pgs.map fun (i:Nat)=>(i:Int) - 2) (List.pairwise_map.2 (h.nodup.imp (fun hne e=>hne (by omega)))) (fun i hi=>by
      obtain ⟨j,hj,rfl⟩:=List.mem_map.1 hi
      have:=h.lt j hj
      omega)
    simpa using h1
  refine ⟨hl,?_⟩
  have h3:=h.count.2.2.1
  rcases Nat.lt_or_ge 7 d with hd | hd
  · rw [if_neg (by omega)] at h3
    have:2 ^ 7≤2 ^ (d - 1):=Nat.pow_le_pow_right (by omega) (by omega)
    omega
  · exact hd
theorem TD.mono (h:TD G gen root d ps pgs) {gen':Nat} (hg:gen≤gen') (hb:G'.blocks=G.blocks) (hs:G'.size=G.size) (hv:∀ i ∈ pgs,G'.view i=G.view i):TD G' gen' root d ps pgs :=
  ⟨h.tree.imp id (fun h=>⟨h.1,TrD.mono hg hb hs _ _ _ _ _ _ hv h.2⟩),h.nodup⟩
theorem putR_tr {key v:ByteArray} (hc:CtxG G l) (hT:TD G gen root d ps pgs) (hu:UseL l (fun k=>k ∈ pgs)) (hkb:keyB key=true) (hv:v.size≤4096) :
    (putR G l gen root key v=.inr 3∧phiL l≤(ndV G.size v:Nat)+d+1) ∨
    ∃ G' l' root' d' pgs',putR G l gen root key v=.inl (G',l',(root',(findP key ps).isNone))∧Upd G l (fun k=>k ∈ pgs) G' l' (fun k=>k ∈ pgs')∧TD G' gen root' d' (withP key v true ps) pgs'∧UseL l' (fun k=>k ∈ pgs')∧CtxG G' l'∧2≤root'∧d'≤d+1:=by
  have hchk:putCheck key v=none:=by unfold putCheck;rw [if_neg (by rw [hkb];simp),if_neg (by omega)]
  have hs:=hc.s256
  unfold putR
  rw [hchk]
  simp only
  rcases hT.tree with ⟨rfl,rfl,rfl,rfl⟩ | ⟨hd,hT2⟩
  · rw [if_pos rfl]
    rcases leafPut_tr (gen:=gen) (lo:=e0) (hi:=none) (n:=leaf0) (key:=key) (v:=v) (ps:=[]) (q:=[]) hc (.inl rfl) rfl rfl (by unfold weightN leaf0;simp [sumE,sumK];omega) .nil (fun x hx=>by simp at hx) (inB_all key) hkb hv List.nodup_nil (fun k hk=>by simp at hk) (fun h=>absurd rfl h) with ⟨a1,a2⟩ | ⟨G2,l2,o,pgs,a1,a2,a3,a4,a5⟩
    · rw [a1]
      exact .inl ⟨rfl,by omega⟩
    · rw [a1]
      simp only
      have h2:=a5 rfl
      rw [if_pos h2]
      have hk:=a3.kids
      unfold outKeys outKids at hk
      rw [if_neg (by rw [h2];simp),if_neg (by rw [h2];simp)] at hk
      generalize hkk:[(o.id0:Int)]=kk at hk
      cases hk with
      | @one _ _ c _ _ hT3 =>
        simp only [List.cons.injEq,and_true] at hkk
        have hcc:c=o.id0:=by omega
        subst hcc
        refine .inr ⟨G2,l2,o.id0,1,pgs,by rw [a2],a3.upd.iff (fun k=>by simp) (fun _=>Iff.rfl),⟨.inr ⟨Nat.le_refl _,hT3⟩,a3.nodup⟩,a3.use,a3.ctx,?_,by omega⟩
        obtain ⟨r,hr⟩:=TrD.head _ _ _ _ _ _ hT3
        exact a3.two _ (by rw [hr];simp)
  · have hd7:=(hT.few hc.b256).2
    have hroot:root ≠ 0:=by
      obtain ⟨r,hr⟩:=TrD.head _ _ _ _ _ _ hT2
      have:=hT.lt root (by rw [hr];simp)
      omega
    rw [if_neg hroot]
    rcases put_tr (gen:=gen) hkb hv d 16 G l root e0 none ps pgs hc hT2 hT.nodup hu (inB_all key) (by omega) with ⟨a1,a2⟩ | ⟨G2,l2,o,pgs',a1,a2,a3,a4⟩
    · rw [a1]
      exact .inl ⟨rfl,by omega⟩
    · rw [a1]
      simp only
      have hk:=a3.kids
      by_cases h2:o.two=false
      · rw [if_pos h2]
        unfold outKeys outKids at hk
        rw [if_neg (by rw [h2];simp),if_neg (by rw [h2];simp)] at hk
        generalize hkk:[(o.id0:Int)]=kk at hk
        cases hk with
        | @one _ _ c _ _ hT3 =>
          simp only [List.cons.injEq,and_true] at hkk
          have hcc:c=o.id0:=by omega
          subst hcc
          refine .inr ⟨G2,l2,o.id0,d,pgs',by rw [a2],a3.upd,⟨.inr ⟨hd,hT3⟩,a3.nodup⟩,a3.use,a3.ctx,?_,by omega⟩
          obtain ⟨r,hr⟩:=TrD.head _ _ _ _ _ _ hT3
          exact a3.two _ (by rw [hr];simp)
      · have h2t:o.two=true:=by simpa using h2
        rw [if_neg h2]
        have hkey:=a3.keys o.key (by unfold outKeys;rw [if_pos h2t];simp)
        unfold outKeys outKids at hk
        rw [if_pos h2t,if_pos h2t] at hk
        have hr:rightN (rootA o)=true:=hk.right a3.nodup (fun s hs=>by rw [List.mem_singleton.1 hs];exact hkey) (by simp) a3.ctx.b256
        have hksz:=(keyB_iff o.key).1 hkey
        have hw:weightN (rootA o)≤(G2.size:Int) - 24:=by
          unfold weightN rootA
          have:=a3.ctx.s256
          simp [sumE,sumK]
          omega
        cases hdn:downI G2 l2 0 (rootA o) with
        | none =>
          simp only
          refine .inl ⟨by unfold downK;rw [if_pos ⟨hr,hw⟩],?_⟩
          have h3:=downI_none hdn ⟨hr,hw⟩ (.inl rfl)
          have h4:=a3.upd.phi hu hT.nodup a3.nodup
          omega
        | some i =>
          simp only
          obtain ⟨b1,b2,b3,b4,b5,b6,_⟩:=down_tr (gen:=gen) (lo:=e0) (hi:=none) (d:=d) a3.ctx (.inl rfl) hdn hr (.inr ⟨rfl,hk⟩) a3.nodup a3.use (fun h=>absurd rfl h) a3.two
          refine .inr ⟨_,_,i,d+1,i :: pgs',by rw [a2],?_,⟨.inr ⟨by omega,b2⟩,b3⟩,fun k hk=>b6 k (List.mem_cons.1 hk),b5,b4,by omega⟩
          have b7:=b1.iff (A':=fun k=>k ∈ pgs') (A1':=fun k=>k ∈ i :: pgs') (fun k=>by simp) (fun k=>by rw [List.mem_cons])
          exact a3.upd.trans b7 hu
end
end Go.Proofs.YtphafjmdhmpkbaaGreatDoor
namespace Go.Proofs.YtphafjmdhmpkbaaGreatDoor
open Go.RowKit
attribute [local go_sem ↓] Go.wp_at_zero Go.wp_at_succ
def NodeO (w:World) (base:Nat) (v:Value) (n:NodeA):Prop :=
  ∃ ve vk vi,v=.agg #[.bool n.leaf,ve,vk,vi]∧Own (fun _=>False) w base 107 4 encE ve n.entries∧Own (fun _=>False) w base 9 1 encS vk n.keys∧Own (fun _=>False) w base 3 1 encI vi n.kids
theorem Own.slF {α:Type} {F:Nat→Prop} {w:World} {base:Nat} {e:TypeId} {sz:Nat} {enc:α→List Value} {v:Value} {l:List α} (h:Own (fun _=>False) w base e sz enc v l) (hF:∀ k,F k→k < base) (henc:∀ x,(enc x).length=sz) (hl:l.length≤140737488355328):Sl F w sz enc v l :=
  (h.blocks (G:=F) (fun g hg hf=>by have:=(h.lt g hg).1;have:=hF g hf;omega)).sl henc hl
section
variable {F:Nat→Prop} {w w':World} {base:Nat} {v:Value} {n:NodeA}
end
def ApartR (w:World) (x:NodeA × ByteArray × NodeA) (e:Ending) (w':World):Prop :=
  ∃ va vb,e=.returned (.tuple #[va,.string x.2.1,vb])∧NodeO w' w.heap.size va x.1∧NodeO w' w.heap.size vb x.2.2∧Ext w w'
theorem Own.some' {α:Type} {F:Nat→Prop} {w:World} {base:Nat} {e:TypeId} {sz:Nat} {enc:α→List Value} {a:Option Addr} {n c:Nat} {l:List α} (h:Own F w base e sz enc (.slice a n c) l) (hl:l ≠ []):∃ g,a=some ⟨g,0,none⟩:=by
  rcases h.1.2 with ⟨_,h0⟩ | ⟨g,cap,cur,h0,_⟩
  · exact absurd (List.eq_nil_of_length_eq_zero h0) hl
  · injection h0 with h0 _ _
    exact ⟨g,h0⟩
section
variable {F:Nat→Prop} {w w':World}
theorem Tryz.nodeSz:(Tryz.prog.info? 26).map (·.size)=some 4:=by kernel_rfl
abbrev nodeZc:Array Value:=#[.bool false,.slice none 0 0,.slice none 0 0,.slice none 0 0]
set_option maxRecDepth 100000 in
set_option maxHeartbeats 1000000 in
theorem apartL_any (n:NodeA) (hlf:n.leaf=true) (ve vk vi:Value) (hve:Sl F w 4 encE ve n.entries) (a:Nat) (ha:1≤a∧a < n.entries.length) (hb:n.entries.length≤100000) :
    Calls Tryz.prog 60 #[.agg #[.bool true,ve,vk,vi],.int .i64 (a:Int)] w (ApartR w (apartA n a)):=by
  have m0:Ext w (((w.alloc (.cells #[.bool true,ve,vk,vi] 26)).alloc (.cells nodeZc 26)).alloc (.cells nodeZc 26)):=(((Mods.refl _ w).alloc _).alloc _).alloc _
  have HB0:=Lib.hid (((Blk.new w #[.bool true,ve,vk,vi] 26).alloc (.cells nodeZc 26)).alloc (.cells nodeZc 26))
  have HR1:Hid (Blk (((w.alloc (.cells #[.bool true,ve,vk,vi] 26)).alloc (.cells nodeZc 26)).alloc (.cells nodeZc 26)) (w.heap.size+1) nodeZc 26):=Lib.hid ((show Blk ((w.alloc (.cells #[.bool true,ve,vk,vi] 26)).alloc (.cells nodeZc 26)) (w.heap.size+1) nodeZc 26 from heap_at (by simp)).alloc _)
  have HR2:Hid (Blk (((w.alloc (.cells #[.bool true,ve,vk,vi] 26)).alloc (.cells nodeZc 26)).alloc (.cells nodeZc 26)) (w.heap.size+1+1) nodeZc 26):=Lib.hid (heap_at (by simp))
  have HM0:=Lib.hid m0
  have HE:=Lib.hid (hve.ext m0)
  obtain ⟨ae,ce,rfl,he1,he2,he3,_⟩:=hve
  unfold maxLen at he2
  obtain ⟨x0,hx0⟩:∃ x0,n.entries[a]? = some x0:=⟨_,List.getElem?_eq_getElem ha.2⟩
  have HAP:Hid (apartA n a=(⟨true,n.entries.take a,[],[]⟩,x0.key,⟨true,n.entries.drop a,[],[]⟩)):=Lib.hid (by unfold apartA;rw [if_pos hlf,hx0])
  have HX0:=Lib.hid hx0
  have hk1:(n.entries.take a).length=a:=by rw [List.length_take];omega
  have hk2:(n.entries.drop a).length=n.entries.length - a:=List.length_drop
  have HK1:=Lib.hid hk1
  have HK2:=Lib.hid hk2
  have hi:(a:Int)≤(n.entries.length:Int):=by omega
  clear m0 hk1 hk2 hlf hx0
  go_enter Tryz.func60, Tryz.ntmps60
  go_wp2_with fail
  refine (laidE_end _ (n.entries.take a) (HE.out.pre a (by omega)) a HK1.out.symm (by rw [HK1.out];omega)).mono ?_
  rintro e w1 ⟨a1,c1,rfl,hO1,hm1⟩
  have HO1:=Lib.hid hO1
  have HM1:=Lib.hid (hm1.alloc (.cells #[.bool true,.slice a1 a c1,.slice none 0 0,.slice none 0 0] 26))
  have b1:=(HB0.out.ext HM1.out).cell (o:=1) (v:=.slice ae n.entries.length ce) rfl
  have hne:¬ ce=a:=by omega
  have hz1:w.heap.size+1+1 < w1.heap.size:=by have:=hm1.size;simp at this;omega
  clear hO1 hm1
  have HP2:Hid (Sl F (w1.alloc (.cells #[.bool true,.slice a1 a c1,.slice none 0 0,.slice none 0 0] 26)) 4 encE (.slice (ae.map (·.add (a * 4))) (n.entries.length - a) (ce - a)) (n.entries.drop a)):=Lib.hid (by
    have:=(HE.out.ext HM1.out).tail_ a (by omega)
    rw [if_neg hne] at this
    exact this)
  go_wp2_with fail
  refine (laidE_beg _ (n.entries.drop a) HP2.out (n.entries.length - a) HK2.out.symm (by rw [HK2.out];omega)).mono ?_
  rintro e w2 ⟨a2,c2,rfl,hO2,hm2⟩
  obtain ⟨g2,rfl⟩:=hO2.some' (fun e0=>by have:=HK2.out;rw [e0] at this;simp at this;omega)
  have hk0:w2.cell? ⟨g2,0,none⟩=some (.string x0.key):=by
    obtain ⟨a',c',e1,_,_,_,e5⟩:=hO2.sl encE_ok.len (by rw [HK2.out];omega)
    injection e1 with e1 _ _
    subst e1
    obtain ⟨b,off,ha,_,hF,hc⟩:=Sl.at e5 (Mods.refl _ w2) (fun _ _ h=>h) 0 (by rw [HK2.out];omega)
    injection ha with ha
    injection ha with ha1 ha2
    subst ha1 ha2
    have:=hc 0 (.string x0.key) (by
      have hx:(n.entries.drop a)[0]? = some x0:=by rw [List.getElem?_drop];exact HX0.out
      have hx2:=(List.getElem?_eq_some_iff.1 hx).2
      rw [hx2];rfl)
    simpa using this
  have hgl:=(hO2.lt g2 rfl).1
  have hg1:g2 ≠ w.heap.size+1:=by simp at hgl;omega
  have hg2:g2 ≠ w.heap.size+1+1:=by simp at hgl;omega
  have hg3:=hg1.symm
  have hg4:=hg2.symm
  clear hgl
  have HO2:=Lib.hid hO2
  have HX:Hid (Blk (w1.alloc (.cells #[.bool true,.slice a1 a c1,.slice none 0 0,.slice none 0 0] 26)) w1.heap.size #[.bool true,.slice a1 a c1,.slice none 0 0,.slice none 0 0] 26):=Lib.hid (Blk.new _ _ _)
  have HM2:=Lib.hid (hm2.alloc (.cells #[.bool true,.slice (some ⟨g2,0,none⟩) (n.entries.length - a) c2,.slice none 0 0,.slice none 0 0] 26))
  have HMM:=Lib.hid (HM0.out.trans (HM1.out.trans HM2.out))
  have HXA:=Lib.hid (HX.out.ext HM2.out)
  have HXB:=Lib.hid (Blk.new w2 #[.bool true,.slice (some ⟨g2,0,none⟩) (n.entries.length - a) c2,.slice none 0 0,.slice none 0 0] 26)
  have hR1:=(HR1.out.ext (HM1.out.trans HM2.out))
  have hR2:=(HR2.out.ext (HM1.out.trans HM2.out))
  have hk0:=cell_alloc hk0 (.cells #[.bool true,.slice (some ⟨g2,0,none⟩) (n.entries.length - a) c2,.slice none 0 0,.slice none 0 0] 26)
  have p0:=HXA.out.cell (o:=0) rfl
  have p1:=HXA.out.cell (o:=1) rfl
  have p2:=HXA.out.cell (o:=2) rfl
  have p3:=HXA.out.cell (o:=3) rfl
  have q0:=HXB.out.cell (o:=0) rfl
  have q1:=HXB.out.cell (o:=1) rfl
  have q2:=HXB.out.cell (o:=2) rfl
  have q3:=HXB.out.cell (o:=3) rfl
  have r0:=hR1.cell (o:=0) rfl
  have r1:=hR1.cell (o:=1) rfl
  have r2:=hR1.cell (o:=2) rfl
  have r3:=hR1.cell (o:=3) rfl
  have rf:=hR1.frozen
  have s0:=hR2.cell (o:=0) rfl
  have s1:=hR2.cell (o:=1) rfl
  have s2:=hR2.cell (o:=2) rfl
  have s3:=hR2.cell (o:=3) rfl
  have sf:=hR2.frozen
  have hl2:w1.heap.size < w2.heap.size:=by have:=hm2.size;simp at this;omega
  have hl3:(0:Int) < ((n.entries.length - a:Nat):Int):=by omega
  have HRA:=Lib.hid hR1
  have HRB:=Lib.hid hR2
  clear hO2 hm2 hR1 hR2
  go_wp2_with fail
  go_region
  go_wp2_with fail
  obtain ⟨X0,hX0⟩:∃ X0,X0=w2.alloc (.cells #[.bool true,.slice (some ⟨g2,0,none⟩) (n.entries.length - a) c2,.slice none 0 0,.slice none 0 0] 26):=⟨_,rfl⟩
  rw [← hX0] at HRA HRB HMM
  have mA:=Mods.set4 (F:=fun k=>k=w.heap.size+1) (Mods.refl _ X0) (R:=w.heap.size+1) (.inr rfl) (.bool true) (.slice a1 a c1) (.slice none 0 0) (.slice none 0 0)
  have hA:=HRA.out.set4 (.bool true) (.slice a1 a c1) (.slice none 0 0) (.slice none 0 0)
  have hB0:=HRB.out.mods mA (by omega)
  have hB:=hB0.set4 (.bool true) (.slice (some ⟨g2,0,none⟩) (n.entries.length - a) c2) (.slice none 0 0) (.slice none 0 0)
  have mB:=Mods.set4 (F:=fun k=>k=w.heap.size+1+1) (Mods.refl _ ((((X0.setCell ⟨w.heap.size+1,0,none⟩ (.bool true)).setCell ⟨w.heap.size+1,1,none⟩ (.slice a1 a c1)).setCell ⟨w.heap.size+1,2,none⟩ (.slice none 0 0)).setCell ⟨w.heap.size+1,3,none⟩ (.slice none 0 0))) (R:=w.heap.size+1+1) (.inr rfl) (.bool true) (.slice (some ⟨g2,0,none⟩) (n.entries.length - a) c2) (.slice none 0 0) (.slice none 0 0)
  have hA2:=hA.mods mB (by omega)
  have hx:=(Mods.set4 (Mods.set4 HMM.out (R:=w.heap.size+1) (.inl (by omega)) (.bool true) (.slice a1 a c1) (.slice none 0 0) (.slice none 0 0)) (R:=w.heap.size+1+1) (.inl (by omega)) (.bool true) (.slice (some ⟨g2,0,none⟩) (n.entries.length - a) c2) (.slice none 0 0) (.slice none 0 0)).drew
  have o1:=(((HO1.out.ext ((Mods.refl _ w1).alloc (.cells #[.bool true,.slice a1 a c1,.slice none 0 0,.slice none 0 0] 26))).ext HM2.out))
  have o2:=HO2.out.ext ((Mods.refl _ w2).alloc (.cells #[.bool true,.slice (some ⟨g2,0,none⟩) (n.entries.length - a) c2,.slice none 0 0,.slice none 0 0] 26))
  rw [← hX0] at o1 o2
  have hb1:=fun g hg=>(o1.lt g hg).1
  have hb2:=fun g hg=>(o2.lt g hg).1
  have o1':=((o1.mods mA (fun g hg=>by have:=hb1 g hg;simp at this;omega)).mods mB (fun g hg=>by have:=hb1 g hg;simp at this;omega)).rebase (base':=w.heap.size) (by simp;omega)
  have o2':=((o2.mods mA (fun g hg=>by have:=hb2 g hg;simp at this;omega)).mods mB (fun g hg=>by have:=hb2 g hg;simp at this;omega)).rebase (base':=w.heap.size) (by simp;omega)
  subst hX0
  refine bodyPost_ret (results_row_tmp_row rfl _ _ (w.heap.size+1) (w.heap.size+1+1) 26 26 _ _ _ rfl hA2.drew rfl hB.drew rfl Tryz.underlying26 rfl Tryz.nodeSz rfl) rfl ?_
  unfold ApartR
  rw [HAP.out]
  exact ⟨_,_,rfl,⟨_,_,_,rfl,o1'.ext (Mods.refl _ _).drew,Own.nil _ _ _ _ _ _,Own.nil _ _ _ _ _ _⟩,⟨_,_,_,rfl,o2'.ext (Mods.refl _ _).drew,Own.nil _ _ _ _ _ _,Own.nil _ _ _ _ _ _⟩,hx⟩
end
end Go.Proofs.YtphafjmdhmpkbaaGreatDoor
