/- How many keys a walk has seen. Plain. | ref07.Key at a known answer. | ref01.SameTexts; ref07.Same of nodes that are alike. -/
import Derived.Test.YtphafjmdhmpkbaaGreatDoorK24
import Derived.Test.YtphafjmdhmpkbaaGreatDoorK22
import Derived.Test.YtphafjmdhmpkbaaGreatDoorK19
import Derived.Test.YtphafjmdhmpkbaaGreatDoorK02
import Derived.BigQuiet
namespace Go.Proofs.YtphafjmdhmpkbaaGreatDoor
open Go.RowKit
variable {G:GA} {gen:Nat}
def WkInvK (G:GA) (st:WkS):Prop:=WkInv G st∧st.keys.length≤1000 * st.pages.length
def Short (G:GA):Prop:=∀ id p,G.get id=.inl p→p.body.length≤1000
theorem bytesE_pos (e:EntryA):1≤(bytesE e).length:=by
  unfold bytesE bytesT
  simp only [List.length_append,leB_length]
  omega
theorem flat_ge {α:Type} {f:α→List UInt8}:∀ (l:List α),(∀ x,1≤(f x).length)→l.length≤(l.flatMap f).length
  | [],_=>by simp
  | x :: l,h=>by
    have:=flat_ge l h
    have:=h x
    rw [List.flatMap_cons,List.length_append,List.length_cons];omega
theorem decode_few {p:PageA} {n:NodeA} (h:decodeA p=.inl n) (hp:p.body.length≤1000):n.entries.length≤1000:=by
  have hr:=decodeA_right h
  unfold decodeA at h
  split at h
  · split at h
    · rename_i m hm
      injection h with h;subst h
      obtain ⟨h1,h2,h3⟩:=(getN_iff _ _ _).1 hm
      cases hl:m.leaf with
      | true =>
        unfold bytesN at h3
        rw [if_pos hl] at h3
        have:=flat_ge m.entries bytesE_pos
        have:=congrArg List.length h3
        rw [List.length_append] at this
        omega
      | false =>
        have:m.entries=[]:=by
          unfold rightN at h1
          rw [if_neg (by rw [hl];simp)] at h1
          simp only [Bool.and_eq_true,List.isEmpty_iff] at h1
          exact h1.1.1.1.1.1.1.1
        rw [this];simp
    · cases h
  · cases h
theorem idsW_len:∀ (ids:List Int) (st st1:WkS),idsW G gen ids st=.inl st1→st1.keys=st.keys∧st.pages.length≤st1.pages.length
  | [],st,st1,h=>by rw [idsW] at h;injection h with h;subst h;exact ⟨rfl,Nat.le_refl _⟩
  | id :: r,st,st1,h=>by
    rw [idsW] at h
    split at h
    · cases h
    · rename_i s1 hs
      split at h
      · cases h
      · obtain ⟨k1,k2⟩:=idsW_len r s1 st1 h
        obtain ⟨_,rfl⟩:=seeW_in hs
        refine ⟨k1,?_⟩
        simp only [List.length_append] at k2
        omega
theorem chainedW_inv {e:EntryA} {st st1:WkS} (hi:WkInv G st) (h:chainedW G gen e st=.inl st1):WkInv G st1∧st1.keys=st.keys∧st.pages.length≤st1.pages.length:=by
  unfold chainedW at h
  split at h
  · injection h with h;subst h;exact ⟨hi,rfl,Nat.le_refl _⟩
  · split at h
    · cases h
    · exact ⟨idsW_inv _ _ _ hi h,idsW_len _ _ _ h⟩
theorem entsW_inv {a:Place}:∀ (es:List EntryA) (st st1:WkS),WkInv G st→entsW G gen a es st=.inl st1→WkInv G st1∧st1.keys.length=st.keys.length+es.length∧st.pages.length≤st1.pages.length
  | [],st,st1,hi,h=>by rw [entsW] at h;injection h with h;subst h;exact ⟨hi,rfl,Nat.le_refl _⟩
  | e :: r,st,st1,hi,h=>by
    rw [entsW] at h
    split at h
    · cases h
    · split at h
      · cases h
      · rename_i s1 hs
        obtain ⟨k1,k2,k3⟩:=chainedW_inv (st:={ st with keys:=st.keys ++ [e.key] }) hi hs
        obtain ⟨j1,j2,j3⟩:=entsW_inv r s1 st1 k1 h
        refine ⟨j1,?_,Nat.le_trans k3 j3⟩
        rw [j2,k2]
        simp only [List.length_append,List.length_cons,List.length_nil]
        omega
theorem seeK {st st1:WkS} {id:Int} {p:PageA} (hi:WkInvK G st) (h1:seeW st id=.inl st1) (h2:youngW G gen id=.inl p):WkInv G st1∧st1.keys.length+1000≤1000 * st1.pages.length:=by
  refine ⟨hi.1.see h1 h2,?_⟩
  obtain ⟨_,rfl⟩:=seeW_in h1
  have:=hi.2
  simp only [List.length_append,List.length_cons,List.length_nil]
  omega
theorem WkInvK.ofSee {st:WkS} (h:WkInv G st∧st.keys.length+1000≤1000 * st.pages.length):WkInvK G st:=⟨h.1,by omega⟩
theorem leafW_inv {n:NodeA} {a:Place} {st st1:WkS} (hi:WkInv G st∧st.keys.length+1000≤1000 * st.pages.length) (hn:n.entries.length≤1000) (h:leafW G gen n a st=.inl st1):WkInvK G st1:=by
  have hd:WkInv G (atDepth a st)∧(atDepth a st).keys=st.keys∧(atDepth a st).pages=st.pages:=by
    unfold atDepth
    split
    · exact ⟨hi.1,rfl,rfl⟩
    · exact ⟨hi.1,rfl,rfl⟩
  unfold leafW at h
  split at h
  · cases h
  · obtain ⟨k1,k2,k3⟩:=entsW_inv _ _ _ hd.1 h
    rw [hd.2.1] at k2
    rw [hd.2.2] at k3
    exact ⟨k1,by omega⟩
theorem kidsW_inv {rec_:Place→WkS→WkS ⊕ Err} {n:NodeA} {a:Place} (hrec:∀ b st st1,WkInvK G st→rec_ b st=.inl st1→WkInvK G st1):∀ (kids:List Int) (i:Nat) (st st1:WkS),WkInvK G st→kidsW rec_ n a kids i st=.inl st1→WkInvK G st1
  | [],i,st,st1,hi,h=>by rw [kidsW] at h;injection h with h;subst h;exact hi
  | k :: r,i,st,st1,hi,h=>by
    rw [kidsW] at h
    split at h
    · cases h
    · split at h
      · cases h
      · rename_i s1 hs
        exact kidsW_inv hrec r (i+1) s1 st1 (hrec _ _ _ hi hs) h
theorem nodeW_inv (hG:Short G):∀ (f:Nat) (a:Place) (st st1:WkS),WkInvK G st→nodeW G gen f a st=.inl st1→WkInvK G st1
  | 0,a,st,st1,hi,h=>by rw [nodeW] at h;cases h
  | f+1,a,st,st1,hi,h=>by
    rw [nodeW] at h
    split at h
    · cases h
    · rename_i s1 hs
      split at h
      · cases h
      · rename_i p hp
        have hk:=seeK hi hs hp
        have hb:p.body.length≤1000:=by
          refine hG a.id p ?_
          unfold youngW at hp
          split at hp
          · cases hp
          · rename_i q hq
            split at hp
            · cases hp
            · injection hp with hp;subst hp;exact hq
        split at h
        · cases h
        · rename_i n hn
          split at h
          · exact leafW_inv hk (decode_few hn hb) h
          · exact kidsW_inv (nodeW_inv hG f) _ _ _ _ (WkInvK.ofSee hk) h
theorem key07_t (s:ByteArray) (w:World) (b:Bool) (h:keyB s=b) : Calls Tryz.prog 27 #[.string s] w fun e w'=>e=.returned (.bool b)∧w=w':=by
  have:=key07_any s w;rw [h] at this;exact this
end Go.Proofs.YtphafjmdhmpkbaaGreatDoor
namespace Go.Proofs.YtphafjmdhmpkbaaGreatDoor
open Go.RowKit
attribute [local go_sem ↓] Go.wp_at_zero Go.wp_at_succ
set_option maxRecDepth 100000 in
theorem SameTexts_any {F G:Nat→Prop} {w:World} (av bv:Value) (l m:List ByteArray) (ha:Sl F w 1 encS av l) (hb:Sl G w 1 encS bv m) :
    Calls Tryz.prog 42 #[av,bv] w fun e w'=>e=.returned (.bool (decide (l=m)))∧Ext w w':=by
  obtain ⟨a,cap,rfl,h1,h2,h3,h4⟩:=ha
  obtain ⟨b,cap2,rfl,i1,i2,i3,i4⟩:=hb
  unfold maxLen at h2 i2
  have H4:=Lib.hid h4
  have I4:=Lib.hid i4
  clear h4 i4
  by_cases hl:l.length=m.length
  · obtain ⟨n,hn⟩:∃ n,n=l.length:=⟨_,rfl⟩
    rw [← hl,← hn] at i1 i3 ⊢
    rw [← hn] at h1 h3
    have N1:Hid (n=l.length):=Lib.hid hn
    have N2:Hid (n=m.length):=Lib.hid (hn.trans hl)
    clear hn hl
    go_enter Tryz.func42, Tryz.ntmps42
    go_wp2_with fail
    go_loopg [5] n (fun q v5 wr=>∃ k:Nat,k+q=n∧v5=.int .i64 k∧Hid (l.take k=m.take k)∧Hid (Ext w wr))
    case atStart=>exact ⟨0,by omega,rfl,Lib.hid rfl,Lib.hid (Mods.refl _ _)⟩
    case round =>
      obtain ⟨k,hk,rfl,HQ,HM⟩:=hrel
      by_cases hltn:k < n
      · have hlt:k < l.length:=by have:=N1.out;omega
        have hlt2:k < m.length:=by have:=N2.out;omega
        obtain ⟨b1,off1,rfl,hb1,hF1,hc1⟩:=Sl.atE H4.out HM.out k hlt
        obtain ⟨b2,off2,rfl,hb2,hF2,hc2⟩:=Sl.atE I4.out HM.out k hlt2
        obtain ⟨x,hx⟩:∃ x,x=l[k]:=⟨_,rfl⟩
        obtain ⟨y,hy⟩:∃ y,y=m[k]:=⟨_,rfl⟩
        have d1:=hc1 0 (.string x) (by rw [hx];rfl)
        have d2:=hc2 0 (.string y) (by rw [hy];rfl)
        simp only [Nat.mul_one,Nat.add_zero] at d1 d2
        have hx2:l[k]? = some x:=by rw [hx];simp [hlt]
        have hy2:m[k]? = some y:=by rw [hy];simp [hlt2]
        have HT:Hid (x=y→l.take (k+1)=m.take (k+1)):=Lib.hid (fun e=>by rw [take_one l k x hx2,take_one m k y hy2,HQ.out,e])
        have HN:Hid (x ≠ y→decide (l=m)=false):=Lib.hid (fun e=>by
          rw [decide_eq_false_iff_not];intro h;rw [h,hy2] at hx2;injection hx2 with h5;exact e h5.symm)
        clear hc1 hc2 hx hy hx2 hy2 hlt hlt2
        by_cases hxy:x=y
        · subst hxy
          go_wp2_with fail
          go_region
          go_wp2_with fail
          go_roundg (gk - 1)
          case measure=>omega
          case rel=>exact ⟨k+1,by omega,by go_num,Lib.hid (HT.out (by first | rfl | trivial)),Lib.hid HM.out.drew⟩
        · have hne:(x.toList == y.toList)=false:=by rw [beq_eq_false_iff_ne];exact fun e=>hxy (toList_inj e)
          have HN2:=Lib.hid (HN.out hxy)
          clear hxy
          go_wp2_with fail
          go_region
          go_wp2_with fail
          go_ret
          exact ⟨ret_bool HN2.out.symm,HM.out.drew⟩
      · have he:Hid (decide (l=m)=true):=Lib.hid (by
          have:=HQ.out
          have n1:=N1.out
          have n2:=N2.out
          rw [List.take_of_length_le (by omega),List.take_of_length_le (by omega)] at this
          simp [this])
        go_wp2_with fail
        go_ret
        exact ⟨ret_bool he.out.symm,HM.out⟩
  · have he:Hid (decide (l=m)=false):=Lib.hid (by rw [decide_eq_false_iff_not];intro h;exact hl (by rw [h]))
    go_enter Tryz.func42, Tryz.ntmps42
    go_wp2_with fail
    go_ret
    exact ⟨ret_bool he.out.symm,Mods.refl _ _⟩
section
variable {F G:Nat→Prop} {w w' wr:World}
theorem sameTexts_t (av bv:Value) (l:List ByteArray) (ha:Sl F w 1 encS av l) (hb:Sl G w 1 encS bv l) :
    Calls Tryz.prog 42 #[av,bv] w fun e w'=>e=.returned (.bool true)∧Ext w w':=by
  have:=SameTexts_any av bv l l ha hb
  rw [decide_eq_true rfl] at this
  exact this
end
end Go.Proofs.YtphafjmdhmpkbaaGreatDoor
