/- ref07.Right at inner nodes. | insert.Fits, insert.size, insert.place. | Many pages, put one behind the other: what is known then. Plain. | A tree on a pager: what lookup.Get and lookup.Path tell of it. Plain. | ref01.SameTexts; ref07.Same of nodes that are alike. -/
import Derived.Test.YtphafjmdhmpkbaaGreatDoorC22
import Derived.Test.YtphafjmdhmpkbaaGreatDoorC17
import Derived.Test.YtphafjmdhmpkbaaGreatDoorC19
import Derived.Deep.RegionHeld3
import Derived.Test.YtphafjmdhmpkbaaGreatDoorC20
import Derived.Test.YtphafjmdhmpkbaaGreatDoorC16
import Derived.Test.YtphafjmdhmpkbaaGreatDoorC07
import Derived.Test.YtphafjmdhmpkbaaGreatDoorC02
import Derived.BigQuiet
namespace Go.Proofs.YtphafjmdhmpkbaaGreatDoor
open Go.RowKit
attribute [local go_sem ↓] Go.wp_at_zero Go.wp_at_succ
theorem nodup_few:∀ (N:Nat) (l:List Int),l.Nodup→(∀ x ∈ l,0≤x∧x < (N:Int))→l.length≤N
  | 0,l,_,h=>by
    cases l with
    | nil=>simp
    | cons x l=>have:=h x List.mem_cons_self;omega
  | N+1,l,hn,h=>by
    by_cases hm:(N:Int) ∈ l
    · have h1:=nodup_few N (l.erase (N:Int)) (hn.erase _) (fun x hx=>by
        have h2:=(hn.mem_erase_iff).1 hx
        have h3:=h x h2.2
        have:x ≠ (N:Int):=h2.1
        omega)
      have h2:=List.length_erase_of_mem hm
      omega
    · have h1:=nodup_few N l hn (fun x hx=>by
        have h3:=h x hx
        have:x ≠ (N:Int):=fun e=>hm (e ▸ hx)
        omega)
      omega
theorem kids_few {l:List Int} (h1:l.Nodup) (h2:∀ x ∈ l,kidB x=true):l.length≤256 :=
  nodup_few 256 l h1 (fun x hx=>by have:=h2 x hx;simp [kidB] at this;omega)
section
variable {F:Nat→Prop} {w w' wr w2:World}
def KidTo (l:List Int) (k:Nat):Prop:=(∀ x ∈ l.take k,kidB x=true)∧(l.take k).Nodup
theorem KidTo.next {l:List Int} {k:Nat} {x:Int} (h:KidTo l k) (hx:l[k]? = some x) (hk:kidB x=true) (hn:x ∉ l.take k):KidTo l (k+1):=by
  refine ⟨fun y hy=>?_,?_⟩
  · rw [take_one l k x hx] at hy
    rcases List.mem_append.1 hy with hy | hy
    · exact h.1 y hy
    · rw [List.mem_singleton.1 hy];exact hk
  · rw [take_one l k x hx,List.nodup_append]
    exact ⟨h.2,by simp,fun a ha b hb e=>by rw [List.mem_singleton.1 hb] at e;exact hn (e ▸ ha)⟩
def KeyTo (l:List ByteArray) (k:Nat):Prop:=(∀ x ∈ l.take k,keyB x=true)∧upTo l k
theorem KeyTo.first {l:List ByteArray} {x:ByteArray} (hx:l[0]? = some x) (hr:keyB x=true):KeyTo l 1:=by
  refine ⟨fun y hy=>?_,fun i a b hi=>by omega⟩
  rw [take_one l 0 x hx] at hy
  simp at hy;subst hy;exact hr
theorem KeyTo.next {l:List ByteArray} {k:Nat} {x y:ByteArray} (h:KeyTo l (k+1)) (hx:l[k]? = some x) (hy:l[k+1]? = some y) (hr:keyB y=true) (hl:leS y x=false):KeyTo l (k+2):=by
  refine ⟨fun z hz=>?_,upTo_step h.2 hx hy hl⟩
  rw [show k+2=k+1+1 from rfl,take_one l (k+1) y hy] at hz
  rcases List.mem_append.1 hz with hz | hz
  · exact h.1 z hz
  · rw [List.mem_singleton.1 hz];exact hr
theorem inner_wrong {n:NodeA} (h:n.leaf=false) (hb:n.kids.all kidB=false∨¬ n.kids.Nodup∨n.keys.all keyB=false∨risingS n.keys=false):rightN n=false:=by
  rw [right_inner h]
  unfold innerB
  rcases hb with hb | hb | hb | hb
  · rw [hb];simp
  · rw [decide_eq_false hb];simp
  · rw [hb];simp
  · rw [hb];simp
theorem not_nodup {l:List Int} {k:Nat} {x:Int} (hx:l[k]? = some x) (hm:x ∈ l.take k):¬ l.Nodup:=by
  intro h
  obtain ⟨hk,rfl⟩:=List.getElem?_eq_some_iff.1 hx
  obtain ⟨i,hi,e⟩:=List.getElem_of_mem hm
  simp only [List.length_take] at hi
  rw [List.getElem_take] at e
  have:=List.pairwise_iff_getElem.1 h i k (by omega) hk (by omega)
  exact this e
theorem kid07_t (n:Int) (w:World) (b:Bool) (h:kidB n=b) : Calls Tryz.prog 66 #[.int .i64 n] w fun e w'=>e=.returned (.bool b)∧w'=w:=by
  subst h
  exact (kid07_any n w).mono fun _ _ ⟨h1,h2⟩=>⟨h1,h2.symm⟩
theorem in07_t (l:List Int) (v:Value) (hl:Sl F w 1 encI v l) (n:Int) (b:Bool) (h:decide (n ∈ l)=b) :
    Calls Tryz.prog 67 #[v,.int .i64 n] w fun x w'=>x=.returned (.bool b)∧w'=w:=by
  subst h
  exact (in07_any l v hl n).mono fun _ _ ⟨h1,h2⟩=>⟨h1,h2.symm⟩
theorem key07_q (s:ByteArray) (w:World) (b:Bool) (h:keyB s=b) : Calls Tryz.prog 27 #[.string s] w fun e w'=>e=.returned (.bool b)∧w'=w :=
  (key07_t s w b h).mono fun _ _ ⟨h1,h2⟩=>⟨h1,h2.symm⟩
set_option maxRecDepth 100000 in
set_option maxHeartbeats 4000000 in
theorem right07I_any (n:NodeA) (hlf:n.leaf=false) (ve vk vi:Value) (hve:Sl F w 4 encE ve n.entries) (hvk:Sl F w 1 encS vk n.keys) (hvi:Sl F w 1 encI vi n.kids) :
    Calls Tryz.prog 15 #[.agg #[.bool false,ve,vk,vi]] w fun x w'=>x=.returned (.bool (rightN n))∧Ext w w':=by
  obtain ⟨ea,ec,rfl,e1,e2,e3,_⟩:=hve
  obtain ⟨ka,kc,rfl,k1,k2,k3,hkk⟩:=hvk
  have HVI:=Lib.hid hvi
  obtain ⟨ia,ic,rfl,i1,i2,i3,hii⟩:=hvi
  unfold maxLen at e2 k2 i2
  obtain ⟨el,hel⟩:∃ el,el=n.entries.length:=⟨_,rfl⟩
  rw [← hel] at e1 e3 ⊢
  have HEL:=Lib.hid hel
  clear hel
  have HK:=Lib.hid hkk
  have HI:=Lib.hid hii
  have HW:Hid (Ext w (w.alloc (.cells #[.bool false,.slice ea el ec,.slice ka n.keys.length kc,.slice ia n.kids.length ic] 26))∧Blk (w.alloc (.cells #[.bool false,.slice ea el ec,.slice ka n.keys.length kc,.slice ia n.kids.length ic] 26)) w.heap.size #[.bool false,.slice ea el ec,.slice ka n.keys.length kc,.slice ia n.kids.length ic] 26):=Lib.hid ⟨(Mods.refl _ w).alloc _,Blk.new w _ _⟩
  have HLF:=Lib.hid hlf
  clear hkk hii hlf
  by_cases h1:0 < el
  · have HR:Hid (rightN n=false):=Lib.hid (by
      rw [right_inner HLF.out];unfold innerB
      cases he:n.entries with
      | nil=>have:=HEL.out;rw [he] at this;simp at this;omega
      | cons _ _=>simp)
    have h1b:(0:Int) < (el:Int):=by omega
    go_enter Tryz.func15, Tryz.ntmps15
    go_wp2_with fail
    go_ret
    exact ⟨by rw [HR.out];rfl,HW.out.1⟩
  · have HE0:Hid (n.entries=[]):=Lib.hid (List.eq_nil_of_length_eq_zero (by have:=HEL.out;omega))
    have h1b:¬ (0:Int) < (el:Int):=by omega
    by_cases h2:n.kids.length < 2
    · have HR:Hid (rightN n=false):=Lib.hid (by
        rw [right_inner HLF.out];unfold innerB
        rw [decide_eq_false (show ¬ 2≤n.kids.length by omega)];simp)
      have h2b:(n.kids.length:Int) < 2:=by omega
      go_enter Tryz.func15, Tryz.ntmps15
      go_wp2_with fail
      go_ret
      exact ⟨by rw [HR.out];rfl,HW.out.1⟩
    · have h2b:¬ (n.kids.length:Int) < 2:=by omega
      by_cases h3:n.kids.length=n.keys.length+1
      · have h3b:((n.kids.length:Int) - 1 == (n.keys.length:Int))=true:=by rw [beq_iff_eq];omega
        have h3c:((n.kids.length:Int) - 1 != (n.keys.length:Int))=false:=by unfold bne;rw [h3b];rfl
        have H3:=Lib.hid h3
        have HR:Hid (rightN n=(decide (n.kids.length≤256) && n.kids.all kidB && decide n.kids.Nodup && n.keys.all keyB && risingS n.keys)):=Lib.hid (by
          rw [right_inner HLF.out];unfold innerB
          rw [HE0.out,decide_eq_true (show 2≤n.kids.length by omega),decide_eq_true h3];simp)
        have H2:=Lib.hid h2
        clear h3 h2
        go_enter Tryz.func15, Tryz.ntmps15
        go_wp2_with fail
        go_loopg [4] n.kids.length (fun m v4 wr=>∃ (k:Nat),k+m=n.kids.length∧v4=.int .i64 (k:Int)∧Hid (KidTo n.kids k)∧Hid (Ext w wr∧Blk wr w.heap.size #[.bool false,.slice ea el ec,.slice ka n.keys.length kc,.slice ia n.kids.length ic] 26))
        case atStart=>exact ⟨0,by omega,rfl,Lib.hid ⟨fun x hx=>by simp at hx,by simp⟩,HW⟩
        case round =>
          obtain ⟨k,hkm,rfl,HS,HW⟩:=hrel
          have hbl:=HW.out.2.lt
          have b2:=HW.out.2.cell (o:=2) (v:=.slice ka n.keys.length kc) rfl
          have b3:=HW.out.2.cell (o:=3) (v:=.slice ia n.kids.length ic) rfl
          by_cases hlt:k < n.kids.length
          · obtain ⟨b,off,rfl,hb,hF,hc⟩:=Sl.at HI.out HW.out.1 (fun _ _ f=>f.elim) k hlt
            obtain ⟨x,hx⟩:∃ x,n.kids[k]? = some x:=⟨_,List.getElem?_eq_getElem hlt⟩
            have hx':n.kids[k]=x:=by rw [List.getElem?_eq_getElem hlt] at hx;exact Option.some.inj hx
            rw [hx'] at hc
            have c0:wr.cell? ⟨b,off+k,none⟩=some (.int .i64 x):=by have:=hc 0 _ rfl;simpa using this
            have HX:=Lib.hid hx
            have HKX:Hid (kidB x=kidB n.kids[k]):=Lib.hid (by rw [hx'])
            clear hc hx hx'
            have j1:(0:Int)≤(k:Int):=by omega
            have j2:(k:Int) < (n.kids.length:Int):=by omega
            have hk300:k≤254:=by
              have h9:=nodup_few 256 (n.kids.take k) HS.out.2 (fun x hx=>by have:=HS.out.1 x hx;simp [kidB] at this;omega)
              have h10:=nodup_few 254 ((n.kids.take k).map fun x=>x - 2) (by
                rw [List.nodup_iff_pairwise_ne,List.pairwise_map]
                exact List.Pairwise.imp (fun h e=>h (by omega)) HS.out.2) (fun x hx=>by
                obtain ⟨y,hy,rfl⟩:=List.mem_map.1 hx
                have:=HS.out.1 y hy;simp [kidB] at this;omega)
              simp only [List.length_map,List.length_take] at h10
              omega
            have d300:decide ((300:Int) < (k:Int))=false:=decide_eq_false (by omega)
            cases hkd:kidB x with
            | false =>
              have HR2:Hid (rightN n=false):=Lib.hid (inner_wrong HLF.out (.inl (all_not hlt (by rw [← HKX.out];exact hkd))))
              have HQ:=Lib.hid hkd
              clear hkd
              go_wp2_with fail
              go_quiet ((go_at_call 66;exact Calls.quiet_of_same (kid07_t _ _ _ HQ.out)))
              go_wp2_with fail
              go_ret
              exact ⟨by rw [HR2.out];rfl,HW.out.1.drewN _⟩
            | true =>
              have HQ:=Lib.hid hkd
              clear hkd
              have HPRE:Hid (Sl F wr 1 encI (.slice (some ⟨b,off,none⟩) k ic) (n.kids.take k)):=Lib.hid ((HVI.out.ext HW.out.1).pre k (by omega))
              have j3:(k:Int)≤(ic:Int):=by omega
              cases hin:decide (x ∈ n.kids.take k) with
              | true =>
                have HR2:Hid (rightN n=false):=Lib.hid (inner_wrong HLF.out (.inr (.inl (not_nodup HX.out (by simpa using hin)))))
                have HN:=Lib.hid hin
                clear hin
                go_wp2_with fail
                go_quiet ((first | (go_at_call 66;exact Calls.quiet_of_same (kid07_t _ _ _ HQ.out)) | (go_at_call 67;exact Calls.quiet_of_same (in07_t _ _ (HPRE.out.ext ((Mods.refl _ wr).drewN _)) _ _ HN.out))))
                go_wp2_with fail
                go_ret
                exact ⟨by rw [HR2.out];rfl,HW.out.1.drewN _⟩
              | false =>
                have HS2:Hid (KidTo n.kids (k+1)):=Lib.hid (HS.out.next HX.out HQ.out (by simpa using hin))
                have HN:=Lib.hid hin
                clear hin
                go_wp2_with fail
                go_quiet ((first | (go_at_call 66;exact Calls.quiet_of_same (kid07_t _ _ _ HQ.out)) | (go_at_call 67;exact Calls.quiet_of_same (in07_t _ _ (HPRE.out.ext ((Mods.refl _ wr).drewN _)) _ _ HN.out))))
                go_wp2_with fail
                go_roundg (gk - 1)
                case measure=>omega
                case rel=>exact ⟨k+1,by omega,by go_num,HS2,Lib.hid ⟨HW.out.1.drewN _,HW.out.2.ext ((Mods.refl _ _).drewN _)⟩⟩
          · have HKS:Hid (n.kids.all kidB=true∧n.kids.Nodup∧n.kids.length≤256):=Lib.hid (by
              have h9:=HS.out
              unfold KidTo at h9
              rw [List.take_of_length_le (by omega)] at h9
              exact ⟨List.all_eq_true.2 h9.1,h9.2,kids_few h9.2 h9.1⟩)
            have HR2:Hid (rightN n=(n.keys.all keyB && risingS n.keys)):=Lib.hid (by
              rw [HR.out,HKS.out.1,decide_eq_true HKS.out.2.1,decide_eq_true HKS.out.2.2];simp)
            obtain ⟨w5,hw5⟩:∃ w5,w5=wr:=⟨_,rfl⟩
            have HW5:Hid (Ext w w5∧Blk w5 w.heap.size #[.bool false,.slice ea el ec,.slice ka n.keys.length kc,.slice ia n.kids.length ic] 26):=Lib.hid (by rw [hw5];exact HW.out)
            rw [← hw5] at b2 b3 ⊢
            clear hw5 HS HKS HW hbl wr
            go_wp2_with fail
            go_loopg [5] n.keys.length (fun m v5 wr=>∃ (k:Nat),k+m=n.keys.length∧v5=.int .i64 (k:Int)∧Hid (KeyTo n.keys k)∧Hid (Ext w wr∧Blk wr w.heap.size #[.bool false,.slice ea el ec,.slice ka n.keys.length kc,.slice ia n.kids.length ic] 26))
            case atStart=>exact ⟨0,by omega,rfl,Lib.hid ⟨fun x hx=>by simp at hx,fun i a b hi=>by omega⟩,HW5⟩
            case round =>
              obtain ⟨k,hkm,rfl,HS,HW⟩:=hrel
              have hbl:=HW.out.2.lt
              have b2:=HW.out.2.cell (o:=2) (v:=.slice ka n.keys.length kc) rfl
              by_cases hlt:k < n.keys.length
              · obtain ⟨b,off,rfl,hb,hF,hc⟩:=Sl.at HK.out HW.out.1 (fun _ _ f=>f.elim) k hlt
                obtain ⟨x,hx⟩:∃ x,n.keys[k]? = some x:=⟨_,List.getElem?_eq_getElem hlt⟩
                have hx':n.keys[k]=x:=by rw [List.getElem?_eq_getElem hlt] at hx;exact Option.some.inj hx
                rw [hx'] at hc
                have c0:wr.cell? ⟨b,off+k,none⟩=some (.string x):=by have:=hc 0 _ rfl;simpa using this
                have HX:=Lib.hid hx
                have HKX:Hid (keyB x=keyB n.keys[k]):=Lib.hid (by rw [hx'])
                clear hc hx hx'
                have j1:(0:Int)≤(k:Int):=by omega
                have j2:(k:Int) < (n.keys.length:Int):=by omega
                cases hkd:keyB x with
                | false =>
                  have HR3:Hid (rightN n=false):=Lib.hid (inner_wrong HLF.out (.inr (.inr (.inl (all_not hlt (by rw [← HKX.out];exact hkd))))))
                  have HQ:=Lib.hid hkd
                  clear hkd
                  go_wp2_with fail
                  go_quiet ((go_at_call 27;exact Calls.quiet_of_same (key07_q _ _ _ HQ.out)))
                  go_wp2_with fail
                  go_ret
                  exact ⟨by rw [HR3.out];rfl,HW.out.1.drewN _⟩
                | true =>
                  have HQ:=Lib.hid hkd
                  clear hkd
                  by_cases hk0:k=0
                  · have d1:decide ((0:Int) < (k:Int))=false:=decide_eq_false (by omega)
                    have d2:decide (0 < k)=false:=decide_eq_false (by omega)
                    have HS2:Hid (KeyTo n.keys (k+1)):=Lib.hid (by
                      have h0:=HX.out
                      rw [hk0] at h0 ⊢
                      exact KeyTo.first h0 HQ.out)
                    clear hk0
                    go_wp2_with fail
                    go_quiet ((go_at_call 27;exact Calls.quiet_of_same (key07_q _ _ _ HQ.out)))
                    go_wp2_with fail
                    go_roundg (gk - 1)
                    case measure=>omega
                    case rel=>exact ⟨k+1,by omega,by go_num,HS2,Lib.hid ⟨HW.out.1.drewN _,HW.out.2.ext ((Mods.refl _ _).drewN _)⟩⟩
                  · obtain ⟨q,hkq⟩:∃ q,k=q+1:=⟨k - 1,by omega⟩
                    have HKQ:=Lib.hid hkq
                    have d1:decide ((0:Int) < (k:Int))=true:=decide_eq_true (by omega)
                    have d2:decide (0 < k)=true:=decide_eq_true (by omega)
                    obtain ⟨b',off',hbb,_,_,hd⟩:=Sl.at HK.out HW.out.1 (fun _ _ f=>f.elim) q (by omega)
                    injection hbb with hbb
                    injection hbb with hbb1 hbb2
                    subst hbb1 hbb2
                    obtain ⟨y,hy⟩:∃ y,n.keys[q]? = some y:=⟨_,List.getElem?_eq_getElem (by omega)⟩
                    have hy':n.keys[q]=y:=by rw [List.getElem?_eq_getElem (by omega)] at hy;exact Option.some.inj hy
                    rw [hy'] at hd
                    have g0:wr.cell? ⟨b,off+q,none⟩=some (.string y):=by have:=hd 0 _ rfl;simpa using this
                    have HY:=Lib.hid hy
                    have j3:(0:Int)≤(q:Int):=by omega
                    have j4:(q:Int) < (n.keys.length:Int):=by omega
                    have hw0:(k:Int) - 1=(q:Int):=by omega
                    have hw1:IntKind.i64.wrap ((k:Int) - 1)=(q:Int):=by rw [hw0];exact IntWalk.i64_in _ (by omega)
                    have hw2:IntKind.i64.wrap (q:Int)=(q:Int):=IntWalk.i64_in _ (by omega)
                    have HX1:Hid (n.keys[q+1]? = some x):=Lib.hid (by rw [← hkq];exact HX.out)
                    clear hd hy hy' hk0 hkq
                    cases hle:leS x y with
                    | true =>
                      have HR3:Hid (rightN n=false):=Lib.hid (inner_wrong HLF.out (.inr (.inr (.inr (not_rising (k:=q) HY.out HX1.out hle)))))
                      have t2:(Op.bytesLess x.toList y.toList || x.toList == y.toList)=true:=hle
                      clear hle
                      go_wp2_with fail
                      go_quiet ((go_at_call 27;exact Calls.quiet_of_same (key07_q _ _ _ HQ.out)))
                      go_wp2_with fail
                      go_ret
                      exact ⟨by rw [HR3.out];rfl,HW.out.1.drewN _⟩
                    | false =>
                      have HS2:Hid (KeyTo n.keys (k+1)):=Lib.hid (by
                        have h0:=HS.out
                        rw [HKQ.out] at h0 ⊢
                        exact h0.next HY.out HX1.out HQ.out hle)
                      have t2:(Op.bytesLess x.toList y.toList || x.toList == y.toList)=false:=hle
                      clear hle
                      go_wp2_with fail
                      go_quiet ((go_at_call 27;exact Calls.quiet_of_same (key07_q _ _ _ HQ.out)))
                      go_wp2_with fail
                      go_roundg (gk - 1)
                      case measure=>omega
                      case rel=>exact ⟨k+1,by omega,by go_num,HS2,Lib.hid ⟨HW.out.1.drewN _,HW.out.2.ext ((Mods.refl _ _).drewN _)⟩⟩
              · have HR3:Hid (rightN n=true):=Lib.hid (by
                  have h9:=HS.out
                  rw [HR2.out,all_done (k:=k) (by omega) h9.1,upTo_all h9.2 (by omega)];rfl)
                go_wp2_with fail
                go_ret
                exact ⟨by rw [HR3.out];rfl,HW.out.1⟩
      · have h3b:((n.kids.length:Int) - 1 == (n.keys.length:Int))=false:=by rw [beq_eq_false_iff_ne];omega
        have h3c:((n.kids.length:Int) - 1 != (n.keys.length:Int))=true:=by unfold bne;rw [h3b];rfl
        have HR:Hid (rightN n=false):=Lib.hid (by
          rw [right_inner HLF.out];unfold innerB
          rw [decide_eq_false h3];simp)
        clear h3
        go_enter Tryz.func15, Tryz.ntmps15
        go_wp2_with fail
        go_ret
        exact ⟨by rw [HR.out];rfl,HW.out.1⟩
theorem right07_t (n:NodeA) (ve vk vi:Value) (hve:Sl F w 4 encE ve n.entries) (hvk:Sl F w 1 encS vk n.keys) (hvi:Sl F w 1 encI vi n.kids) (b:Bool) (hb:rightN n=b) :
    Calls Tryz.prog 15 #[.agg #[.bool n.leaf,ve,vk,vi]] w fun x w'=>x=.returned (.bool b)∧Ext w w':=by
  subst hb
  cases hl:n.leaf with
  | true=>exact right07L_any n hl ve vk vi hve hvk hvi
  | false=>exact right07I_any n hl ve vk vi hve hvk hvi
end
section
variable {P P' F F':Nat→Prop} {ad:Nat→Addr} {w w':World} {c s:Nat} {G:GA} {l:List Nat}
theorem fits_any (n:NodeA) (ve vk vi:Value) (w:World) (hve:Sl F w 4 encE ve n.entries) (hvk:Sl F w 1 encS vk n.keys) (hb:weightN n≤4611686018427387904) (z:Int) (hz : -4611686018427387904≤z) (hz2:z≤9223372036854775807) :
    Calls Tryz.prog 16 #[.agg #[.bool n.leaf,ve,vk,vi],.int .i64 z] w fun e w'=>e=.returned (.bool (decide (weightN n≤z - 24)))∧Ext w w':=by
  have HW:=fun W (m:Ext w W)=>weight_any (vi:=vi) n ve vk W (hve.ext m) (hvk.ext m) hb
  obtain ⟨ea,ec,rfl,_,_,_,_⟩:=hve
  obtain ⟨ka,kc,rfl,_,_,_,_⟩:=hvk
  have HWL:=Lib.hid HW
  have hz3:IntKind.i64.wrap (z - 24)=z - 24:=by rw [IntWalk.i64_in _ (by omega)]
  clear HW
  go_enter Tryz.func16, Tryz.ntmps16
  go_wp2_with fail
  refine (HWL.out _ ?_).mono ?_
  · first | exact Mods.refl _ _ | exact (Mods.refl _ _).alloc _
  rintro e w1 ⟨rfl,hm⟩
  have HM:=Lib.hid hm
  clear hm
  go_wp2_with fail
  go_ret
  exact ⟨rfl,by first | exact HM.out | exact ((Mods.refl _ w).alloc _).trans HM.out⟩
theorem inSize_any (h:PgR F w P c s G l) (gen:Nat) : Calls Tryz.prog 125 #[pgV c s gen] w fun e w'=>e=.returned (.int .i64 (G.size:Int))∧Ext w w':=by
  unfold pgV
  have m0:Ext w (w.alloc (.cells #[.pointer (some ⟨c,0,none⟩),.pointer (some ⟨s,0,none⟩),.int .u64 (gen:Int)] 45)):=(Mods.refl _ w).alloc _
  obtain ⟨d,HH,h1,h2⟩:=pgDisk (h.at m0)
  have gf1:=Tryz.geoF1
  have H1:=Lib.hid h1
  have H2:=Lib.hid h2
  have M0:=Lib.hid m0
  clear h1 h2 h m0
  go_enter Tryz.func125, Tryz.ntmps125
  go_wp2_with fail
  refine H1.out.mono ?_
  rintro e w1 ⟨rfl,rfl⟩
  go_wp2_with fail
  refine (H2.out _ (Mods.refl _ _)).mono ?_
  rintro e w2 ⟨rfl,hm⟩
  have HM:=Lib.hid hm
  clear hm
  go_wp2_with fail
  go_ret
  exact ⟨rfl,M0.out.trans HM.out⟩
def placeG (G:GA) (l:List Nat) (old:Nat):GA :=
  if old=0∨spFresh l old=true then G else if spFree l=none then G else G.drop old
def placeL (l:List Nat) (old:Nat):List Nat :=
  if old=0 then spTake l else if spFresh l old=true then l else match spFree l with
    | none=>l
    | some i=>(spGive (l.set i 2) old).1
def placeI (l:List Nat) (old:Nat):Option Nat:=if old ≠ 0∧spFresh l old=true then some old else spFree l
def placeOk (l:List Nat) (old:Nat):Prop:=old=0∨l[old]? = some 1∨l[old]? = some 2
def PlaceP (ad:Nat→Addr) (o:Option Nat) (F':Nat→Prop) (w':World) (e:Ending):Prop :=
  (∃ i,o=some i∧e=.returned (.tuple #[.int .i64 (i:Int),.nilIface]))∨(o=none∧∃ f,e=.returned (.tuple #[.int .i64 0,faultV f])∧ErrC F' ad w' (faultV f) [-1] 3)
theorem spGive_ok {l:List Nat} {i old:Nat} (hi:spFree l=some i) (h2:2≤old) (h1:l[old]? = some 1):(spGive (l.set i 2) old).2=none:=by
  have hne:i ≠ old:=fun e=>by
    have:=(spFree_at hi).1
    rw [e,h1] at this;simp at this
  have hlt:=(List.getElem?_eq_some_iff.1 h1).1
  have hc:spCheck (l.set i 2) (old:Int)=none:=by
    unfold spCheck
    rw [if_neg (by rw [List.length_set];omega)]
  unfold spGive
  rw [hc]
  simp only [Int.toNat_natCast,List.getElem?_set_ne hne,h1]
  simp
set_option maxRecDepth 100000 in
theorem place_any (hL:Env F ad w) (hP:∀ k,P k→F k) (h:PgR F w P c s G l) (gen old:Nat) (hok:placeOk l old) (ho2:old=0∨2≤old) (hob:old < 256) :
    Calls Tryz.prog 126 #[pgV c s gen,.int .i64 (old:Int)] w (PgDone F P ad w c s (placeG G l old) (placeL l old) (PlaceP ad (placeI l old))):=by
  have m0:Ext w (w.alloc (.cells #[.pointer (some ⟨c,0,none⟩),.pointer (some ⟨s,0,none⟩),.int .u64 (gen:Int)] 45)):=(Mods.refl _ w).alloc _
  have HB0:=Lib.hid (Blk.new w #[.pointer (some ⟨c,0,none⟩),.pointer (some ⟨s,0,none⟩),.int .u64 (gen:Int)] 45)
  have HM0:=Lib.hid m0
  have HP:=Lib.hid hP
  have HG:=Lib.hid (h.at m0)
  have HL:=Lib.hid (hL.mods m0.ext)
  have HN0:Hid (Nxt P P F F ad w _):=Lib.hid (Nxt.ext hL hP m0)
  have HBP:Hid (¬ P w.heap.size):=Lib.hid (fun hp=>by have:=h.bd _ hp;omega)
  have HOK:=Lib.hid hok
  clear hL hP h m0 hok
  unfold pgV
  by_cases hz:old=0
  · subst hz
    have HT:=Lib.hid (pgTake HL.out HP.out HG.out)
    have HE:Hid (placeG G l 0=G∧placeL l 0=spTake l∧placeI l 0=spFree l):=Lib.hid ⟨by unfold placeG;rw [if_pos (.inl rfl)],by unfold placeL;rw [if_pos rfl],by unfold placeI;rw [if_neg (by simp)]⟩
    clear ho2 hob
    go_enter Tryz.func126, Tryz.ntmps126
    go_wp2_with fail
    refine HT.out.mono ?_
    rintro e w1 ⟨P1,F1,hG1,hN1,hr⟩
    have HG1:=Lib.hid hG1
    have HN1:=Lib.hid hN1
    clear hG1 hN1
    rcases hr with ⟨i,hi,hil,rfl⟩ | ⟨hi,f,rfl,hE⟩
    · have HI:=Lib.hid hi
      clear hi
      go_wp2_with fail
      go_ret2
      refine ⟨P1,F1,?_,HN0.out.trans HN1.out,?_⟩
      · rw [HE.out.1,HE.out.2.1];exact HG1.out
      · rw [HE.out.2.2];exact .inl ⟨i,HI.out,rfl⟩
    · have HI:=Lib.hid hi
      have HEE:=Lib.hid hE
      clear hi hE
      go_wp2_with fail
      go_ret2
      refine ⟨P1,F1,?_,HN0.out.trans HN1.out,?_⟩
      · rw [HE.out.1,HE.out.2.1];exact HG1.out
      · rw [HE.out.2.2];exact .inr ⟨HI.out,f,rfl,HEE.out⟩
  · have hz1:¬ (old:Int)=0:=by omega
    have h2:2≤old:=by omega
    have HF:=Lib.hid (pgFresh HG.out (old:Int))
    cases hfr:spFresh l (old:Int) with
    | true =>
      rw [hfr] at HF
      have HE:Hid (placeG G l old=G∧placeL l old=l∧placeI l old=some old):=Lib.hid ⟨by unfold placeG;rw [if_pos (.inr hfr)],by unfold placeL;rw [if_neg hz,if_pos hfr],by unfold placeI;rw [if_pos ⟨hz,hfr⟩]⟩
      clear hfr hz ho2
      go_enter Tryz.func126, Tryz.ntmps126
      go_wp2_with fail
      refine HF.out.mono ?_
      rintro e w1 ⟨rfl,rfl⟩
      go_wp2_with fail
      go_ret2
      refine ⟨P,F,?_,HN0.out,?_⟩
      · rw [HE.out.1,HE.out.2.1];exact HG.out
      · rw [HE.out.2.2];exact .inl ⟨old,rfl,rfl⟩
    | false =>
      rw [hfr] at HF
      have h1:l[old]? = some 1:=by
        rcases HOK.out with h | h | h
        · exact absurd h hz
        · exact h
        · unfold spFresh at hfr
          rw [Int.toNat_natCast,h] at hfr
          simp at hfr
      have HE:Hid (placeG G l old=(if spFree l=none then G else G.drop old)∧placeL l old=(match spFree l with | none=>l | some i=>(spGive (l.set i 2) old).1)∧placeI l old=spFree l):=Lib.hid
        ⟨by unfold placeG;rw [if_neg (by rw [hfr];simp [hz])],by unfold placeL;rw [if_neg hz,if_neg (by rw [hfr];simp)],by unfold placeI;rw [if_neg (by rw [hfr];simp)]⟩
      have H1:=Lib.hid h1
      have HT:=Lib.hid (pgTake HL.out HP.out HG.out)
      clear hfr hz ho2 h1
      go_enter Tryz.func126, Tryz.ntmps126
      go_wp2_with fail
      refine HF.out.mono ?_
      rintro e w1 ⟨rfl,rfl⟩
      go_wp2_with fail
      refine HT.out.mono ?_
      rintro e w1 ⟨P1,F1,hG1,hN1,hr⟩
      have HB1:=Lib.hid (hN1.blk HB0.out HBP.out)
      have HBP1:Hid (¬ P1 w.heap.size):=Lib.hid (hN1.not HB0.out.lt HBP.out)
      have HG1:=Lib.hid hG1
      have HN1:=Lib.hid (HN0.out.trans hN1)
      clear hG1 hN1
      rcases hr with ⟨i,hi,hil,rfl⟩ | ⟨hi,f,rfl,hE⟩
      · have HTK:Hid (spTake l=l.set i 2):=Lib.hid (by unfold spTake;rw [hi])
        have HGV:Hid ((spGive (spTake l) (old:Int)).2=none):=Lib.hid (by rw [HTK.out];exact spGive_ok hi h2 H1.out)
        have HI:=Lib.hid hi
        clear hi
        have b0:=HB1.out.cell (o:=0) (v:=.pointer (some ⟨c,0,none⟩)) rfl
        go_wp2_with fail
        refine (pgDrop HN1.out.env HN1.out.sub HG1.out old).mono ?_
        rintro e w2 ⟨P2,F2,hG2,hN2,bb,rfl⟩
        have HB2:=Lib.hid (hN2.blk HB1.out HBP1.out)
        have b1:=HB2.out.cell (o:=1) (v:=.pointer (some ⟨s,0,none⟩)) rfl
        have HG2:=Lib.hid hG2
        have HN2:=Lib.hid (HN1.out.trans hN2)
        clear hG2 hN2
        go_wp2_with fail
        refine (pgGive HN2.out.env HN2.out.sub HG2.out (old:Int)).mono ?_
        rintro e w3 ⟨P3,F3,hG3,hN3,ev,rfl,hev⟩
        rw [HGV.out] at hev
        cases hev
        have HG3:=Lib.hid hG3
        have HN3:=Lib.hid (HN2.out.trans hN3)
        clear hG3 hN3
        go_wp2_with fail
        go_ret2
        refine ⟨P3,F3,?_,HN3.out,?_⟩
        · rw [HE.out.1,HE.out.2.1,HI.out,if_neg (by simp)]
          simp only
          rw [← HTK.out]
          exact HG3.out
        · rw [HE.out.2.2];exact .inl ⟨i,HI.out,rfl⟩
      · have HI:=Lib.hid hi
        have HEE:=Lib.hid hE
        clear hi hE
        go_wp2_with fail
        go_ret2
        refine ⟨P1,F1,?_,HN1.out,?_⟩
        · rw [HE.out.1,HE.out.2.1,HI.out,if_pos rfl]
          have:spTake l=l:=by unfold spTake;rw [HI.out]
          rw [← this]
          exact HG1.out
        · rw [HE.out.2.2];exact .inr ⟨HI.out,f,rfl,HEE.out⟩
end
end Go.Proofs.YtphafjmdhmpkbaaGreatDoor
namespace Go.Proofs.YtphafjmdhmpkbaaGreatDoor
open Go.RowKit
def GA.total (G:GA):Prop:=∀ i,i < G.blocks→∃ r,G.view i=some r
theorem GA.total.knows {G:GA} (h:G.total) (id:Int):G.knows id:=fun hc=>by
  unfold GA.check at hc
  split at hc
  · cases hc
  · exact h _ (by omega)
theorem GA.total.walk {G:GA} (h:G.total):∀ (f:Nat) (id n:Int),walkOk G f id n
  | 0,_,_=>trivial
  | f+1,id,n=>by
    rw [walkOk]
    exact fun _=>⟨h.knows id,fun x _ _=>GA.total.walk h f _ _⟩
theorem G0_total (n:Nat):(G0 n).total:=fun i hi=>by
  have h:i < n:=hi
  exact ⟨openAtP z256 (i:Int),by show (if i < n then some (openAtP z256 (i:Int)) else none)=_;rw [if_pos h]⟩
theorem put_total {G:GA} (h:G.total) (p:PageA):(G.put p).total:=fun i hi=>by
  show ∃ r,upd G.view p.id.toNat (some (.inl p)) i=some r
  by_cases e:i=p.id.toNat
  · subst e;rw [upd_self];exact ⟨_,rfl⟩
  · rw [upd_ne _ _ e];exact h i hi
theorem GA.total.find {G:GA} (h:G.total) (key:ByteArray):∀ (f:Nat) (id:Int),findOk G key f id
  | 0,_=>trivial
  | f+1,id=>⟨h.knows id,fun _ _ _=>GA.total.find h key f _⟩
theorem GA.total.value {G:GA} (h:G.total) (e:EntryA):valueOk G e:=fun _ _ _=>h.walk _ _ _
theorem GA.total.look {G:GA} (h:G.total) (root:Int) (key:ByteArray):lookOk G root key:=⟨h.find key 16 root,fun _ _ e _ _=>h.value e⟩
structure LeafOf (R:Int→Int→Option ByteArray) (m:NodeA) (p:List PairS):Prop where
  leaf:m.leaf=true
  right:rightN m=true
  len:m.entries.length=p.length
  tells:∀ (i:Nat) (e:EntryA) (x:PairS),m.entries[i]? = some e→p[i]? = some x→e.key=x.1∧tellsE R e=some x.2
theorem Tr.path {V:Nat→Option NodeA} {R:Int→Int→Option ByteArray} {lo:ByteArray} {hi:Option ByteArray} {id d:Nat} {l:List PairS} (h:Tr V R lo hi id d l) (key:ByteArray):inB lo hi key →
    ∃ st m p,PathA V key id d st m∧LeafOf R m p∧st.length=d∧findP key l=findP key p:=by
  induction h with
  | @leaf lo hi id n l h1 h2 h3 h4 h5 h6=>exact fun _=>⟨_,n,l,.leaf h1 h2,⟨h2,h3,h4,h5⟩,rfl,rfl⟩
  | @inner lo hi id n d parts h1 h2 h3 h4 h5 h6 ih =>
    intro hk
    obtain ⟨r1,r2,_⟩:=rightN_inner h3 h2
    obtain ⟨k,p,q1,q2,q3,q4⟩:=inner_find r1 r2 h4 h5 hk
    obtain ⟨st,m,p2,s1,s2,s4,s5⟩:=ih _ k p q1 q2 q3
    exact ⟨_,m,p2,.inner h1 h2 q1 s1,s2,by rw [List.length_cons,s4],q4.trans s5⟩
noncomputable def GA.R2 (G:GA) (c s:Int):Option ByteArray:=open Classical in if walkOk G s.toNat c s then G.R c s else none
theorem GA.R2_some {G:GA} {c s:Int} {v:ByteArray} (h:G.R2 c s=some v):walkOk G s.toNat c s∧G.R c s=some v:=by
  unfold GA.R2 at h
  split at h
  · rename_i hw;exact ⟨hw,h⟩
  · cases h
theorem value_tells {G:GA} {e:EntryA} {v:ByteArray} (h:tellsE G.R2 e=some v):valueA G e=.inl v∧valueOk G e:=by
  unfold tellsE at h
  unfold valueA valueOk
  by_cases hc:e.chain=0
  · rw [if_pos hc] at h ⊢
    exact ⟨by rw [Option.some.inj h],fun hn=>absurd hc hn⟩
  · rw [if_neg hc] at h ⊢
    obtain ⟨h1,h2⟩:=GA.R2_some h
    refine ⟨?_,fun _ _ _=>h1⟩
    unfold GA.R at h2
    split at h2
    · rename_i h3
      rw [h3]
      simp only
      rw [Option.some.inj h2]
    · cases h2
theorem inB_all (k:ByteArray):inB e0 none k:=by
  refine ⟨?_,fun h hh=>by cases hh⟩
  unfold ltS
  have:e0.toList=[]:=by simp [ByteArray.toList_eq]
  rw [this]
  cases k.toList <;> rfl
def TreeG (G:GA) (root d:Nat) (l:List PairS):Prop :=
  (l=[]∧root=0∧d=0)∨(2≤root∧root < 256∧d≤16∧Tr G.node G.R2 e0 none root d l)
theorem lkCheck_ok {key:ByteArray} (h:keyB key=true):lkCheck key=none:=by unfold lkCheck;rw [if_pos h]
def stI (st:List (Nat × Nat)):List (Int × Nat):=st.map fun x=>((x.1:Int),x.2)
theorem leaf_at {R:Int→Int→Option ByteArray} {m:NodeA} {p:List PairS} (h:LeafOf R m p) (key:ByteArray):findP key p=leafTells R key m:=leaf_find (rightN_leaf h.right h.leaf) h.len h.tells key
theorem LeafOf.ent {R:Int→Int→Option ByteArray} {m:NodeA} {p:List PairS} (h:LeafOf R m p) {i:Nat} {e:EntryA} (he:m.entries[i]? = some e):∃ v,tellsE R e=some v:=by
  have hi:=(List.getElem?_eq_some_iff.1 he).1
  have hp:i < p.length:=by rw [← h.len];exact hi
  exact ⟨_,(h.tells i e _ he (List.getElem?_eq_getElem hp)).2⟩
theorem leaf_says {R:Int→Int→Option ByteArray} {m:NodeA} {p:List PairS} (h:LeafOf R m p) (key:ByteArray) :
    (entIs key m.entries=true∧∃ e v,m.entries[entAt key m.entries]? = some e∧e.key=key∧tellsE R e=some v∧findP key p=some v)∨(entIs key m.entries=false∧findP key p=none):=by
  rw [leaf_at h]
  unfold leafTells entIs
  cases hm:m.entries[entAt key m.entries]? with
  | none=>exact .inr ⟨rfl,rfl⟩
  | some e =>
    simp only
    by_cases hk:e.key=key
    · rw [if_pos hk,decide_eq_true hk]
      obtain ⟨v,hv⟩:=h.ent hm
      exact .inl ⟨rfl,e,v,rfl,hk,hv,hv⟩
    · rw [if_neg hk,decide_eq_false hk]
      exact .inr ⟨rfl,rfl⟩
theorem Tr.onG {G:GA} {root d:Nat} {l:List PairS} (h:Tr G.node G.R2 e0 none root d l) (hd:d≤16) (key:ByteArray) :
    ∃ st m p,PathA G.node key root d st m∧LeafOf G.R2 m p∧st.length=d∧findP key l=findP key p∧Go.Proofs.YtphafjmdhmpkbaaGreatDoor.findA G key 16 [] (root:Int)=.inl (stI st,m)∧findOk G key 16 (root:Int):=by
  obtain ⟨st,m,p,h1,h2,h3,h4⟩:=h.path key (inB_all key)
  obtain ⟨k1,k2⟩:=h1.findA 16 [] hd (fun id n k hn hk=>node_kids id n k hn hk)
  exact ⟨st,m,p,h1,h2,h3,h4,by rw [k1];rfl,k2⟩
theorem TreeG.look {G:GA} {root d:Nat} {l:List PairS} (h:TreeG G root d l) {key:ByteArray} (hk:keyB key=true):lookA G (root:Int) key=.inl (findP key l):=by
  rcases h with ⟨rfl,rfl,rfl⟩ | ⟨h1,_,h2,h3⟩
  · unfold lookA
    rw [lkCheck_ok hk]
    rfl
  · obtain ⟨st,m,p,k1,k2,k3,k4,k5,k6⟩:=h3.onG h2 key
    unfold lookA
    rw [lkCheck_ok hk,k5]
    simp only
    rw [if_neg (by omega),findN_leaf k2.leaf,k4]
    rcases leaf_says k2 key with ⟨j1,e,v,j2,j3,j4,j5⟩ | ⟨j1,j2⟩
    · simp only [j1,j2,if_true,(value_tells j4).1,j5]
    · rw [j2]
      simp only [j1]
      split <;> rfl
end Go.Proofs.YtphafjmdhmpkbaaGreatDoor
namespace Go.Proofs.YtphafjmdhmpkbaaGreatDoor
open Go.RowKit
attribute [local go_sem ↓] Go.wp_at_zero Go.wp_at_succ
set_option maxRecDepth 100000 in
theorem SameTexts_any {F G:Nat→Prop} {w:World} (av bv:Value) (l m:List ByteArray) (ha:Sl F w 1 encS av l) (hb:Sl G w 1 encS bv m) :
    Calls Tryz.prog 42 #[av,bv] w fun e w'=>e=.returned (.bool (decide (l=m)))∧Ext w w':=by
  obtain ⟨a,cap,rfl,h1,h2,h3,h4⟩:=ha
  obtain ⟨b,cap2,rfl,i1,i2,i3,i4⟩:=hb
  unfold maxLen at h2 i2
  have H4:=Lib.hid h4
  have I4:=Lib.hid i4
  clear h4 i4
  by_cases hl:l.length=m.length
  · obtain ⟨n,hn⟩:∃ n,n=l.length:=⟨_,rfl⟩
    rw [← hl,← hn] at i1 i3 ⊢
    rw [← hn] at h1 h3
    have N1:Hid (n=l.length):=Lib.hid hn
    have N2:Hid (n=m.length):=Lib.hid (hn.trans hl)
    clear hn hl
    go_enter Tryz.func42, Tryz.ntmps42
    go_wp2_with fail
    go_loopg [5] n (fun q v5 wr=>∃ k:Nat,k+q=n∧v5=.int .i64 k∧Hid (l.take k=m.take k)∧Hid (Ext w wr))
    case atStart=>exact ⟨0,by omega,rfl,Lib.hid rfl,Lib.hid (Mods.refl _ _)⟩
    case round =>
      obtain ⟨k,hk,rfl,HQ,HM⟩:=hrel
      by_cases hltn:k < n
      · have hlt:k < l.length:=by have:=N1.out;omega
        have hlt2:k < m.length:=by have:=N2.out;omega
        obtain ⟨b1,off1,rfl,hb1,hF1,hc1⟩:=Sl.atE H4.out HM.out k hlt
        obtain ⟨b2,off2,rfl,hb2,hF2,hc2⟩:=Sl.atE I4.out HM.out k hlt2
        obtain ⟨x,hx⟩:∃ x,x=l[k]:=⟨_,rfl⟩
        obtain ⟨y,hy⟩:∃ y,y=m[k]:=⟨_,rfl⟩
        have d1:=hc1 0 (.string x) (by rw [hx];rfl)
        have d2:=hc2 0 (.string y) (by rw [hy];rfl)
        simp only [Nat.mul_one,Nat.add_zero] at d1 d2
        have hx2:l[k]? = some x:=by rw [hx];simp [hlt]
        have hy2:m[k]? = some y:=by rw [hy];simp [hlt2]
        have HT:Hid (x=y→l.take (k+1)=m.take (k+1)):=Lib.hid (fun e=>by rw [take_one l k x hx2,take_one m k y hy2,HQ.out,e])
        have HN:Hid (x ≠ y→decide (l=m)=false):=Lib.hid (fun e=>by
          rw [decide_eq_false_iff_not];intro h;rw [h,hy2] at hx2;injection hx2 with h5;exact e h5.symm)
        clear hc1 hc2 hx hy hx2 hy2 hlt hlt2
        by_cases hxy:x=y
        · subst hxy
          go_wp2_with fail
          go_region
          go_wp2_with fail
          go_roundg (gk - 1)
          case measure=>omega
          case rel=>exact ⟨k+1,by omega,by go_num,Lib.hid (HT.out (by first | rfl | trivial)),Lib.hid HM.out.drew⟩
        · have hne:(x.toList == y.toList)=false:=by rw [beq_eq_false_iff_ne];exact fun e=>hxy (toList_inj e)
          have HN2:=Lib.hid (HN.out hxy)
          clear hxy
          go_wp2_with fail
          go_region
          go_wp2_with fail
          go_ret
          exact ⟨ret_bool HN2.out.symm,HM.out.drew⟩
      · have he:Hid (decide (l=m)=true):=Lib.hid (by
          have:=HQ.out
          have n1:=N1.out
          have n2:=N2.out
          rw [List.take_of_length_le (by omega),List.take_of_length_le (by omega)] at this
          simp [this])
        go_wp2_with fail
        go_ret
        exact ⟨ret_bool he.out.symm,HM.out⟩
  · have he:Hid (decide (l=m)=false):=Lib.hid (by rw [decide_eq_false_iff_not];intro h;exact hl (by rw [h]))
    go_enter Tryz.func42, Tryz.ntmps42
    go_wp2_with fail
    go_ret
    exact ⟨ret_bool he.out.symm,Mods.refl _ _⟩
section
variable {F G:Nat→Prop} {w w' wr:World}
theorem sameTexts_t (av bv:Value) (l:List ByteArray) (ha:Sl F w 1 encS av l) (hb:Sl G w 1 encS bv l) :
    Calls Tryz.prog 42 #[av,bv] w fun e w'=>e=.returned (.bool true)∧Ext w w':=by
  have:=SameTexts_any av bv l l ha hb
  rw [decide_eq_true rfl] at this
  exact this
set_option maxRecDepth 100000 in
set_option maxHeartbeats 1000000 in
theorem same07_eq (n:NodeA) (ve vk vi ue uk ui:Value) (hve:Sl F w 4 encE ve n.entries) (hvk:Sl F w 1 encS vk n.keys) (hvi:Sl F w 1 encI vi n.kids) (hue:Sl G w 4 encE ue n.entries) (huk:Sl G w 1 encS uk n.keys) (hui:Sl G w 1 encI ui n.kids) :
    Calls Tryz.prog 18 #[.agg #[.bool n.leaf,ve,vk,vi],.agg #[.bool n.leaf,ue,uk,ui]] w fun e w'=>e=.returned (.bool true)∧Ext w w':=by
  have HVK:=Lib.hid hvk
  have HUK:=Lib.hid huk
  obtain ⟨ea,ec,rfl,e1,e2,e3,hee⟩:=hve
  obtain ⟨ka,kc,rfl,k1,k2,k3,_⟩:=hvk
  obtain ⟨ia,ic,rfl,i1,i2,i3,hii⟩:=hvi
  obtain ⟨fa,fc,rfl,f1,f2,f3,hff⟩:=hue
  obtain ⟨la,lc,rfl,l1,l2,l3,_⟩:=huk
  obtain ⟨ja,jc,rfl,j1,j2,j3,hjj⟩:=hui
  unfold maxLen at e2 k2 i2 f2 l2 j2
  have HEE:=Lib.hid hee
  have HFF:=Lib.hid hff
  have HII:=Lib.hid hii
  have HJJ:=Lib.hid hjj
  have HW:Hid (Ext w ((w.alloc (.cells #[.bool n.leaf,.slice ea n.entries.length ec,.slice ka n.keys.length kc,.slice ia n.kids.length ic] 26)).alloc (.cells #[.bool n.leaf,.slice fa n.entries.length fc,.slice la n.keys.length lc,.slice ja n.kids.length jc] 26)) ∧
      Blk ((w.alloc (.cells #[.bool n.leaf,.slice ea n.entries.length ec,.slice ka n.keys.length kc,.slice ia n.kids.length ic] 26)).alloc (.cells #[.bool n.leaf,.slice fa n.entries.length fc,.slice la n.keys.length lc,.slice ja n.kids.length jc] 26)) w.heap.size #[.bool n.leaf,.slice ea n.entries.length ec,.slice ka n.keys.length kc,.slice ia n.kids.length ic] 26 ∧
      Blk ((w.alloc (.cells #[.bool n.leaf,.slice ea n.entries.length ec,.slice ka n.keys.length kc,.slice ia n.kids.length ic] 26)).alloc (.cells #[.bool n.leaf,.slice fa n.entries.length fc,.slice la n.keys.length lc,.slice ja n.kids.length jc] 26)) (w.heap.size+1) #[.bool n.leaf,.slice fa n.entries.length fc,.slice la n.keys.length lc,.slice ja n.kids.length jc] 26) :=
    Lib.hid ⟨((Mods.refl _ w).alloc _).alloc _,(Blk.new w _ _).alloc _,heap_at (by simp)⟩
  clear hee hff hii hjj
  go_enter Tryz.func18, Tryz.ntmps18
  go_wp2_with fail
  go_loopg [5] n.entries.length (fun m v5 wr=>∃ (k:Nat),k+m=n.entries.length∧v5=.int .i64 (k:Int)∧Hid (Ext w wr∧Blk wr w.heap.size #[.bool n.leaf,.slice ea n.entries.length ec,.slice ka n.keys.length kc,.slice ia n.kids.length ic] 26 ∧ Blk wr (w.heap.size+1) #[.bool n.leaf,.slice fa n.entries.length fc,.slice la n.keys.length lc,.slice ja n.kids.length jc] 26))
  case atStart=>exact ⟨0,by omega,rfl,HW⟩
  case round =>
    obtain ⟨k,hkm,rfl,HW⟩:=hrel
    have hb1:=HW.out.2.1.lt
    have hb2:=HW.out.2.2.lt
    have b1:=HW.out.2.1.cell (o:=1) (v:=.slice ea n.entries.length ec) rfl
    have d1:=HW.out.2.2.cell (o:=1) (v:=.slice fa n.entries.length fc) rfl
    by_cases hlt:k < n.entries.length
    · obtain ⟨b,off,rfl,_,_,hc⟩:=Sl.at HEE.out HW.out.1 (fun _ _ f=>f.elim) k hlt
      obtain ⟨b',off',rfl,_,_,hc'⟩:=Sl.at HFF.out HW.out.1 (fun _ _ f=>f.elim) k hlt
      obtain ⟨x,hx⟩:∃ x,n.entries[k]=x:=⟨_,rfl⟩
      rw [hx] at hc hc'
      have c0:wr.cell? ⟨b,off+k * 4,none⟩=some (.string x.key):=hc 0 _ rfl
      have c1:wr.cell? ⟨b,off+k * 4+1,none⟩=some (.string x.value):=hc 1 _ rfl
      have c2:wr.cell? ⟨b,off+k * 4+2,none⟩=some (.int .i64 x.chain):=hc 2 _ rfl
      have c3:wr.cell? ⟨b,off+k * 4+3,none⟩=some (.int .i64 x.size):=hc 3 _ rfl
      have g0:wr.cell? ⟨b',off'+k * 4,none⟩=some (.string x.key):=hc' 0 _ rfl
      have g1:wr.cell? ⟨b',off'+k * 4+1,none⟩=some (.string x.value):=hc' 1 _ rfl
      have g2:wr.cell? ⟨b',off'+k * 4+2,none⟩=some (.int .i64 x.chain):=hc' 2 _ rfl
      have g3:wr.cell? ⟨b',off'+k * 4+3,none⟩=some (.int .i64 x.size):=hc' 3 _ rfl
      have q1:(0:Int)≤(k:Int):=by omega
      have q2:(k:Int) < (n.entries.length:Int):=by omega
      clear hc hc' hx
      go_wp2_with fail
      go_quiet (fail)
      go_wp2_with fail
      go_roundg (gk - 1)
      case measure=>omega
      case rel=>exact ⟨k+1,by omega,by go_num,Lib.hid ⟨HW.out.1.drewN _,HW.out.2.1.ext ((Mods.refl _ _).drewN _),HW.out.2.2.ext ((Mods.refl _ _).drewN _)⟩⟩
    · obtain ⟨w5,hw5⟩:∃ w5,w5=wr:=⟨_,rfl⟩
      have HW5:Hid (Ext w w5∧Blk w5 w.heap.size #[.bool n.leaf,.slice ea n.entries.length ec,.slice ka n.keys.length kc,.slice ia n.kids.length ic] 26 ∧ Blk w5 (w.heap.size+1) #[.bool n.leaf,.slice fa n.entries.length fc,.slice la n.keys.length lc,.slice ja n.kids.length jc] 26):=Lib.hid (by rw [hw5];exact HW.out)
      rw [← hw5] at b1 d1 ⊢
      clear hw5 HW hb1 hb2 wr
      go_wp2_with fail
      go_loopg [6] n.kids.length (fun m v5 wr=>∃ (k:Nat),k+m=n.kids.length∧v5=.int .i64 (k:Int)∧Hid (Ext w wr∧Blk wr w.heap.size #[.bool n.leaf,.slice ea n.entries.length ec,.slice ka n.keys.length kc,.slice ia n.kids.length ic] 26 ∧ Blk wr (w.heap.size+1) #[.bool n.leaf,.slice fa n.entries.length fc,.slice la n.keys.length lc,.slice ja n.kids.length jc] 26))
      case atStart=>exact ⟨0,by omega,rfl,HW5⟩
      case round =>
        obtain ⟨k,hkm,rfl,HW⟩:=hrel
        have hb1:=HW.out.2.1.lt
        have hb2:=HW.out.2.2.lt
        have b3:=HW.out.2.1.cell (o:=3) (v:=.slice ia n.kids.length ic) rfl
        have d3:=HW.out.2.2.cell (o:=3) (v:=.slice ja n.kids.length jc) rfl
        by_cases hlt:k < n.kids.length
        · obtain ⟨b,off,rfl,_,_,hc⟩:=Sl.at HII.out HW.out.1 (fun _ _ f=>f.elim) k hlt
          obtain ⟨b',off',rfl,_,_,hc'⟩:=Sl.at HJJ.out HW.out.1 (fun _ _ f=>f.elim) k hlt
          obtain ⟨x,hx⟩:∃ x,n.kids[k]=x:=⟨_,rfl⟩
          rw [hx] at hc hc'
          have c0:wr.cell? ⟨b,off+k,none⟩=some (.int .i64 x):=by have:=hc 0 _ rfl;simpa using this
          have g0:wr.cell? ⟨b',off'+k,none⟩=some (.int .i64 x):=by have:=hc' 0 _ rfl;simpa using this
          have q1:(0:Int)≤(k:Int):=by omega
          have q2:(k:Int) < (n.kids.length:Int):=by omega
          clear hc hc' hx
          go_wp2_with fail
          go_quiet (fail)
          go_wp2_with fail
          go_roundg (gk - 1)
          case measure=>omega
          case rel=>exact ⟨k+1,by omega,by go_num,Lib.hid ⟨HW.out.1.drewN _,HW.out.2.1.ext ((Mods.refl _ _).drewN _),HW.out.2.2.ext ((Mods.refl _ _).drewN _)⟩⟩
        · have b2:=HW.out.2.1.cell (o:=2) (v:=.slice ka n.keys.length kc) rfl
          have d2:=HW.out.2.2.cell (o:=2) (v:=.slice la n.keys.length lc) rfl
          have HST:=Lib.hid (sameTexts_t (.slice ka n.keys.length kc) (.slice la n.keys.length lc) n.keys (HVK.out.ext HW.out.1) (HUK.out.ext HW.out.1))
          go_wp2_with fail
          refine (HST.out).mono ?_
          rintro e w6 ⟨rfl,hm6⟩
          have HM:=Lib.hid (HW.out.1.trans hm6)
          clear hm6
          go_wp2_with fail
          go_ret
          exact ⟨rfl,HM.out⟩
end
end Go.Proofs.YtphafjmdhmpkbaaGreatDoor
