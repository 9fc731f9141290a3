/- space.turn, Commit, Rollback. | space.Rollback. -/
import Derived.Test.YtphafjmdhmpkbaaGreatDoorK17
namespace Go.Proofs.YtphafjmdhmpkbaaGreatDoor
open Go.RowKit
def turnL (a b:Nat) (l:List Nat):List Nat:=l.map fun x=>if x=a then b else x
def spCommit (l:List Nat):List Nat:=turnL 3 0 (turnL 2 1 l)
def spBack (l:List Nat):List Nat:=turnL 3 1 (turnL 2 0 l)
theorem turn_one {a b:Nat} {l:List Nat} {k x:Nat} (hx:l[k]? = some x):(turnL a b (l.take k) ++ l.drop k).set k (if x=a then b else x)=turnL a b (l.take (k+1)) ++ l.drop (k+1):=by
  obtain ⟨hlt,hxe⟩:=List.getElem?_eq_some_iff.1 hx
  rw [take_one l k x hx]
  unfold turnL
  rw [List.map_append,List.set_append_right _ _ (by simp;omega)]
  have e:l.drop k=x :: l.drop (k+1):=by rw [List.drop_eq_getElem_cons hlt,hxe]
  rw [e]
  simp only [List.length_map,List.length_take]
  rw [show k - min k l.length=0 by omega]
  simp
theorem turn_at {a b:Nat} {l:List Nat} {k x:Nat} (hx:l[k]? = some x):(turnL a b (l.take k) ++ l.drop k)[k]? = some x:=by
  have hlt:=(List.getElem?_eq_some_iff.1 hx).1
  rw [List.getElem?_append_right (by simp [turnL];omega)]
  simp only [turnL,List.length_map,List.length_take,List.getElem?_drop]
  rw [show k+(k - min k l.length)=k by omega];exact hx
theorem turn_skip {a b:Nat} {l:List Nat} {k x:Nat} (hx:l[k]? = some x) (hn:x ≠ a):turnL a b (l.take (k+1)) ++ l.drop (k+1)=turnL a b (l.take k) ++ l.drop k:=by
  obtain ⟨hlt,hxe⟩:=List.getElem?_eq_some_iff.1 hx
  rw [take_one l k x hx]
  have e:l.drop k=x :: l.drop (k+1):=by rw [List.drop_eq_getElem_cons hlt,hxe]
  rw [e]
  unfold turnL
  simp [hn]
theorem turn_len (a b:Nat) (l:List Nat) (k:Nat):(turnL a b (l.take k) ++ l.drop k).length=l.length:=by simp [turnL];omega
set_option maxRecDepth 100000 in
theorem turn_any (w:World) (b b2:Nat) (l:List Nat) (h:SpR w b b2 l) (x y:Nat) (hx4:x < 4) (_hy4:y < 4) :
    Calls Tryz.prog 87 #[.pointer (some ⟨b,0,none⟩),.int .i64 (x:Int),.int .i64 (y:Int)] w fun e w'=>e=.returned (.tuple #[])∧SpR w' b b2 (turnL x y l)∧Mods (spF b b2) w w':=by
  have hl:=h.len
  have hl2:=h.len2
  have c0:=h.own.cell (o:=0) (v:=.slice (some ⟨b2,0,none⟩) l.length l.length) rfl
  have HS:=Lib.hid h
  clear h
  go_enter Tryz.func87, Tryz.ntmps87
  go_wp2
  go_loopg [15] l.length (fun m i wr=>∃ k:Nat,k+m=l.length∧i=.int .i64 k∧Hid (SpR wr b b2 (turnL x y (l.take k) ++ l.drop k)∧Mods (spF b b2) w wr))
  case atStart=>exact ⟨0,by omega,rfl,Lib.hid ⟨by simpa [turnL] using HS.out,Mods.refl _ _⟩⟩
  case round =>
    obtain ⟨k,hk,rfl,HQ⟩:=hrel
    by_cases hlt:k < l.length
    · obtain ⟨v,hv⟩:∃ v,l[k]? = some v:=⟨_,List.getElem?_eq_getElem hlt⟩
      have c0:=HQ.out.1.own.cell (o:=0) rfl
      rw [turn_len] at c0
      have c1:=HQ.out.1.row.cell (spCells_at _ k v (turn_at hv))
      have f1:=HQ.out.1.row.frozen k
      have HV:=Lib.hid hv
      clear hv
      by_cases hvx:v=x
      · subst hvx
        have HN:Hid (SpR (wr.setCell ⟨b2,k,none⟩ (.int .i64 (y:Int))) b b2 (turnL v y (l.take (k+1)) ++ l.drop (k+1))∧Mods (spF b b2) w (wr.setCell ⟨b2,k,none⟩ (.int .i64 (y:Int)))):=Lib.hid ⟨by
          have:=HQ.out.1.set k y
          have e:=turn_one (a:=v) (b:=y) HV.out
          rw [if_pos rfl] at e
          rw [e] at this;exact this,HQ.out.2.trans (Mods.at _ _ b2 k _ (.inr rfl))⟩
        go_wp2
        go_roundg (gk - 1)
        case measure=>omega
        case rel=>exact ⟨k+1,by omega,by go_num,HN⟩
      · have hvi:¬ (v:Int)=(x:Int):=by omega
        go_wp2
        go_roundg (gk - 1)
        case measure=>omega
        case rel=>exact ⟨k+1,by omega,by go_num,Lib.hid (by rw [turn_skip HV.out hvx];exact HQ.out)⟩
    · go_wp2
      go_end0
      have:=HQ.out
      rw [List.take_of_length_le (by omega),List.drop_of_length_le (by omega),List.append_nil] at this
      exact ⟨rfl,this.1,this.2⟩
theorem Commit_any (w:World) (b b2:Nat) (l:List Nat) (h:SpR w b b2 l) :
    Calls Tryz.prog 48 #[.pointer (some ⟨b,0,none⟩)] w fun e w'=>e=.returned (.tuple #[])∧SpR w' b b2 (spCommit l)∧Mods (spF b b2) w w':=by
  have H1:=turn_any w b b2 l h 2 1 (by omega) (by omega)
  change Calls Tryz.prog 87 #[.pointer (some ⟨b,0,none⟩),.int .i64 2,.int .i64 1] _ _ at H1
  have H1:=Lib.hid H1
  clear h
  go_enter Tryz.func48, Tryz.ntmps48
  go_wp2_with fail
  refine H1.out.mono ?_
  rintro e w1 ⟨rfl,hS1,hm1⟩
  have H2:=turn_any w1 b b2 _ hS1 3 0 (by omega) (by omega)
  change Calls Tryz.prog 87 #[.pointer (some ⟨b,0,none⟩),.int .i64 3,.int .i64 0] _ _ at H2
  have H2:=Lib.hid H2
  have HM1:=Lib.hid hm1
  clear hS1 hm1
  go_wp2_with fail
  refine H2.out.mono ?_
  rintro e w2 ⟨rfl,hS2,hm2⟩
  have HS2:=Lib.hid hS2
  have HM2:=Lib.hid (HM1.out.trans hm2)
  clear hS2 hm2
  go_wp2_with fail
  go_end0
  exact ⟨rfl,HS2.out,HM2.out⟩
section
variable {P F:Nat→Prop} {ad:Nat→Addr} {w:World} {c s:Nat} {G:GA} {l:List Nat}
theorem pgCommit (hL:Env F ad w) (hP:∀ k,P k→F k) (h:PgR F w P c s G l) :
    Calls Tryz.prog 48 #[.pointer (some ⟨s,0,none⟩)] w (PgDone F P ad w c s G (spCommit l) (fun _ _ e=>e=.returned (.tuple #[]))):=by
  obtain ⟨d,sb,bvs,Pd,b2,C,h1,h2,h3,h4,h5,h6,h7⟩:=h
  refine (Commit_any w s b2 l h5).mono ?_
  rintro e w' ⟨rfl,k2,k3⟩
  obtain ⟨q1,q2⟩:=PgR.space hL hP h1 h2 h3 h4 h6 h7 k2 k3
  exact ⟨P,F,q1,q2,rfl⟩
end
theorem Rollback_any (w:World) (b b2:Nat) (l:List Nat) (h:SpR w b b2 l) :
    Calls Tryz.prog 39 #[.pointer (some ⟨b,0,none⟩)] w fun e w'=>e=.returned (.tuple #[])∧SpR w' b b2 (spBack l)∧Mods (spF b b2) w w':=by
  have H1:=turn_any w b b2 l h 2 0 (by omega) (by omega)
  change Calls Tryz.prog 87 #[.pointer (some ⟨b,0,none⟩),.int .i64 2,.int .i64 0] _ _ at H1
  have H1:=Lib.hid H1
  clear h
  go_enter Tryz.func39, Tryz.ntmps39
  go_wp2_with fail
  refine H1.out.mono ?_
  rintro e w1 ⟨rfl,hS1,hm1⟩
  have H2:=turn_any w1 b b2 _ hS1 3 1 (by omega) (by omega)
  change Calls Tryz.prog 87 #[.pointer (some ⟨b,0,none⟩),.int .i64 3,.int .i64 1] _ _ at H2
  have H2:=Lib.hid H2
  have HM1:=Lib.hid hm1
  clear hS1 hm1
  go_wp2_with fail
  refine H2.out.mono ?_
  rintro e w2 ⟨rfl,hS2,hm2⟩
  have HS2:=Lib.hid hS2
  have HM2:=Lib.hid (HM1.out.trans hm2)
  clear hS2 hm2
  go_wp2_with fail
  go_end0
  exact ⟨rfl,HS2.out,HM2.out⟩
section
variable {P F:Nat→Prop} {ad:Nat→Addr} {w:World} {c s:Nat} {G:GA} {l:List Nat}
theorem pgBack (hL:Env F ad w) (hP:∀ k,P k→F k) (h:PgR F w P c s G l) :
    Calls Tryz.prog 39 #[.pointer (some ⟨s,0,none⟩)] w (PgDone F P ad w c s G (spBack l) (fun _ _ e=>e=.returned (.tuple #[]))):=by
  obtain ⟨d,sb,bvs,Pd,b2,C,h1,h2,h3,h4,h5,h6,h7⟩:=h
  refine (Rollback_any w s b2 l h5).mono ?_
  rintro e w' ⟨rfl,k2,k3⟩
  obtain ⟨q1,q2⟩:=PgR.space hL hP h1 h2 h3 h4 h6 h7 k2 k3
  exact ⟨P,F,q1,q2,rfl⟩
end
end Go.Proofs.YtphafjmdhmpkbaaGreatDoor
