/- With, step by step. Plain. -/
import Derived.Test.YtphafjmdhmpkbaaGreatDoorK02
namespace Go.Proofs.YtphafjmdhmpkbaaGreatDoor
def WthI (key value:ByteArray) (over:Bool) (l:List PairS) (i:Nat) (done:Bool) (out:List PairS):Prop :=
  out.length+(if done then 0 else 1)≤i+1∧out ++ (if done then l.drop i else withP key value over (l.drop i))=withP key value over l
section
variable {key value:ByteArray} {over:Bool} {l out:List PairS} {i:Nat} {x:PairS}
theorem WthI.start:WthI key value over l 0 false []:=⟨by simp,by simp⟩
theorem drop_of {α:Type} {l:List α} {i:Nat} {x:α} (h:l[i]? = some x):l.drop i=x :: l.drop (i+1):=by
  obtain ⟨hi,rfl⟩:=List.getElem?_eq_some_iff.1 h
  exact List.drop_eq_getElem_cons hi
theorem WthI.pass (h:WthI key value over l i true out) (hx:l[i]? = some x):WthI key value over l (i+1) true (out ++ [x]):=by
  obtain ⟨h1,h2⟩:=h
  rw [drop_of hx] at h2
  exact ⟨by simp at h1 ⊢;omega,by simpa using h2⟩
theorem WthI.lt (h:WthI key value over l i false out) (hx:l[i]? = some x) (hl:ltS x.1 key=true):WthI key value over l (i+1) false (out ++ [x]):=by
  obtain ⟨h1,h2⟩:=h
  rw [drop_of hx] at h2
  simp only [withP,hl] at h2
  exact ⟨by simp at h1 ⊢;omega,by simpa using h2⟩
theorem WthI.gt (h:WthI key value over l i false out) (hx:l[i]? = some x) (hl:ltS x.1 key=false) (hk:x.1 ≠ key):WthI key value over l (i+1) true (out ++ [(key,value)] ++ [x]):=by
  obtain ⟨h1,h2⟩:=h
  rw [drop_of hx] at h2
  simp only [withP,hl,hk] at h2
  exact ⟨by simp at h1 ⊢;omega,by simpa using h2⟩
theorem WthI.eqO (h:WthI key value true l i false out) (hx:l[i]? = some x) (hk:x.1=key):WthI key value true l (i+1) true (out ++ [(key,value)]):=by
  obtain ⟨h1,h2⟩:=h
  rw [drop_of hx] at h2
  simp only [withP,hk,ltS_irrefl] at h2
  exact ⟨by simp at h1 ⊢;omega,by simpa using h2⟩
theorem WthI.eqN (h:WthI key value false l i false out) (hx:l[i]? = some x) (hk:x.1=key):WthI key value false l (i+1) true (out ++ [x]):=by
  obtain ⟨h1,h2⟩:=h
  rw [drop_of hx] at h2
  simp only [withP,hk,ltS_irrefl] at h2
  exact ⟨by simp at h1 ⊢;omega,by simpa using h2⟩
theorem WthI.done (h:WthI key value over l i true out) (hi:l.length≤i):out=withP key value over l:=by
  obtain ⟨h1,h2⟩:=h
  rw [List.drop_eq_nil_of_le hi] at h2
  simpa using h2
theorem WthI.last (h:WthI key value over l i false out) (hi:l.length≤i):out ++ [(key,value)]=withP key value over l:=by
  obtain ⟨h1,h2⟩:=h
  rw [List.drop_eq_nil_of_le hi] at h2
  simpa [withP] using h2
end
end Go.Proofs.YtphafjmdhmpkbaaGreatDoor
