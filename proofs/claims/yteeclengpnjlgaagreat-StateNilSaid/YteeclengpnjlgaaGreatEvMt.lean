import Derived.Test.YteeclengpnjlgaaGreatEvM
import Derived.Test.YteeclengpnjlgaaGreatWTab
/- A closed run, reckoned: the steps of a region, checked by its table. -/
namespace Go.Proofs.YteeclengpnjlgaaGreat.Ev
set_option linter.unusedVariables false
set_option linter.unusedSimpArgs false
open Go.RowKit Go.Proofs.YteeclengpnjlgaaGreatW.PrintLast
abbrev Tab := List (List Nat × List Nat)
def anyS (T : Tab) (l : List Bool) (i : Nat) : Bool := freeT T l i && readyAt T l i
def takeS (T : Tab) (B : List Nat) (ds : List Nat) (l : List Bool) (i : Nat) : Bool := freeT T l i && readyAt T l i && closedT T l && lastW T B l ds i
def aloneS (T : Tab) (l : List Bool) (i : Nat) : Bool := readyT T l == [i]
section
variable {ops : Array Oper} {T : Tab} {B ds : List Nat}
theorem set_self (l : Array Bool) (i : Nat) : (l.toList.set i true == (l.setIfInBounds i true).toList) = true := by
  rw [Array.toList_setIfInBounds, beq_self_eq_true]
theorem anyS_ok {l : Array Bool} {i : Nat} (hT : rtab .any ops = (true, T)) (h : anyS T l.toList i = true) : anyB .any ops l (l.setIfInBounds i true) i = true := by
  refine any_of hT ?_
  unfold anyS at h
  unfold anyT
  rw [set_self, Bool.and_true]
  exact h
theorem takeS_ok {l : Array Bool} {i : Nat} (hT : rtab .any ops = (true, T)) (hB : waitsOk T B = true) (h : takeS T B ds l.toList i = true) : takeB .any ops ds l (l.setIfInBounds i true) i = true := by
  refine take_ofW hT hB ?_
  unfold takeS at h
  unfold takeW
  rw [set_self, Bool.and_true]
  exact h
theorem aloneS_ok {l : Array Bool} {i : Nat} (hT : rtab .any ops = (true, T)) (h : aloneS T l.toList i = true) : readyB .any ops l (l.setIfInBounds i true) i = true := by
  refine Go.Proofs.YteeclengpnjlgaaGreatW.PrintLast.one_of hT ?_
  rw [set_self, Bool.and_true]
  exact h
theorem ready_S {l : Array Bool} (hT : rtab .any ops = (true, T)) : Region.ready .any ops l = readyT T l.toList := by
  rw [ready_eq, hT]
theorem toList_set (l : Array Bool) (i : Nat) : l.toList.set i true = (l.setIfInBounds i true).toList := (Array.toList_setIfInBounds ..).symm
def chkRegS (T : Tab) (B ds : List Nat) : List (Nat × Nat) → List Bool → Bool
  | [], l => readyT T l == []
  | (i, k) :: r, l => (match k with
      | 0 => anyS T l i
      | 1 => takeS T B ds l i
      | 2 => aloneS T l i && !ds.contains i
      | 3 => aloneS T l i && ds.contains i && noTE r
      | _ => false) && chkRegS T B ds r (l.set i true)
theorem chkRegS_ok (hT : rtab .any ops = (true, T)) (hB : waitsOk T B = true) : ∀ (st : List (Nat × Nat)) (l : Array Bool), chkRegS T B ds st l.toList = true → chkReg ops ds st l = true
  | [], l, h => by
    unfold chkReg
    have h : (readyT T l.toList == []) = true := h
    rw [ready_S hT, show readyT T l.toList = [] by simpa using h]
    rfl
  | (i, k) :: r, l, h => by
    unfold chkRegS at h
    unfold chkReg
    rw [Bool.and_eq_true] at h ⊢
    refine ⟨?_, chkRegS_ok hT hB r _ (by rw [← toList_set]; exact h.2)⟩
    match k, h.1 with
    | 0, h => exact anyS_ok hT h
    | 1, h => exact takeS_ok hT hB h
    | 2, h =>
      have h : (aloneS T l.toList i && !ds.contains i) = true := h
      rw [Bool.and_eq_true] at h
      show (readyB .any ops l (l.setIfInBounds i true) i && !ds.contains i) = true
      rw [aloneS_ok hT h.1, h.2]
      rfl
    | 3, h =>
      have h : (aloneS T l.toList i && ds.contains i && noTE r) = true := h
      rw [Bool.and_eq_true, Bool.and_eq_true] at h
      show (readyB .any ops l (l.setIfInBounds i true) i && ds.contains i && noTE r) = true
      rw [aloneS_ok hT h.1.1, h.1.2, h.2]
      rfl
    | k + 4, h => simp at h
def chkFlS (T : Tab) (B ds : List Nat) (ops : Array Oper) (j : Nat) : List (Nat × Nat) → List Bool → Bool
  | [], _ => false
  | (i, k) :: r, l => match k with
      | 0 => anyS T l i && neB (dstOf ops i) (dstOf ops j) && chkFlS T B ds ops j r (l.set i true)
      | 1 => takeS T B ds l i && neB (dstOf ops i) (dstOf ops j) && chkFlS T B ds ops j r (l.set i true)
      | 2 => aloneS T l i && !ds.contains i && neB (dstOf ops i) (dstOf ops j) && chkFlS T B ds ops j r (l.set i true)
      | 5 => aloneS T l i && !ds.contains i && neB (dstOf ops i) (dstOf ops j) && chkFlS T B ds ops j r (l.set i true)
      | 6 => Nat.beq i j && chkRegS T B ds r l
      | _ => false
theorem chkFlS_ok (hT : rtab .any ops = (true, T)) (hB : waitsOk T B = true) {j : Nat} : ∀ (st : List (Nat × Nat)) (l : Array Bool), chkFlS T B ds ops j st l.toList = true → chkFl ops ds j st l = true
  | [], l, h => by simp [chkFlS] at h
  | (i, k) :: r, l, h => by
    have ih := fun h => chkFlS_ok hT hB (j := j) r (l.setIfInBounds i true) h
    rw [← toList_set] at ih
    match k, h with
    | 0, h =>
      have h : (anyS T l.toList i && neB (dstOf ops i) (dstOf ops j) && chkFlS T B ds ops j r (l.toList.set i true)) = true := h
      rw [Bool.and_eq_true, Bool.and_eq_true] at h
      show (anyB .any ops l (l.setIfInBounds i true) i && neB (dstOf ops i) (dstOf ops j) && chkFl ops ds j r (l.setIfInBounds i true)) = true
      rw [anyS_ok hT h.1.1, h.1.2, ih h.2]
      rfl
    | 1, h =>
      have h : (takeS T B ds l.toList i && neB (dstOf ops i) (dstOf ops j) && chkFlS T B ds ops j r (l.toList.set i true)) = true := h
      rw [Bool.and_eq_true, Bool.and_eq_true] at h
      show (takeB .any ops ds l (l.setIfInBounds i true) i && neB (dstOf ops i) (dstOf ops j) && chkFl ops ds j r (l.setIfInBounds i true)) = true
      rw [takeS_ok hT hB h.1.1, h.1.2, ih h.2]
      rfl
    | 2, h =>
      have h : (aloneS T l.toList i && !ds.contains i && neB (dstOf ops i) (dstOf ops j) && chkFlS T B ds ops j r (l.toList.set i true)) = true := h
      rw [Bool.and_eq_true, Bool.and_eq_true, Bool.and_eq_true] at h
      show (readyB .any ops l (l.setIfInBounds i true) i && !ds.contains i && neB (dstOf ops i) (dstOf ops j) && chkFl ops ds j r (l.setIfInBounds i true)) = true
      rw [aloneS_ok hT h.1.1.1, h.1.1.2, h.1.2, ih h.2]
      rfl
    | 5, h =>
      have h : (aloneS T l.toList i && !ds.contains i && neB (dstOf ops i) (dstOf ops j) && chkFlS T B ds ops j r (l.toList.set i true)) = true := h
      rw [Bool.and_eq_true, Bool.and_eq_true, Bool.and_eq_true] at h
      show (readyB .any ops l (l.setIfInBounds i true) i && !ds.contains i && neB (dstOf ops i) (dstOf ops j) && chkFl ops ds j r (l.setIfInBounds i true)) = true
      rw [aloneS_ok hT h.1.1.1, h.1.1.2, h.1.2, ih h.2]
      rfl
    | 6, h =>
      have h : (Nat.beq i j && chkRegS T B ds r l.toList) = true := h
      rw [Bool.and_eq_true] at h
      show (Nat.beq i j && chkReg ops ds r l) = true
      rw [h.1, chkRegS_ok hT hB r l h.2]
      rfl
    | 3, h => simp [chkFlS] at h
    | 4, h => simp [chkFlS] at h
    | k + 7, h => simp [chkFlS] at h
def chkOneS (T : Tab) (B ds : List Nat) (ops : Array Oper) : List (Nat × Nat) → List Bool → Bool
  | [], _ => false
  | (i, k) :: r, l => match k with
      | 0 => anyS T l i && chkOneS T B ds ops r (l.set i true)
      | 1 => takeS T B ds l i && chkOneS T B ds ops r (l.set i true)
      | 2 => aloneS T l i && !ds.contains i && chkOneS T B ds ops r (l.set i true)
      | 5 => (match flIx r with
        | some j => (readyT T l == [i, j] || readyT T l == [j, i]) && !ds.contains i && !ds.contains j && chkFlS T B ds ops j ((i, 5) :: r) (l.set j true) && chkOneS T B ds ops r (l.set i true)
        | none => false)
      | 6 => aloneS T l i && !ds.contains i && chkRegS T B ds r (l.set i true)
      | _ => false
theorem chkOneS_ok (hT : rtab .any ops = (true, T)) (hB : waitsOk T B = true) : ∀ (st : List (Nat × Nat)) (l : Array Bool), chkOneS T B ds ops st l.toList = true → chkOne ops ds st l = true
  | [], l, h => by simp [chkOneS] at h
  | (i, k) :: r, l, h => by
    have ih := fun h => chkOneS_ok hT hB r (l.setIfInBounds i true) h
    rw [← toList_set] at ih
    match k, h with
    | 0, h =>
      have h : (anyS T l.toList i && chkOneS T B ds ops r (l.toList.set i true)) = true := h
      rw [Bool.and_eq_true] at h
      show (anyB .any ops l (l.setIfInBounds i true) i && chkOne ops ds r (l.setIfInBounds i true)) = true
      rw [anyS_ok hT h.1, ih h.2]
      rfl
    | 1, h =>
      have h : (takeS T B ds l.toList i && chkOneS T B ds ops r (l.toList.set i true)) = true := h
      rw [Bool.and_eq_true] at h
      show (takeB .any ops ds l (l.setIfInBounds i true) i && chkOne ops ds r (l.setIfInBounds i true)) = true
      rw [takeS_ok hT hB h.1, ih h.2]
      rfl
    | 2, h =>
      have h : (aloneS T l.toList i && !ds.contains i && chkOneS T B ds ops r (l.toList.set i true)) = true := h
      rw [Bool.and_eq_true, Bool.and_eq_true] at h
      show (readyB .any ops l (l.setIfInBounds i true) i && !ds.contains i && chkOne ops ds r (l.setIfInBounds i true)) = true
      rw [aloneS_ok hT h.1.1, h.1.2, ih h.2]
      rfl
    | 5, h =>
      unfold chkOneS at h
      unfold chkOne
      simp only at h ⊢
      cases hix : flIx r with
      | none => simp [hix] at h
      | some j =>
        simp only [hix, Bool.and_eq_true] at h ⊢
        obtain ⟨⟨⟨⟨c1, c2⟩, c3⟩, c4⟩, c5⟩ := h
        refine ⟨⟨⟨⟨?_, c2⟩, c3⟩, ?_⟩, ih c5⟩
        · rw [ready_S hT]; exact c1
        · exact chkFlS_ok hT hB ((i, 5) :: r) _ (by rw [← toList_set]; exact c4)
    | 6, h =>
      have h : (aloneS T l.toList i && !ds.contains i && chkRegS T B ds r (l.toList.set i true)) = true := h
      rw [Bool.and_eq_true, Bool.and_eq_true] at h
      show (readyB .any ops l (l.setIfInBounds i true) i && !ds.contains i && chkReg ops ds r (l.setIfInBounds i true)) = true
      rw [aloneS_ok hT h.1.1, h.1.2, chkRegS_ok hT hB r _ (by rw [← toList_set]; exact h.2)]
      rfl
    | 3, h => simp [chkOneS] at h
    | 4, h => simp [chkOneS] at h
    | k + 7, h => simp [chkOneS] at h
/-- The steps are sound for these operations. -/
def stepsOk (ops : Array Oper) (T : Tab) (B ds : List Nat) (st : List (Nat × Nat)) : Bool := (rtab .any ops == (true, T)) && waitsOk T B && (chkRegS T B ds st (List.replicate ops.size false) || chkOneS T B ds ops st (List.replicate ops.size false))
theorem stepsOk_ok {st : List (Nat × Nat)} (h : stepsOk ops T B ds st = true) : chkReg ops ds st (Array.replicate ops.size false) = true ∨ chkOne ops ds st (Array.replicate ops.size false) = true := by
  unfold stepsOk at h
  rw [Bool.and_eq_true, Bool.and_eq_true, Bool.or_eq_true, beq_iff_eq] at h
  obtain ⟨⟨hT, hB⟩, h⟩ := h
  have e : List.replicate ops.size false = (Array.replicate ops.size false).toList := by simp
  rw [e] at h
  rcases h with h | h
  · exact .inl (chkRegS_ok hT hB _ _ h)
  · exact .inr (chkOneS_ok hT hB _ _ h)
end
end Go.Proofs.YteeclengpnjlgaaGreat.Ev
