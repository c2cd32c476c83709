import Derived.Lib.Split
import Derived.Lib.SplitLaws
import Derived.Lib.CountLaws
import Derived.Lib.IndexBytes
import Derived.Lib.IndexLaws
import Derived.Lib.Strings
/- strings.Split at one byte, as a plain function on lists. -/
namespace Go.Proofs.YtpnehgajhpejjaaDoor
open Go.Lib
def splitL (c : UInt8) : List UInt8 → List (List UInt8)
  | [] => [[]]
  | x :: l => if x = c then [] :: splitL c l else match splitL c l with
    | [] => [[x]]
    | h :: t => (x :: h) :: t
theorem splitL_app (c : UInt8) (b : List UInt8) : ∀ a : List UInt8, c ∉ a → splitL c (a ++ c :: b) = a :: splitL c b
  | [], _ => by simp [splitL]
  | x :: a, h => by
    have h1 : x ≠ c := fun e => h (by simp [e])
    have h2 := splitL_app c b a (fun hm => h (List.mem_cons_of_mem _ hm))
    simp [splitL, h1, h2]
theorem splitL_none (c : UInt8) : ∀ a : List UInt8, c ∉ a → splitL c a = [a]
  | [], _ => rfl
  | x :: a, h => by
    have h1 : x ≠ c := fun e => h (by simp [e])
    have h2 := splitL_none c a (fun hm => h (List.mem_cons_of_mem _ hm))
    simp [splitL, h1, h2]
theorem splitL_ne (c : UInt8) (l : List UInt8) : splitL c l ≠ [] := by
  cases l with
  | nil => simp [splitL]
  | cons x l =>
    unfold splitL
    split
    · simp
    · split <;> simp
theorem splitB_one (c : UInt8) : ∀ (k : Nat) (s : ByteArray), countB s ⟨#[c]⟩ = k → (splitB ⟨#[c]⟩ 0 k s).map (·.data.toList) = splitL c s.data.toList := by
  intro k
  induction k with
  | zero =>
    intro s hk
    have hm : indexB s ⟨#[c]⟩ = -1 := by
      rcases indexB_cases s ⟨#[c]⟩ with h | ⟨i, h, _⟩
      · exact h
      · have := countB_hit s ⟨#[c]⟩ i (Nat.le_refl 1) h
        omega
    rw [splitB_zero]
    have h2 : indexByte s.data.toList c = -1 := by rw [← index_one]; exact hm
    have h3 : c ∉ s.data.toList := fun hc => by
      obtain ⟨j, hj, e⟩ := List.mem_iff_getElem.1 hc
      exact indexByte_none h2 j (by rw [List.getElem?_eq_getElem hj, e])
    simp [splitL_none c _ h3]
  | succ k ih =>
    intro s hk
    rcases indexB_cases s ⟨#[c]⟩ with h | ⟨i, h, hi⟩
    · have := countB_miss s ⟨#[c]⟩ h
      omega
    · have hc := countB_hit s ⟨#[c]⟩ i (Nat.le_refl 1) h
      have hs1 : (⟨#[c]⟩ : ByteArray).size = 1 := rfl
      rw [hs1] at hi hc
      have h2 : indexByte s.data.toList c = i := by rw [← index_one]; exact h
      obtain ⟨g1, g2⟩ := indexByte_some h2
      have hlt : i < s.data.toList.length := (List.getElem?_eq_some_iff.1 g1).1
      have e0 : s.data.toList = s.data.toList.take i ++ c :: s.data.toList.drop (i + 1) := by
        have := List.take_append_drop i s.data.toList
        rw [List.drop_eq_getElem_cons hlt] at this
        rw [List.getElem?_eq_getElem hlt] at g1
        rw [Option.some.inj g1] at this
        exact this.symm
      have hn : c ∉ s.data.toList.take i := fun hm => by
        obtain ⟨j, hj, e⟩ := List.mem_iff_getElem.1 hm
        have hj' : j < i := by
          have := List.length_take_le i s.data.toList
          omega
        rw [List.getElem_take] at e
        exact g2 j hj' (by rw [List.getElem?_eq_getElem (by omega), e])
      unfold splitB
      rw [if_neg (by rw [h]; simp), h, hs1, List.map_cons, ih _ (by simp only [Int.toNat_natCast]; omega)]
      have e1 : (s.extract 0 ((i : Int).toNat + 0)).data.toList = s.data.toList.take i := by
        rw [extract_data, Int.toNat_natCast]
        simp
      have e2 : (s.extract ((i : Int).toNat + 1) s.size).data.toList = s.data.toList.drop (i + 1) := by
        rw [extract_data, Int.toNat_natCast, List.take_of_length_le (by simp only [List.length_drop, Array.length_toList]; exact Nat.le_refl _)]
      rw [e1, e2]
      conv => rhs; rw [e0]
      rw [splitL_app c _ _ hn]
theorem split_is (c : UInt8) (s : ByteArray) : (splitB ⟨#[c]⟩ 0 (countB s ⟨#[c]⟩) s).map (·.data.toList) = splitL c s.data.toList := splitB_one c _ s rfl
end Go.Proofs.YtpnehgajhpejjaaDoor
