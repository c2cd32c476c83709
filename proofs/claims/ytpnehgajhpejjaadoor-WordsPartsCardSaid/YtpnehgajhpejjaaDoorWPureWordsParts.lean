import Derived.Test.YtpnehgajhpejjaaDoorWStatWordsParts
import Derived.Test.YtpnehgajhpejjaaDoorWV2
/- Of two texts, the first of which can be parsed: both, one behind the other, have the events of both, or the fault of the second, as many lines further on. -/
namespace Go.Proofs.YtpnehgajhpejjaaDoor.W
open Go.RowKit Go.Proofs.YtpnehgajhpejjaaDoorW.PrintWords
set_option maxRecDepth 100000
set_option linter.unusedVariables false
theorem wrs (a b : Int) (h : 0 ≤ a ∧ a ≤ 100000) (h2 : 0 ≤ b ∧ b ≤ 100000) : wrap64 (a + b) = a + b := by
  simp only [wrap64]
  omega
theorem WordsParts : pledgelaw39_WordsParts.Pure := by
  intro s t hs0 ht0
  suffices h : Ev (fun k => pledgelaw39_WordsParts.f k s t) true from (by obtain ⟨K, hK⟩ := h; exact ⟨K, hK K (Nat.le_refl _)⟩)
  have hw := works_ev
  unfold pledgelaw39_WordsParts.f
  by_cases hc : s.size ≤ 3000 ∧ t.size ≤ 3000
  · simp only [if_pos hc]
    obtain ⟨h3, h4⟩ := hc
    have hsl : s.data.toList.length = s.size := by rw [Array.length_toList]; rfl
    have htl : t.data.toList.length = t.size := by rw [Array.length_toList]; rfl
    have r1 := parse_is s.data.toList (by omega)
    have r2 := parse_is t.data.toList (by omega)
    have r3 := parse_is (s.data.toList ++ t.data.toList) (by rw [List.length_append]; omega)
    rw [ofL_of] at r1 r2
    rw [← ofL_app, ofL_of, ofL_of] at r3
    have hf := pL_fine t.data.toList s.data.toList.length s.data.toList [] (Nat.le_refl _)
    have hsh := pL_shift (pL (splitL 10 s.data.toList) []).1 (splitL 10 t.data.toList) []
    have b1 := pL_small (splitL 10 s.data.toList) []
    have b2 := pL_small (splitL 10 t.data.toList) []
    have b3 := pL_le (splitL 10 t.data.toList) []
    have b4 := pL_ge (splitL 10 t.data.toList) []
    have b5 := (splitL_sizes 10 s.data.toList).2
    have b6 := (splitL_sizes 10 t.data.toList).2
    simp only [List.length_nil, List.append_nil] at hsh b1 b2 b3 b4
    refine Ev.bind r1 (Ev.bind r2 (Ev.bind r3 ?_))
    generalize pL (splitL 10 (s.data.toList ++ t.data.toList)) [] = P3 at *
    generalize pL (splitL 10 t.data.toList) (pL (splitL 10 s.data.toList) []).1 = P4 at *
    generalize pL (splitL 10 s.data.toList) [] = P1 at *
    generalize pL (splitL 10 t.data.toList) [] = P2 at *
    obtain ⟨a, n, e⟩ := P1
    obtain ⟨b, m, f⟩ := P2
    dsimp only at *
    by_cases h0 : e = 0
    · obtain ⟨rfl, rfl⟩ := hf h0
      have hws := wrs (a.length : Int) m (by omega) (by omega)
      by_cases hg : (a.length : Int) + m ≤ 1000
      · have hq : e = 0 ∧ wrap64 ((a.length : Int) + m) ≤ 1000 := ⟨h0, by rw [hws]; exact hg⟩
        simp only [if_pos hq]
        obtain ⟨g1, g2⟩ := hsh hg
        by_cases hf0 : f = 0
        · have e3 := g1 hf0
          subst e3
          dsimp only
          have ha1 : (a.length ≤ 100000) = True := eq_true (by omega)
          have hb1 : (b.length ≤ 100000) = True := eq_true (by omega)
          simp only [if_pos hf0, hws, ha1, hb1, and_self, if_true]
          refine Ev.bind (sameAll_self (a ++ b) (by rw [List.length_append]; omega)) ?_
          simp only [if_true]
          exact hw
        · have e3 := g2 hf0
          subst e3
          dsimp only
          simp only [if_neg hf0, hws, List.length_nil, and_self, if_true]
          exact hw
      · have hq : ¬ (e = 0 ∧ wrap64 ((a.length : Int) + m) ≤ 1000) := fun h => hg (by have := h.2; rw [hws] at this; exact this)
        simp only [if_neg hq]
        exact hw
    · have hq : ¬ (e = 0 ∧ wrap64 (n + m) ≤ 1000) := fun h => h0 h.1
      simp only [if_neg hq]
      exact hw
  · simp only [if_neg hc]
    exact hw
end Go.Proofs.YtpnehgajhpejjaaDoor.W
