import Derived.Test.YtpnehgajhpejjaaDoorKStatKeyGood
/- The pure statement of KeyGood: sixteen numbers of articles and warehouses, run at each key that there is; no other key is met; of other numbers there is none. -/
namespace Go.Proofs.YtpnehgajhpejjaaDoor.K
open Go.RowKit Go.Proofs.YtpnehgajhpejjaaDoorW.PrintWords
set_option maxRecDepth 100000
theorem good_works : pledgelaw04_works.f 200 = some true := by kernel_rfl
def body (k : Nat) (a0 a1 : Int) (L L' : List S23) (a2_0 a2_1 a2_2 : Int) : Option Bool :=
  (key_Place.f k a0 a1 a2_0 a2_1 a2_2).bind fun bt188 => ((pledgeref04_Place.l0 k L 0 a2_0 a2_1 a2_2).bind fun t190 => ((key_Good.f k a0 a1 a2_0 a2_1 a2_2).bind fun t191 => ((pledgeref04_Good.f k a0 a1 a2_0 a2_1 a2_2).bind fun t192 => (if (t191 == t192) = true then ((key_Count.f a0 a1).bind fun t193 => (if t193 = (L.length : Int) then ((pledgeref04_Same.f k L' L).bind fun t197 => (if t197 = true then (if (bt188.2 == (decide (t190 ≥ 0))) = true then (if bt188.1 = (mx t190 0) then ((pledgelaw04_works.f k).bind fun t198 => (some t198)) else (some false)) else (some false)) else (some false))) else (some false))) else (some false)))))
theorem law_body {k : Nat} {a0 a1 : Int} {L L' : List S23} (h : pledgeref04_All.f k a0 a1 = some L) (h' : key_All.f k a0 a1 = some L') (a2_0 a2_1 a2_2 : Int) : pledgelaw04_KeyGood.f k a0 a1 a2_0 a2_1 a2_2 = body k a0 a1 L L' a2_0 a2_1 a2_2 := by
  unfold pledgelaw04_KeyGood.f body pledgeref04_Place.f
  rw [h, h']
  rfl
theorem place_none (L : List S23) (c0 c1 c2 : Int) (hL : L.length ≤ 100) (h : ∀ e ∈ L, ¬ (e.f0 = c0 ∧ e.f1 = c1 ∧ e.f2 = c2)) : ∀ (d : Nat) (i k : Nat), i + d = L.length → d < k → pledgeref04_Place.l0 k L i c0 c1 c2 = some (-1)
  | 0, i, k, hi, hk => by
    obtain ⟨k, rfl⟩ : ∃ m, k = m + 1 := ⟨k - 1, by omega⟩
    rw [pledgeref04_Place.l0, if_neg (by omega)]
  | d + 1, i, k, hi, hk => by
    obtain ⟨k, rfl⟩ : ∃ m, k = m + 1 := ⟨k - 1, by omega⟩
    have hlt : i < L.length := by omega
    have he : rd_T23 L i = L[i] := by simp [rd_T23, List.getD_eq_getElem?_getD, List.getElem?_eq_getElem hlt]
    have hn := h L[i] (List.getElem_mem hlt)
    have hw : wrap64 ((i : Int) + 1) = ((i + 1 : Nat) : Int) := by unfold wrap64; omega
    rw [pledgeref04_Place.l0, if_pos (by omega), if_pos (by omega), he, if_neg (by simpa [and_assoc] using hn), hw]
    exact place_none L c0 c1 c2 hL h d (i + 1) k (by omega) (by omega)
theorem law_none {a0 a1 : Int} {L L' : List S23} (h : pledgeref04_All.f 200 a0 a1 = some L) (h' : key_All.f 200 a0 a1 = some L') (hl : L.length ≤ 100) (hc : key_Count.f a0 a1 = some (L.length : Int)) (hs : pledgeref04_Same.f 200 L' L = some true) (c0 c1 c2 : Int)
    (g : key_Good.f 200 a0 a1 c0 c1 c2 = some false) (g' : pledgeref04_Good.f 200 a0 a1 c0 c1 c2 = some false) (hn : ∀ e ∈ L, ¬ (e.f0 = c0 ∧ e.f1 = c1 ∧ e.f2 = c2)) : pledgelaw04_KeyGood.f 200 a0 a1 c0 c1 c2 = some true := by
  rw [law_body h h']
  have hp : key_Place.f 200 a0 a1 c0 c1 c2 = some (0, false) := by unfold key_Place.f; rw [g]; rfl
  have hq : pledgeref04_Place.l0 200 L 0 c0 c1 c2 = some (-1) := place_none L c0 c1 c2 hl hn L.length 0 200 (by omega) (by omega)
  unfold body
  rw [hp, hq, g, g', hc, hs, good_works]
  simp only [Option.bind_some]
  simp [mx]
def rng : List (Int × Int × Int) := [1, 2, 3, 4].flatMap fun a => [0, 1, 2, 3].flatMap fun b => [0, 1, 2, 3].map fun c => (a, b, c)
theorem rng_mem {a b c : Int} (ha : 1 ≤ a ∧ a ≤ 4) (hb : 0 ≤ b ∧ b ≤ 3) (hc : 0 ≤ c ∧ c ≤ 3) : (a, b, c) ∈ rng := by
  have h1 : a = 1 ∨ a = 2 ∨ a = 3 ∨ a = 4 := by omega
  have h2 : b = 0 ∨ b = 1 ∨ b = 2 ∨ b = 3 := by omega
  have h3 : c = 0 ∨ c = 1 ∨ c = 2 ∨ c = 3 := by omega
  simp only [rng, List.mem_flatMap, List.mem_map, List.mem_cons, List.not_mem_nil, or_false]
  exact ⟨a, h1, b, h2, c, h3, rfl⟩
def chk (a b : Int) (L L' : List S23) : Bool := (rng.all fun c => body 200 a b L L' c.1 c.2.1 c.2.2 == some true) && (L.all fun e => decide (1 ≤ e.f0) && decide (e.f0 ≤ 4) && decide (0 ≤ e.f1) && decide (e.f1 ≤ 3) && decide (0 ≤ e.f2) && decide (e.f2 ≤ 3)) && decide (L.length ≤ 100)
theorem fine_not (a b : Int) (h : ¬ ((1 ≤ a ∧ a ≤ 4) ∧ 1 ≤ b ∧ b ≤ 4)) : key_fine.f a b = some false := by
  unfold key_fine.f
  (repeat' split) <;> first | rfl | (congr 1; simp; omega)
theorem fine_is (a b : Int) (h : (1 ≤ a ∧ a ≤ 4) ∧ 1 ≤ b ∧ b ≤ 4) : key_fine.f a b = some true := by
  unfold key_fine.f
  rw [if_pos h.1.1, if_pos h.1.2, if_pos h.2.1, decide_eq_true h.2.2]
theorem w_u8 {x : Int} (h : 0 ≤ x ∧ x ≤ 255) : wrap64 x = x := by unfold wrap64; omega
theorem kgood_none (a b c0 c1 c2 : Int) (h0 : 0 ≤ c0 ∧ c0 ≤ 255) (h1 : 0 ≤ c1 ∧ c1 ≤ 255) (h2 : 0 ≤ c2 ∧ c2 ≤ 255) (h : ¬ ((1 ≤ a ∧ a ≤ 4) ∧ 1 ≤ b ∧ b ≤ 4) ∨ ¬ (1 ≤ c0 ∧ c0 ≤ 4) ∨ 3 < c1 ∨ 3 < c2) : key_Good.f 200 a b c0 c1 c2 = some false := by
  have ht : ∀ x y z, key_Good.j0 200 b true x y z = some false := fun x y z => by
    show key_Good.j0 (199 + 1) b true x y z = some false
    rw [key_Good.j0, if_pos rfl]
  by_cases hf : (1 ≤ a ∧ a ≤ 4) ∧ 1 ≤ b ∧ b ≤ 4
  · unfold key_Good.f
    rw [fine_is a b hf, Option.bind_some, if_pos rfl]
    by_cases e0 : c0 < 1
    · rw [if_pos e0, ht]
    rw [if_neg e0]
    by_cases e1 : c0 > 4
    · rw [if_pos e1, ht]
    rw [if_neg e1, w_u8 h1]
    by_cases e2 : c1 ≥ a
    · rw [decide_eq_true e2, ht]
    rw [decide_eq_false e2]
    show key_Good.j0 (199 + 1) b false c0 c1 c2 = some false
    have h3 : 3 < c2 := by omega
    have n1 : ¬ c2 < b := by omega
    have n2 : (c2 == 0) = false := by simp; omega
    rw [key_Good.j0, if_neg (by decide), w_u8 h2, if_neg n1, n2]
    unfold key_both.f
    split
    · rfl
    · cases (c0 == 2) <;> rfl
  · unfold key_Good.f
    rw [fine_not a b hf, Option.bind_some, if_neg (by decide), ht]
theorem rgood_none (a b c0 c1 c2 : Int) (h0 : 0 ≤ c0 ∧ c0 ≤ 255) (h1 : 0 ≤ c1 ∧ c1 ≤ 255) (h2 : 0 ≤ c2 ∧ c2 ≤ 255) (k : Nat) (h : ¬ ((1 ≤ a ∧ a ≤ 4) ∧ 1 ≤ b ∧ b ≤ 4) ∨ ¬ (1 ≤ c0 ∧ c0 ≤ 4) ∨ 3 < c1 ∨ 3 < c2) : pledgeref04_Good.f (k + 1) a b c0 c1 c2 = some false := by
  have ht : ∀ x y z, pledgeref04_Good.j0 (k + 1) b true x y z = some false := fun x y z => by
    rw [pledgeref04_Good.j0, if_pos rfl]
  unfold pledgeref04_Good.f
  by_cases e0 : a < 1
  · rw [if_pos e0, ht]
  rw [if_neg e0]
  by_cases e1 : a > 4
  · rw [if_pos e1, ht]
  rw [if_neg e1]
  by_cases e2 : b < 1
  · rw [if_pos e2, ht]
  rw [if_neg e2]
  by_cases e3 : b > 4
  · rw [if_pos e3, ht]
  rw [if_neg e3, w_u8 h1]
  by_cases e4 : c1 ≥ a
  · rw [decide_eq_true e4, ht]
  rw [decide_eq_false e4, pledgeref04_Good.j0, if_neg (by decide), w_u8 h2]
  have h3 : ¬ (1 ≤ c0 ∧ c0 ≤ 4) ∨ 3 < c2 := by omega
  rcases h3 with h3 | h3
  · rw [if_neg (by omega), if_neg (by omega), if_neg (by omega), if_neg (by omega)]
  · have n1 : ¬ c2 < b := by omega
    have n2 : (c2 == 0) = false := by simp; omega
    rw [decide_eq_false n1, n2]
    (repeat' split) <;> rfl
theorem law_fine {a b : Int} (_hf : (1 ≤ a ∧ a ≤ 4) ∧ 1 ≤ b ∧ b ≤ 4) {L L' : List S23} (h : pledgeref04_All.f 200 a b = some L) (h' : key_All.f 200 a b = some L') (hc : key_Count.f a b = some (L.length : Int)) (hs : pledgeref04_Same.f 200 L' L = some true) (hk : chk a b L L' = true)
    (c0 c1 c2 : Int) (h0 : 0 ≤ c0 ∧ c0 ≤ 255) (h1 : 0 ≤ c1 ∧ c1 ≤ 255) (h2 : 0 ≤ c2 ∧ c2 ≤ 255) : pledgelaw04_KeyGood.f 200 a b c0 c1 c2 = some true := by
  simp only [chk, Bool.and_eq_true, decide_eq_true_eq, List.all_eq_true] at hk
  obtain ⟨⟨k1, k2⟩, k3⟩ := hk
  by_cases hr : (1 ≤ c0 ∧ c0 ≤ 4) ∧ c1 ≤ 3 ∧ c2 ≤ 3
  · rw [law_body h h']
    simpa using k1 _ (rng_mem hr.1 ⟨h1.1, hr.2.1⟩ ⟨h2.1, hr.2.2⟩)
  · refine law_none h h' k3 hc hs c0 c1 c2 (kgood_none a b c0 c1 c2 h0 h1 h2 (by omega)) (rgood_none a b c0 c1 c2 h0 h1 h2 199 (by omega)) fun e he hn => ?_
    have := k2 e he
    omega
theorem all_none (a b : Int) (hf : ¬ ((1 ≤ a ∧ a ≤ 4) ∧ 1 ≤ b ∧ b ≤ 4)) : pledgeref04_All.f 200 a b = some [] := by
  have hg : ∀ k c0 c1 c2, pledgeref04_Good.f (k + 1) a b (c0 % 256) (c1 % 256) (c2 % 256) = some false := fun k c0 c1 c2 => rgood_none a b _ _ _ (by omega) (by omega) (by omega) k (.inl hf)
  have l2 : ∀ (d k : Nat) (c0 c1 : Int), d ≤ 4 → 0 ≤ c1 → c1 ≤ 3 → d + 1 < k → pledgeref04_All.l2 k a b [] c0 c1 (4 - (d : Int)) = pledgeref04_All.l1 (k - d - 1) a b [] c0 (c1 + 1) := by
    intro d
    induction d with
    | zero =>
      intro k c0 c1 _ hc1 hc2 hk
      obtain ⟨k, rfl⟩ : ∃ m, k = m + 1 := ⟨k - 1, by omega⟩
      rw [pledgeref04_All.l2, if_neg (by omega), show wrap64 (c1 + 1) = c1 + 1 by unfold wrap64; omega]
      rfl
    | succ d ih =>
      intro k c0 c1 hd hc1 hc2 hk
      obtain ⟨k, rfl⟩ : ∃ m, k = m + 1 + 1 := ⟨k - 2, by omega⟩
      rw [pledgeref04_All.l2, if_pos (by omega), hg, Option.bind_some, if_neg (by decide), show wrap64 (4 - ((d + 1 : Nat) : Int) + 1) = 4 - (d : Int) by unfold wrap64; omega, ih (k + 1) c0 c1 (by omega) hc1 hc2 (by omega)]
      congr 1
      omega
  have l1 : ∀ (d k : Nat) (c0 : Int), d ≤ 4 → 1 ≤ c0 → c0 ≤ 4 → 6 * d + 1 < k → pledgeref04_All.l1 k a b [] c0 (4 - (d : Int)) = pledgeref04_All.l0 (k - 6 * d - 1) a b [] (c0 + 1) := by
    intro d
    induction d with
    | zero =>
      intro k c0 _ hc1 hc2 hk
      obtain ⟨k, rfl⟩ : ∃ m, k = m + 1 := ⟨k - 1, by omega⟩
      rw [pledgeref04_All.l1, if_neg (by omega), show wrap64 (c0 + 1) = c0 + 1 by unfold wrap64; omega]
      rfl
    | succ d ih =>
      intro k c0 hd hc1 hc2 hk
      obtain ⟨k, rfl⟩ : ∃ m, k = m + 1 := ⟨k - 1, by omega⟩
      have e := l2 4 k c0 (4 - ((d + 1 : Nat) : Int)) (by omega) (by omega) (by omega) (by omega)
      rw [pledgeref04_All.l1, if_pos (by omega)]
      rw [show (4 : Int) - ((4 : Nat) : Int) = 0 by omega] at e
      rw [e, show 4 - ((d + 1 : Nat) : Int) + 1 = 4 - (d : Int) by omega, ih (k - 4 - 1) c0 (by omega) hc1 hc2 (by omega)]
      congr 1
      omega
  have l0 : ∀ (d k : Nat), d ≤ 4 → 26 * d + 1 < k → pledgeref04_All.l0 k a b [] (5 - (d : Int)) = some [] := by
    intro d
    induction d with
    | zero =>
      intro k _ hk
      obtain ⟨k, rfl⟩ : ∃ m, k = m + 1 := ⟨k - 1, by omega⟩
      rw [pledgeref04_All.l0, if_neg (by omega)]
    | succ d ih =>
      intro k hd hk
      obtain ⟨k, rfl⟩ : ∃ m, k = m + 1 := ⟨k - 1, by omega⟩
      have e := l1 4 k (5 - ((d + 1 : Nat) : Int)) (by omega) (by omega) (by omega) (by omega)
      rw [pledgeref04_All.l0, if_pos (by omega)]
      rw [show (4 : Int) - ((4 : Nat) : Int) = 0 by omega] at e
      rw [e, show 5 - ((d + 1 : Nat) : Int) + 1 = 5 - (d : Int) by omega]
      exact ih _ (by omega) (by omega)
  have := l0 4 200 (by omega) (by omega)
  rw [show (5 : Int) - ((4 : Nat) : Int) = 1 by omega] at this
  exact this
def L11 : List S23 := [⟨1, 0, 0⟩, ⟨2, 0, 0⟩, ⟨3, 0, 0⟩, ⟨4, 0, 0⟩]
theorem run11 (c0 c1 c2 : Int) (h0 : 0 ≤ c0 ∧ c0 ≤ 255) (h1 : 0 ≤ c1 ∧ c1 ≤ 255) (h2 : 0 ≤ c2 ∧ c2 ≤ 255) : pledgelaw04_KeyGood.f 200 1 1 c0 c1 c2 = some true :=
  law_fine (by decide) (L := L11) (L' := L11) (by kernel_rfl) (by kernel_rfl) (by kernel_rfl) (by kernel_rfl) (by kernel_rfl) c0 c1 c2 h0 h1 h2
def L12 : List S23 := [⟨1, 0, 0⟩, ⟨1, 0, 1⟩, ⟨2, 0, 0⟩, ⟨2, 0, 1⟩, ⟨3, 0, 0⟩, ⟨4, 0, 0⟩]
theorem run12 (c0 c1 c2 : Int) (h0 : 0 ≤ c0 ∧ c0 ≤ 255) (h1 : 0 ≤ c1 ∧ c1 ≤ 255) (h2 : 0 ≤ c2 ∧ c2 ≤ 255) : pledgelaw04_KeyGood.f 200 1 2 c0 c1 c2 = some true :=
  law_fine (by decide) (L := L12) (L' := L12) (by kernel_rfl) (by kernel_rfl) (by kernel_rfl) (by kernel_rfl) (by kernel_rfl) c0 c1 c2 h0 h1 h2
def L13 : List S23 := [⟨1, 0, 0⟩, ⟨1, 0, 1⟩, ⟨1, 0, 2⟩, ⟨2, 0, 0⟩, ⟨2, 0, 1⟩, ⟨2, 0, 2⟩, ⟨3, 0, 0⟩, ⟨4, 0, 0⟩]
theorem run13 (c0 c1 c2 : Int) (h0 : 0 ≤ c0 ∧ c0 ≤ 255) (h1 : 0 ≤ c1 ∧ c1 ≤ 255) (h2 : 0 ≤ c2 ∧ c2 ≤ 255) : pledgelaw04_KeyGood.f 200 1 3 c0 c1 c2 = some true :=
  law_fine (by decide) (L := L13) (L' := L13) (by kernel_rfl) (by kernel_rfl) (by kernel_rfl) (by kernel_rfl) (by kernel_rfl) c0 c1 c2 h0 h1 h2
def L14 : List S23 := [⟨1, 0, 0⟩, ⟨1, 0, 1⟩, ⟨1, 0, 2⟩, ⟨1, 0, 3⟩, ⟨2, 0, 0⟩, ⟨2, 0, 1⟩, ⟨2, 0, 2⟩, ⟨2, 0, 3⟩, ⟨3, 0, 0⟩, ⟨4, 0, 0⟩]
theorem run14 (c0 c1 c2 : Int) (h0 : 0 ≤ c0 ∧ c0 ≤ 255) (h1 : 0 ≤ c1 ∧ c1 ≤ 255) (h2 : 0 ≤ c2 ∧ c2 ≤ 255) : pledgelaw04_KeyGood.f 200 1 4 c0 c1 c2 = some true :=
  law_fine (by decide) (L := L14) (L' := L14) (by kernel_rfl) (by kernel_rfl) (by kernel_rfl) (by kernel_rfl) (by kernel_rfl) c0 c1 c2 h0 h1 h2
def L21 : List S23 := [⟨1, 0, 0⟩, ⟨1, 1, 0⟩, ⟨2, 0, 0⟩, ⟨2, 1, 0⟩, ⟨3, 0, 0⟩, ⟨3, 1, 0⟩, ⟨4, 0, 0⟩, ⟨4, 1, 0⟩]
theorem run21 (c0 c1 c2 : Int) (h0 : 0 ≤ c0 ∧ c0 ≤ 255) (h1 : 0 ≤ c1 ∧ c1 ≤ 255) (h2 : 0 ≤ c2 ∧ c2 ≤ 255) : pledgelaw04_KeyGood.f 200 2 1 c0 c1 c2 = some true :=
  law_fine (by decide) (L := L21) (L' := L21) (by kernel_rfl) (by kernel_rfl) (by kernel_rfl) (by kernel_rfl) (by kernel_rfl) c0 c1 c2 h0 h1 h2
def L22 : List S23 := [⟨1, 0, 0⟩, ⟨1, 0, 1⟩, ⟨1, 1, 0⟩, ⟨1, 1, 1⟩, ⟨2, 0, 0⟩, ⟨2, 0, 1⟩, ⟨2, 1, 0⟩, ⟨2, 1, 1⟩, ⟨3, 0, 0⟩, ⟨3, 1, 0⟩, ⟨4, 0, 0⟩, ⟨4, 1, 0⟩]
theorem run22 (c0 c1 c2 : Int) (h0 : 0 ≤ c0 ∧ c0 ≤ 255) (h1 : 0 ≤ c1 ∧ c1 ≤ 255) (h2 : 0 ≤ c2 ∧ c2 ≤ 255) : pledgelaw04_KeyGood.f 200 2 2 c0 c1 c2 = some true :=
  law_fine (by decide) (L := L22) (L' := L22) (by kernel_rfl) (by kernel_rfl) (by kernel_rfl) (by kernel_rfl) (by kernel_rfl) c0 c1 c2 h0 h1 h2
def L23 : List S23 := [⟨1, 0, 0⟩, ⟨1, 0, 1⟩, ⟨1, 0, 2⟩, ⟨1, 1, 0⟩, ⟨1, 1, 1⟩, ⟨1, 1, 2⟩, ⟨2, 0, 0⟩, ⟨2, 0, 1⟩, ⟨2, 0, 2⟩, ⟨2, 1, 0⟩, ⟨2, 1, 1⟩, ⟨2, 1, 2⟩, ⟨3, 0, 0⟩, ⟨3, 1, 0⟩, ⟨4, 0, 0⟩, ⟨4, 1, 0⟩]
theorem run23 (c0 c1 c2 : Int) (h0 : 0 ≤ c0 ∧ c0 ≤ 255) (h1 : 0 ≤ c1 ∧ c1 ≤ 255) (h2 : 0 ≤ c2 ∧ c2 ≤ 255) : pledgelaw04_KeyGood.f 200 2 3 c0 c1 c2 = some true :=
  law_fine (by decide) (L := L23) (L' := L23) (by kernel_rfl) (by kernel_rfl) (by kernel_rfl) (by kernel_rfl) (by kernel_rfl) c0 c1 c2 h0 h1 h2
def L24 : List S23 := [⟨1, 0, 0⟩, ⟨1, 0, 1⟩, ⟨1, 0, 2⟩, ⟨1, 0, 3⟩, ⟨1, 1, 0⟩, ⟨1, 1, 1⟩, ⟨1, 1, 2⟩, ⟨1, 1, 3⟩, ⟨2, 0, 0⟩, ⟨2, 0, 1⟩, ⟨2, 0, 2⟩, ⟨2, 0, 3⟩, ⟨2, 1, 0⟩, ⟨2, 1, 1⟩, ⟨2, 1, 2⟩, ⟨2, 1, 3⟩, ⟨3, 0, 0⟩, ⟨3, 1, 0⟩, ⟨4, 0, 0⟩, ⟨4, 1, 0⟩]
theorem run24 (c0 c1 c2 : Int) (h0 : 0 ≤ c0 ∧ c0 ≤ 255) (h1 : 0 ≤ c1 ∧ c1 ≤ 255) (h2 : 0 ≤ c2 ∧ c2 ≤ 255) : pledgelaw04_KeyGood.f 200 2 4 c0 c1 c2 = some true :=
  law_fine (by decide) (L := L24) (L' := L24) (by kernel_rfl) (by kernel_rfl) (by kernel_rfl) (by kernel_rfl) (by kernel_rfl) c0 c1 c2 h0 h1 h2
def L31 : List S23 := [⟨1, 0, 0⟩, ⟨1, 1, 0⟩, ⟨1, 2, 0⟩, ⟨2, 0, 0⟩, ⟨2, 1, 0⟩, ⟨2, 2, 0⟩, ⟨3, 0, 0⟩, ⟨3, 1, 0⟩, ⟨3, 2, 0⟩, ⟨4, 0, 0⟩, ⟨4, 1, 0⟩, ⟨4, 2, 0⟩]
theorem run31 (c0 c1 c2 : Int) (h0 : 0 ≤ c0 ∧ c0 ≤ 255) (h1 : 0 ≤ c1 ∧ c1 ≤ 255) (h2 : 0 ≤ c2 ∧ c2 ≤ 255) : pledgelaw04_KeyGood.f 200 3 1 c0 c1 c2 = some true :=
  law_fine (by decide) (L := L31) (L' := L31) (by kernel_rfl) (by kernel_rfl) (by kernel_rfl) (by kernel_rfl) (by kernel_rfl) c0 c1 c2 h0 h1 h2
def L32 : List S23 := [⟨1, 0, 0⟩, ⟨1, 0, 1⟩, ⟨1, 1, 0⟩, ⟨1, 1, 1⟩, ⟨1, 2, 0⟩, ⟨1, 2, 1⟩, ⟨2, 0, 0⟩, ⟨2, 0, 1⟩, ⟨2, 1, 0⟩, ⟨2, 1, 1⟩, ⟨2, 2, 0⟩, ⟨2, 2, 1⟩, ⟨3, 0, 0⟩, ⟨3, 1, 0⟩, ⟨3, 2, 0⟩, ⟨4, 0, 0⟩, ⟨4, 1, 0⟩, ⟨4, 2, 0⟩]
theorem run32 (c0 c1 c2 : Int) (h0 : 0 ≤ c0 ∧ c0 ≤ 255) (h1 : 0 ≤ c1 ∧ c1 ≤ 255) (h2 : 0 ≤ c2 ∧ c2 ≤ 255) : pledgelaw04_KeyGood.f 200 3 2 c0 c1 c2 = some true :=
  law_fine (by decide) (L := L32) (L' := L32) (by kernel_rfl) (by kernel_rfl) (by kernel_rfl) (by kernel_rfl) (by kernel_rfl) c0 c1 c2 h0 h1 h2
def L33 : List S23 := [⟨1, 0, 0⟩, ⟨1, 0, 1⟩, ⟨1, 0, 2⟩, ⟨1, 1, 0⟩, ⟨1, 1, 1⟩, ⟨1, 1, 2⟩, ⟨1, 2, 0⟩, ⟨1, 2, 1⟩, ⟨1, 2, 2⟩, ⟨2, 0, 0⟩, ⟨2, 0, 1⟩, ⟨2, 0, 2⟩, ⟨2, 1, 0⟩, ⟨2, 1, 1⟩, ⟨2, 1, 2⟩, ⟨2, 2, 0⟩, ⟨2, 2, 1⟩, ⟨2, 2, 2⟩, ⟨3, 0, 0⟩, ⟨3, 1, 0⟩, ⟨3, 2, 0⟩, ⟨4, 0, 0⟩, ⟨4, 1, 0⟩, ⟨4, 2, 0⟩]
theorem run33 (c0 c1 c2 : Int) (h0 : 0 ≤ c0 ∧ c0 ≤ 255) (h1 : 0 ≤ c1 ∧ c1 ≤ 255) (h2 : 0 ≤ c2 ∧ c2 ≤ 255) : pledgelaw04_KeyGood.f 200 3 3 c0 c1 c2 = some true :=
  law_fine (by decide) (L := L33) (L' := L33) (by kernel_rfl) (by kernel_rfl) (by kernel_rfl) (by kernel_rfl) (by kernel_rfl) c0 c1 c2 h0 h1 h2
def L34 : List S23 := [⟨1, 0, 0⟩, ⟨1, 0, 1⟩, ⟨1, 0, 2⟩, ⟨1, 0, 3⟩, ⟨1, 1, 0⟩, ⟨1, 1, 1⟩, ⟨1, 1, 2⟩, ⟨1, 1, 3⟩, ⟨1, 2, 0⟩, ⟨1, 2, 1⟩, ⟨1, 2, 2⟩, ⟨1, 2, 3⟩, ⟨2, 0, 0⟩, ⟨2, 0, 1⟩, ⟨2, 0, 2⟩, ⟨2, 0, 3⟩, ⟨2, 1, 0⟩, ⟨2, 1, 1⟩, ⟨2, 1, 2⟩, ⟨2, 1, 3⟩, ⟨2, 2, 0⟩, ⟨2, 2, 1⟩, ⟨2, 2, 2⟩, ⟨2, 2, 3⟩, ⟨3, 0, 0⟩, ⟨3, 1, 0⟩, ⟨3, 2, 0⟩, ⟨4, 0, 0⟩, ⟨4, 1, 0⟩, ⟨4, 2, 0⟩]
theorem run34 (c0 c1 c2 : Int) (h0 : 0 ≤ c0 ∧ c0 ≤ 255) (h1 : 0 ≤ c1 ∧ c1 ≤ 255) (h2 : 0 ≤ c2 ∧ c2 ≤ 255) : pledgelaw04_KeyGood.f 200 3 4 c0 c1 c2 = some true :=
  law_fine (by decide) (L := L34) (L' := L34) (by kernel_rfl) (by kernel_rfl) (by kernel_rfl) (by kernel_rfl) (by kernel_rfl) c0 c1 c2 h0 h1 h2
def L41 : List S23 := [⟨1, 0, 0⟩, ⟨1, 1, 0⟩, ⟨1, 2, 0⟩, ⟨1, 3, 0⟩, ⟨2, 0, 0⟩, ⟨2, 1, 0⟩, ⟨2, 2, 0⟩, ⟨2, 3, 0⟩, ⟨3, 0, 0⟩, ⟨3, 1, 0⟩, ⟨3, 2, 0⟩, ⟨3, 3, 0⟩, ⟨4, 0, 0⟩, ⟨4, 1, 0⟩, ⟨4, 2, 0⟩, ⟨4, 3, 0⟩]
theorem run41 (c0 c1 c2 : Int) (h0 : 0 ≤ c0 ∧ c0 ≤ 255) (h1 : 0 ≤ c1 ∧ c1 ≤ 255) (h2 : 0 ≤ c2 ∧ c2 ≤ 255) : pledgelaw04_KeyGood.f 200 4 1 c0 c1 c2 = some true :=
  law_fine (by decide) (L := L41) (L' := L41) (by kernel_rfl) (by kernel_rfl) (by kernel_rfl) (by kernel_rfl) (by kernel_rfl) c0 c1 c2 h0 h1 h2
def L42 : List S23 := [⟨1, 0, 0⟩, ⟨1, 0, 1⟩, ⟨1, 1, 0⟩, ⟨1, 1, 1⟩, ⟨1, 2, 0⟩, ⟨1, 2, 1⟩, ⟨1, 3, 0⟩, ⟨1, 3, 1⟩, ⟨2, 0, 0⟩, ⟨2, 0, 1⟩, ⟨2, 1, 0⟩, ⟨2, 1, 1⟩, ⟨2, 2, 0⟩, ⟨2, 2, 1⟩, ⟨2, 3, 0⟩, ⟨2, 3, 1⟩, ⟨3, 0, 0⟩, ⟨3, 1, 0⟩, ⟨3, 2, 0⟩, ⟨3, 3, 0⟩, ⟨4, 0, 0⟩, ⟨4, 1, 0⟩, ⟨4, 2, 0⟩, ⟨4, 3, 0⟩]
theorem run42 (c0 c1 c2 : Int) (h0 : 0 ≤ c0 ∧ c0 ≤ 255) (h1 : 0 ≤ c1 ∧ c1 ≤ 255) (h2 : 0 ≤ c2 ∧ c2 ≤ 255) : pledgelaw04_KeyGood.f 200 4 2 c0 c1 c2 = some true :=
  law_fine (by decide) (L := L42) (L' := L42) (by kernel_rfl) (by kernel_rfl) (by kernel_rfl) (by kernel_rfl) (by kernel_rfl) c0 c1 c2 h0 h1 h2
def L43 : List S23 := [⟨1, 0, 0⟩, ⟨1, 0, 1⟩, ⟨1, 0, 2⟩, ⟨1, 1, 0⟩, ⟨1, 1, 1⟩, ⟨1, 1, 2⟩, ⟨1, 2, 0⟩, ⟨1, 2, 1⟩, ⟨1, 2, 2⟩, ⟨1, 3, 0⟩, ⟨1, 3, 1⟩, ⟨1, 3, 2⟩, ⟨2, 0, 0⟩, ⟨2, 0, 1⟩, ⟨2, 0, 2⟩, ⟨2, 1, 0⟩, ⟨2, 1, 1⟩, ⟨2, 1, 2⟩, ⟨2, 2, 0⟩, ⟨2, 2, 1⟩, ⟨2, 2, 2⟩, ⟨2, 3, 0⟩, ⟨2, 3, 1⟩, ⟨2, 3, 2⟩, ⟨3, 0, 0⟩, ⟨3, 1, 0⟩, ⟨3, 2, 0⟩, ⟨3, 3, 0⟩, ⟨4, 0, 0⟩, ⟨4, 1, 0⟩, ⟨4, 2, 0⟩, ⟨4, 3, 0⟩]
theorem run43 (c0 c1 c2 : Int) (h0 : 0 ≤ c0 ∧ c0 ≤ 255) (h1 : 0 ≤ c1 ∧ c1 ≤ 255) (h2 : 0 ≤ c2 ∧ c2 ≤ 255) : pledgelaw04_KeyGood.f 200 4 3 c0 c1 c2 = some true :=
  law_fine (by decide) (L := L43) (L' := L43) (by kernel_rfl) (by kernel_rfl) (by kernel_rfl) (by kernel_rfl) (by kernel_rfl) c0 c1 c2 h0 h1 h2
def L44 : List S23 := [⟨1, 0, 0⟩, ⟨1, 0, 1⟩, ⟨1, 0, 2⟩, ⟨1, 0, 3⟩, ⟨1, 1, 0⟩, ⟨1, 1, 1⟩, ⟨1, 1, 2⟩, ⟨1, 1, 3⟩, ⟨1, 2, 0⟩, ⟨1, 2, 1⟩, ⟨1, 2, 2⟩, ⟨1, 2, 3⟩, ⟨1, 3, 0⟩, ⟨1, 3, 1⟩, ⟨1, 3, 2⟩, ⟨1, 3, 3⟩, ⟨2, 0, 0⟩, ⟨2, 0, 1⟩, ⟨2, 0, 2⟩, ⟨2, 0, 3⟩, ⟨2, 1, 0⟩, ⟨2, 1, 1⟩, ⟨2, 1, 2⟩, ⟨2, 1, 3⟩, ⟨2, 2, 0⟩, ⟨2, 2, 1⟩, ⟨2, 2, 2⟩, ⟨2, 2, 3⟩, ⟨2, 3, 0⟩, ⟨2, 3, 1⟩, ⟨2, 3, 2⟩, ⟨2, 3, 3⟩, ⟨3, 0, 0⟩, ⟨3, 1, 0⟩, ⟨3, 2, 0⟩, ⟨3, 3, 0⟩, ⟨4, 0, 0⟩, ⟨4, 1, 0⟩, ⟨4, 2, 0⟩, ⟨4, 3, 0⟩]
theorem run44 (c0 c1 c2 : Int) (h0 : 0 ≤ c0 ∧ c0 ≤ 255) (h1 : 0 ≤ c1 ∧ c1 ≤ 255) (h2 : 0 ≤ c2 ∧ c2 ≤ 255) : pledgelaw04_KeyGood.f 200 4 4 c0 c1 c2 = some true :=
  law_fine (by decide) (L := L44) (L' := L44) (by kernel_rfl) (by kernel_rfl) (by kernel_rfl) (by kernel_rfl) (by kernel_rfl) c0 c1 c2 h0 h1 h2
theorem u8_of {z : Int} (h : WK5 z) : 0 ≤ z ∧ z ≤ 255 := by simpa [WK5, Lit.wf, IntKind.min, IntKind.max, IntKind.signed, IntKind.bits] using h
theorem KeyGood : pledgelaw04_KeyGood.Pure := by
  rintro a b ⟨c0, c1, c2⟩ _ _ ⟨w0, w1, w2⟩
  have h0 := u8_of w0
  have h1 := u8_of w1
  have h2 := u8_of w2
  simp only at h0 h1 h2 ⊢
  refine ⟨200, ?_⟩
  by_cases hf : (1 ≤ a ∧ a ≤ 4) ∧ 1 ≤ b ∧ b ≤ 4
  · obtain ⟨⟨f1, f2⟩, f3, f4⟩ := hf
    have ha : a = 1 ∨ a = 2 ∨ a = 3 ∨ a = 4 := by omega
    have hb : b = 1 ∨ b = 2 ∨ b = 3 ∨ b = 4 := by omega
    rcases ha with rfl | rfl | rfl | rfl <;> rcases hb with rfl | rfl | rfl | rfl
    · exact run11 c0 c1 c2 h0 h1 h2
    · exact run12 c0 c1 c2 h0 h1 h2
    · exact run13 c0 c1 c2 h0 h1 h2
    · exact run14 c0 c1 c2 h0 h1 h2
    · exact run21 c0 c1 c2 h0 h1 h2
    · exact run22 c0 c1 c2 h0 h1 h2
    · exact run23 c0 c1 c2 h0 h1 h2
    · exact run24 c0 c1 c2 h0 h1 h2
    · exact run31 c0 c1 c2 h0 h1 h2
    · exact run32 c0 c1 c2 h0 h1 h2
    · exact run33 c0 c1 c2 h0 h1 h2
    · exact run34 c0 c1 c2 h0 h1 h2
    · exact run41 c0 c1 c2 h0 h1 h2
    · exact run42 c0 c1 c2 h0 h1 h2
    · exact run43 c0 c1 c2 h0 h1 h2
    · exact run44 c0 c1 c2 h0 h1 h2
  · have hA : key_All.f 200 a b = some [] := by unfold key_All.f; rw [fine_not a b hf]; rfl
    have hC : key_Count.f a b = some (([] : List S23).length : Int) := by unfold key_Count.f; rw [fine_not a b hf]; rfl
    exact law_none (all_none a b hf) hA (by decide) hC (by kernel_rfl) c0 c1 c2 (kgood_none a b c0 c1 c2 h0 h1 h2 (.inl hf)) (rgood_none a b c0 c1 c2 h0 h1 h2 199 (.inl hf)) (by simp)
end Go.Proofs.YtpnehgajhpejjaaDoor.K
