import Derived.Test.YtpnehgajhpejjaaDoorWV1
/- The plain law's parts. -/
namespace Go.Proofs.YtpnehgajhpejjaaDoor.W
open Go.Lib Go.RowKit Go.Proofs.YtpnehgajhpejjaaDoorW.PrintWords
set_option maxRecDepth 100000
set_option linter.unusedVariables false
set_option linter.unusedSimpArgs false
theorem wr1 (n : Nat) (h : n ≤ 1000000000) : wrap64 ((n : Int) + 1) = ((n + 1 : Nat) : Int) := by
  simp only [wrap64]
  omega
theorem wr2 (n : Nat) (h : n ≤ 1000000000) : wrap64 ((n : Int) + 2) = ((n + 2 : Nat) : Int) := by
  simp only [wrap64]
  omega
/-! ### any word tells some number -/
/-! ### the hexadecimal digits -/
theorem mul16 (x : Int) (h : 0 ≤ x ∧ x < 256) : (((16 * ((x.toNat / 16 : Nat) : Int)) % 256) + ((x.toNat % 16 : Nat) : Int)) % 256 = x := by omega
/-! ### the guess -/
theorem ask_words2 : ∀ w ∈ [wPlace, wCancel, wShip, wReturn, wRestock, wTransfer, wQuery], ¬ w = wPick ∧ ¬ w = wKill ∧ ¬ w = wWrite ∧ ¬ w = wSync ∧ ¬ w = wCkpt ∧ ¬ w = wCrash ∧ ¬ w = wBoot ∧ ¬ w = wAsk := by decide
/-- Words of a text that is not too long. -/
structure Wds (W : List (List UInt8)) : Prop where
  hW : ∀ x ∈ W, x.length ≤ 100000
  hN : W.length ≤ 100001
theorem splitL_sizes (c : UInt8) : ∀ s : List UInt8, (∀ x ∈ splitL c s, x.length ≤ s.length) ∧ (splitL c s).length ≤ s.length + 1
  | [] => by simp [splitL]
  | a :: s => by
    obtain ⟨h1, h2⟩ := splitL_sizes c s
    unfold splitL
    split
    · refine ⟨fun x hx => ?_, by simp only [List.length_cons]; omega⟩
      rcases List.mem_cons.1 hx with rfl | hx
      · simp
      · have := h1 x hx
        simp only [List.length_cons]
        omega
    · cases hq : splitL c s with
      | nil => exact ⟨fun x hx => by simp at hx; subst hx; simp, by simp⟩
      | cons y r =>
        rw [hq] at h1 h2
        refine ⟨fun x hx => ?_, by simp only [List.length_cons] at h2 ⊢; omega⟩
        rcases List.mem_cons.1 hx with rfl | hx
        · have := h1 y (by simp)
          simp only [List.length_cons]
          omega
        · have := h1 x (by simp [hx])
          simp only [List.length_cons]
          omega
theorem splitL_wds (c : UInt8) (s : List UInt8) (h : s.length ≤ 100000) : Wds (splitL c s) := by
  obtain ⟨h1, h2⟩ := splitL_sizes c s
  exact ⟨fun x hx => by have := h1 x hx; omega, by omega⟩
theorem rdW (W : List (List UInt8)) (i : Nat) (h : i < W.length) : rdOf ByteArray.empty (W.map ofL) (i : Int) = ofL W[i] := by
  simp [rdOf, List.getD_eq_getElem?_getD, List.getElem?_eq_getElem h]
theorem number_any {W : List (List UInt8)} (h : Wds W) (i : Nat) : ∃ n, words_number.f (W.map ofL) (i : Int) = some n := by
  by_cases hi : i < W.length
  · unfold words_number.f
    have := h.hW _ (List.getElem_mem hi)
    rw [if_neg (by rw [List.length_map]; omega), rdW W i hi, if_pos ⟨by omega, by rw [ofL_size]; omega⟩]
    exact ⟨_, rfl⟩
  · exact ⟨0, number_out (by rw [List.length_map]; omega)⟩
def U8L (l : List S109) : Prop := ∀ x ∈ l, 0 ≤ x.f0 ∧ x.f0 < 256
theorem asked_any0 (n o p : Int) (rest : List (List UInt8)) : ∀ (pre : List (List UInt8)) (acc : List S109), (∀ x ∈ rest, x.length ≤ 100000) → U8L acc → acc.length + rest.length ≤ 1000000 → n = (((pre ++ rest).map ofL).length : Int) → pre.length + rest.length ≤ 1000000 →
    ∃ ls, U8L ls ∧ Ev (fun m => words_asked.l0 m ((pre ++ rest).map ofL) n (pre.length : Int) 1 o p acc 0 0 0 0) (1, o, p, ls, 0, 0, 0, 0) := by
  induction rest with
  | nil =>
    intro pre acc _ hu _ hn _
    refine ⟨acc, hu, Ev.succ (f := fun _ => some (1, o, p, acc, 0, 0, 0, 0)) (Ev.const rfl) (fun m => ?_)⟩
    rw [words_asked.l0, if_neg (by rw [hn]; simp)]
  | cons x rest ih =>
    intro pre acc hx hu ha hn hp
    rw [List.length_cons] at ha hp
    have hx0 := hx x (by simp)
    have wd := splitL_wds 58 x hx0
    obtain ⟨n0, h0⟩ := number_any wd 0
    obtain ⟨n1, h1⟩ := number_any wd 1
    have q4 : acc.length < 8796093022208 := by omega
    have q5 : acc.length + 1 + rest.length ≤ 1000000 := by omega
    have q6 : pre.length + 1 + rest.length ≤ 1000000 := by omega
    have q7 : pre.length ≤ 1000000000 := by omega
    have q1 : (pre.length : Int) < n := by rw [hn]; simp only [List.length_map, List.length_append, List.length_cons]; omega
    have q2 : (pre.length : Int) < (((pre ++ x :: rest).map ofL).length : Int) := by simp only [List.length_map, List.length_append, List.length_cons]; omega
    have q3 : (0 : Int) ≤ (pre.length : Int) := by omega
    have q8 : 0 ≤ n0 % 256 ∧ n0 % 256 < 256 := by omega
    obtain ⟨ls, hls, he⟩ := ih (pre ++ [x]) (acc ++ [⟨n0 % 256, n1⟩]) (fun y hy => hx y (by simp [hy])) (fun y hy => by
      rcases List.mem_append.1 hy with hy | hy
      · exact hu y hy
      · simp only [List.mem_singleton] at hy; subst hy; exact q8) (by rw [List.length_append]; exact q5) (by rw [List.append_assoc]; exact hn) (by rw [List.length_append]; exact q6)
    rw [List.append_assoc, List.singleton_append, show (pre ++ [x]).length = pre.length + 1 from by simp, ← wr1 pre.length q7] at he
    have er : rdOf ByteArray.empty ((pre ++ x :: rest).map ofL) (pre.length : Int) = ofL x := by
      rw [rdW _ _ (by simp)]
      simp
    have hs : strings_Split.f (ofL x) (⟨#[58]⟩ : ByteArray) = some ((splitL 58 x).map ofL) := prog_split 58 x (by omega)
    refine ⟨ls, hls, he.succ (fun k => ?_)⟩
    rw [words_asked.l0, if_pos q1, if_pos q3, if_pos q2, er, hs, Option.bind_some, show ((0 : Int)) = ((0 : Nat) : Int) from rfl, h0, Option.bind_some, show ((1 : Int)) = ((1 : Nat) : Int) from rfl, h1, Option.bind_some, if_pos q4]
/-- The ranges that a reading keeps. -/
structure RqW (k o p : Int) (l : List S109) (s f t : Int) : Prop where
  hK : 0 ≤ k ∧ k < 256
  hO : 0 ≤ o ∧ o < 4294967296
  hP : 0 ≤ p ∧ p < 256
  hL : U8L l
  hS : 0 ≤ s ∧ s < 256
  hF : 0 ≤ f ∧ f < 256
  hT : 0 ≤ t ∧ t < 256
theorem u8l_nil : U8L [] := fun x hx => by simp at hx
theorem asked_any {w : List UInt8} {r : List (List UInt8)} (h : Wds (w :: r)) : ∃ k o p l s f t q, RqW k o p l s f t ∧ Ev (fun m => words_asked.f m ((w :: r).map ofL)) (k, o, p, l, s, f, t, q) := by
  obtain ⟨n1, h1⟩ := number_any h 1
  obtain ⟨n2, h2⟩ := number_any h 2
  obtain ⟨n3, h3⟩ := number_any h 3
  obtain ⟨n4, h4⟩ := number_any h 4
  replace h1 : words_number.f ((w :: r).map ofL) 1 = some n1 := h1
  replace h2 : words_number.f ((w :: r).map ofL) 2 = some n2 := h2
  replace h3 : words_number.f ((w :: r).map ofL) 3 = some n3 := h3
  replace h4 : words_number.f ((w :: r).map ofL) 4 = some n4 := h4
  have h0 : rdOf ByteArray.empty ((w :: r).map ofL) 0 = ofL w := rfl
  have hlen : (0 : Int) < (((w :: r).map ofL).length : Int) := by simp only [List.map_cons, List.length_cons]; omega
  have m32 : ∀ n : Int, 0 ≤ n % 4294967296 ∧ n % 4294967296 < 4294967296 := fun n => by omega
  have m8 : ∀ n : Int, 0 ≤ n % 256 ∧ n % 256 < 256 := fun n => by omega
  have z8 : (0 : Int) ≤ 0 ∧ (0 : Int) < 256 := by omega
  have z32 : (0 : Int) ≤ 0 ∧ (0 : Int) < 4294967296 := by omega
  have hsz : (w :: r).length ≤ 100001 := h.hN
  have hws := h.hW
  unfold words_asked.f
  simp only [h1, h2, h3, h4, Option.bind_some, if_pos hlen, h0, ofL_toList]
  by_cases e1 : w = ([112, 108, 97, 99, 101] : List UInt8)
  · simp only [if_pos e1]
    have hm : ∃ j : Nat, mn 3 (((w :: r).map ofL).length : Int) = (j : Int) ∧ j ≤ (w :: r).length := by
      unfold mn
      rw [List.length_map]
      split
      · exact ⟨_, rfl, Nat.le_refl _⟩
      · exact ⟨3, rfl, by omega⟩
    obtain ⟨j, hj, hjl⟩ := hm
    have hdrop : ((w :: r).map ofL).drop (j : Int).toNat = ((w :: r).drop j).map ofL := by rw [Int.toNat_natCast, List.map_drop]
    rw [hj]
    have q1 : (0 : Int) ≤ (j : Int) := by omega
    have q2 : (j : Int) ≤ (((w :: r).map ofL).length : Int) := by rw [List.length_map]; omega
    simp only [if_pos q1, if_pos q2, hdrop]
    obtain ⟨ls, hls, he⟩ := asked_any0 ((((w :: r).drop j).map ofL).length : Int) (n1 % 4294967296) (n2 % 256) ((w :: r).drop j) [] [] (fun x hx => hws x (List.mem_of_mem_drop hx)) u8l_nil (by rw [List.length_drop]; show 0 + _ ≤ _; omega) rfl (by rw [List.length_drop]; show 0 + _ ≤ _; omega)
    exact ⟨_, _, _, _, _, _, _, _, ⟨by omega, m32 _, m8 _, hls, z8, z8, z8⟩, he⟩
  simp only [if_neg e1]
  by_cases e2 : w = ([99, 97, 110, 99, 101, 108] : List UInt8)
  · simp only [if_pos e2]
    exact ⟨_, _, _, _, _, _, _, _, ⟨by omega, m32 _, z8, u8l_nil, z8, z8, z8⟩, Ev.const rfl⟩
  simp only [if_neg e2]
  by_cases e3 : w = ([115, 104, 105, 112] : List UInt8)
  · simp only [if_pos e3]
    exact ⟨_, _, _, _, _, _, _, _, ⟨by omega, m32 _, z8, u8l_nil, z8, z8, z8⟩, Ev.const rfl⟩
  simp only [if_neg e3]
  by_cases e4 : w = ([114, 101, 116, 117, 114, 110] : List UInt8)
  · simp only [if_pos e4]
    exact ⟨_, _, _, _, _, _, _, _, ⟨by omega, m32 _, z8, u8l_nil, z8, z8, z8⟩, Ev.const rfl⟩
  simp only [if_neg e4]
  by_cases e5 : w = ([114, 101, 115, 116, 111, 99, 107] : List UInt8)
  · simp only [if_pos e5]
    exact ⟨_, _, _, _, _, _, _, _, ⟨by omega, z32, z8, u8l_nil, m8 _, z8, m8 _⟩, Ev.const rfl⟩
  simp only [if_neg e5]
  by_cases e6 : w = ([116, 114, 97, 110, 115, 102, 101, 114] : List UInt8)
  · simp only [if_pos e6]
    exact ⟨_, _, _, _, _, _, _, _, ⟨by omega, z32, z8, u8l_nil, m8 _, m8 _, m8 _⟩, Ev.const rfl⟩
  simp only [if_neg e6]
  by_cases e7 : w = ([113, 117, 101, 114, 121] : List UInt8)
  · simp only [if_pos e7]
    exact ⟨_, _, _, _, _, _, _, _, ⟨by omega, z32, z8, u8l_nil, m8 _, z8, z8⟩, Ev.const rfl⟩
  simp only [if_neg e7]
  exact ⟨_, _, _, _, _, _, _, _, ⟨by omega, z32, z8, u8l_nil, z8, z8, z8⟩, Ev.const rfl⟩
theorem plain_any (k o p : Int) (l : List S109) (s f t q : Int) : ∃ b, request_Plain.f 2 k o p l s f t q = some b ∧ (b = true → (1 ≤ k ∧ k ≤ 7) ∧ l.length ≤ 3) := by
  have j1 : ∀ x, ∃ b, request_Plain.j1 1 x k o p l s f t q = some b := fun x => by
    simp only [request_Plain.j1]
    unfold request_ordered.f request_moved.f
    repeat' (first | exact ⟨_, rfl⟩ | rw [Option.bind_some] | split)
  have j0 : ∀ x, ∃ b, request_Plain.j0 2 x k o p l s f t q = some b ∧ (x = true → b = false) := fun x => by
    simp only [request_Plain.j0]
    by_cases hx : x = true
    · rw [if_pos hx]; exact ⟨_, rfl, fun _ => rfl⟩
    · rw [if_neg hx]
      repeat' split
      all_goals (first | (obtain ⟨b, hb⟩ := j1 false; exact ⟨b, hb, fun h => absurd h hx⟩) | (obtain ⟨b, hb⟩ := j1 true; exact ⟨b, hb, fun h => absurd h hx⟩) | (obtain ⟨b, hb⟩ := j1 (f != 0); exact ⟨b, hb, fun h => absurd h hx⟩))
  unfold request_Plain.f
  by_cases h1 : k < 1
  · rw [if_pos h1]
    obtain ⟨b, hb, h2⟩ := j0 true
    exact ⟨b, hb, fun h => by rw [h2 rfl] at h; cases h⟩
  rw [if_neg h1]
  by_cases h7 : k > 7
  · rw [if_pos h7]
    obtain ⟨b, hb, h2⟩ := j0 true
    exact ⟨b, hb, fun h => by rw [h2 rfl] at h; cases h⟩
  rw [if_neg h7]
  obtain ⟨b, hb, h2⟩ := j0 (decide ((l.length : Int) > 3))
  refine ⟨b, hb, fun h => ⟨by omega, ?_⟩⟩
  by_cases h3 : (l.length : Int) > 3
  · rw [h2 (decide_eq_true h3)] at h; cases h
  · omega
theorem wB_bytes (x : Int) (n : Nat) : ByteL (wB x n) := fun b hb => by
  unfold wB at hb
  obtain ⟨j, _, rfl⟩ := List.mem_map.1 hb
  exact ⟨Int.emod_nonneg _ (by decide), Int.emod_lt_of_pos _ (by decide)⟩
theorem byteL_app {a b : List Int} (ha : ByteL a) (hb : ByteL b) : ByteL (a ++ b) := fun x hx => by
  rcases List.mem_append.1 hx with h | h
  · exact ha x h
  · exact hb x h
theorem byteL_cons {a : Int} {b : List Int} (ha : 0 ≤ a ∧ a < 256) (hb : ByteL b) : ByteL (a :: b) := fun x hx => by
  rcases List.mem_cons.1 hx with rfl | h
  · exact ha
  · exact hb x h
theorem byteL_nil : ByteL [] := fun x hx => by simp at hx
theorem lnB_bytes : ∀ l : List S109, U8L l → ByteL (request_Encode.lnB l)
  | [], _ => byteL_nil
  | x :: l, h => byteL_app (a := x.f0 :: wB (x.f1 % 18446744073709551616) 8) (byteL_cons (h x (by simp)) (wB_bytes _ _)) (lnB_bytes l (fun y hy => h y (by simp [hy])))
theorem encB_bytes {k o p : Int} {l : List S109} {s f t : Int} (q : Int) (h : RqW k o p l s f t) (hl : l.length ≤ 3) : ByteL (request_Encode.encB k o p l s f t q) := by
  unfold request_Encode.encB
  have c : ∀ x : Int, 0 ≤ x ∧ x < 256 → ByteL [x] := fun x hx => byteL_cons hx byteL_nil
  repeat' split
  · exact byteL_app (byteL_app (byteL_app (byteL_app byteL_nil (c 1 (by omega))) (wB_bytes _ _)) (byteL_cons h.hP (c _ (by omega)))) (lnB_bytes l h.hL)
  · exact byteL_app (byteL_app byteL_nil (c k h.hK)) (wB_bytes _ _)
  · exact byteL_app (byteL_app (byteL_app (byteL_app byteL_nil (c 5 (by omega))) (c s h.hS)) (c t h.hT)) (wB_bytes _ _)
  · exact byteL_app (byteL_app (byteL_app (byteL_app (byteL_app byteL_nil (c 6 (by omega))) (c s h.hS)) (c f h.hF)) (c t h.hT)) (wB_bytes _ _)
  · exact byteL_app (byteL_app byteL_nil (c 7 (by omega))) (c s h.hS)
theorem index16 : ∀ n : Nat, n < 256 → Lib.indexByte (⟨#[48, 49, 50, 51, 52, 53, 54, 55, 56, 57, 97, 98, 99, 100, 101, 102]⟩ : ByteArray).data.toList (UInt8.ofNat n) < 16 := by decide +kernel
theorem nibble_any (c : Int) : ∃ n : Nat, words_nibble.f c = some (n : Int) ∧ n < 16 := by
  unfold words_nibble.f strings_IndexByte.f
  rw [Option.bind_some]
  have h := index16 c.toNat.toUInt8.toNat (UInt8.toNat_lt _)
  rw [UInt8.ofNat_toNat] at h
  generalize Lib.indexByte (⟨#[48, 49, 50, 51, 52, 53, 54, 55, 56, 57, 97, 98, 99, 100, 101, 102]⟩ : ByteArray).data.toList c.toNat.toUInt8 = i at *
  refine ⟨(mx i 0).toNat, ?_, ?_⟩
  · unfold mx
    split
    · congr 1
    · congr 1; omega
  · unfold mx
    split <;> omega
theorem gl_any : ∀ (n : Nat) (s : List UInt8) (acc : List Int), s.length ≤ n → ByteL acc → acc.length + n ≤ 100000000000000 → ∃ l, ByteL l ∧ Ev (fun m => words_guess.l0 m (ofL s) 1 0 0 0 acc) (1, 0, 0, 0, l)
  | n, s, acc, hs, hb, hn => by
    by_cases h2 : 2 ≤ s.length
    · obtain ⟨a, ha, ha16⟩ := nibble_any (bt (ofL s) 0)
      obtain ⟨b, hb1, hb16⟩ := nibble_any (bt (ofL s) 1)
      have hv : 0 ≤ ((16 * a + b : Nat) : Int) ∧ ((16 * a + b : Nat) : Int) < 256 := by omega
      have q : acc.length < 140737488355328 := by omega
      have sz : (ofL s).size = s.length := ofL_size s
      have ex : (ofL s).extract 2 (ofL s).size = ofL (s.drop 2) := by rw [extract_ofL, sz, List.take_length]
      obtain ⟨m, rfl⟩ : ∃ m, n = m + 1 := ⟨n - 1, by omega⟩
      obtain ⟨l, hl, he⟩ := gl_any m (s.drop 2) (acc ++ [((16 * a + b : Nat) : Int)]) (by rw [List.length_drop]; omega) (byteL_app hb (byteL_cons hv byteL_nil)) (by rw [List.length_append]; show acc.length + 1 + m ≤ _; omega)
      refine ⟨l, hl, he.succ (fun k => ?_)⟩
      rw [words_guess.l0, ha, hb1, ex, Option.bind_some, Option.bind_some, orb a ha16 b hb16, sz, if_pos (by omega), if_pos (by omega), if_pos (by omega), if_pos q, if_pos (by omega)]
    · refine ⟨acc, hb, Ev.succ (f := fun _ => some (1, 0, 0, 0, acc)) (Ev.const rfl) (fun k => ?_)⟩
      rw [words_guess.l0, if_neg (by rw [ofL_size]; omega)]
theorem join_len : ∀ (l : List (List UInt8)), (∀ x ∈ l, x.length ≤ 100000) → (Lib.join l [32]).length ≤ l.length * 100001
  | [], _ => by simp [Lib.join]
  | [x], h => by
    have := h x (by simp)
    rw [show Lib.join [x] [32] = x from by simp [Lib.join, List.intercalate]]
    simp
    omega
  | x :: y :: r, h => by
    have h1 := h x (by simp)
    have h2 := join_len (y :: r) (fun z hz => h z (by simp only [List.mem_cons] at hz ⊢; exact .inr hz))
    rw [show Lib.join (x :: y :: r) [32] = x ++ 32 :: Lib.join (y :: r) [32] from by simp [Lib.join, List.intercalate]]
    simp only [List.length_append, List.length_cons] at h2 ⊢
    omega
theorem prog_guess_any {W : List (List UInt8)} (hne : W ≠ []) (h : Wds W) : ∃ k g p t l, ByteL l ∧ (0 ≤ g ∧ g < 4294967296) ∧ Ev (fun m => words_guess.f m (W.map ofL)) (k, g, p, t, l) := by
  obtain ⟨w, r, rfl⟩ := List.exists_cons_of_ne_nil hne
  obtain ⟨n1, h1⟩ := number_any h 1
  obtain ⟨n2, h2⟩ := number_any h 2
  replace h1 : words_number.f ((w :: r).map ofL) 1 = some n1 := h1
  replace h2 : words_number.f ((w :: r).map ofL) 2 = some n2 := h2
  have h0 : rdOf ByteArray.empty ((w :: r).map ofL) 0 = ofL w := rfl
  have hlen : (0 : Int) < (((w :: r).map ofL).length : Int) := by simp only [List.map_cons, List.length_cons]; omega
  have hlen1 : (1 : Int) ≤ (((w :: r).map ofL).length : Int) := by omega
  have z32 : (0 : Int) ≤ 0 ∧ (0 : Int) < 4294967296 := by omega
  have m32 : ∀ n : Int, 0 ≤ n % 4294967296 ∧ n % 4294967296 < 4294967296 := fun n => by omega
  unfold words_guess.f
  simp only [h1, h2, Option.bind_some, if_pos hlen, h0, ofL_toList]
  by_cases e1 : w = ([112, 105, 99, 107] : List UInt8)
  · simp only [if_pos e1]
    exact ⟨_, _, _, _, _, byteL_nil, m32 _, Ev.const rfl⟩
  simp only [if_neg e1]
  by_cases e2 : w = ([107, 105, 108, 108] : List UInt8)
  · simp only [if_pos e2]
    exact ⟨_, _, _, _, _, byteL_nil, m32 _, Ev.const rfl⟩
  simp only [if_neg e2]
  by_cases e3 : w = ([119, 114, 105, 116, 101] : List UInt8)
  · simp only [if_pos e3]
    exact ⟨_, _, _, _, _, byteL_nil, z32, Ev.const rfl⟩
  simp only [if_neg e3]
  by_cases e4 : w = ([115, 121, 110, 99] : List UInt8)
  · simp only [if_pos e4]
    exact ⟨_, _, _, _, _, byteL_nil, z32, Ev.const rfl⟩
  simp only [if_neg e4]
  by_cases e5 : w = ([99, 107, 112, 116] : List UInt8)
  · simp only [if_pos e5]
    exact ⟨_, _, _, _, _, byteL_nil, z32, Ev.const rfl⟩
  simp only [if_neg e5]
  by_cases e6 : w = ([99, 114, 97, 115, 104] : List UInt8)
  · simp only [if_pos e6]
    exact ⟨_, _, _, _, _, byteL_nil, z32, Ev.const rfl⟩
  simp only [if_neg e6]
  by_cases e7 : w = ([98, 111, 111, 116] : List UInt8)
  · simp only [if_pos e7]
    exact ⟨_, _, _, _, _, byteL_nil, z32, Ev.const rfl⟩
  simp only [if_neg e7]
  by_cases e8 : w = ([97, 115, 107] : List UInt8)
  · simp only [if_pos e8, if_pos hlen1]
    have hr : (((w :: r).map ofL).drop 1).map (fun x => x.data.toList) = r := by
      rw [show ((w :: r).map ofL).drop 1 = r.map ofL from rfl, List.map_map]
      refine (List.map_congr_left (fun x _ => ?_)).trans (List.map_id _)
      exact ofL_data x
    have hj := join_len r (fun x hx => h.hW x (by simp [hx]))
    have hN : (w :: r).length ≤ 100001 := h.hN
    rw [List.length_cons] at hN
    have hJ : strings_Join.f (((w :: r).map ofL).drop 1) (⟨#[32]⟩ : ByteArray) = some (ofL (Lib.join r [32])) := by
      unfold strings_Join.f
      rw [hr, show (⟨#[32]⟩ : ByteArray).data.toList = [32] from rfl, if_pos ⟨by rw [List.length_drop, List.length_map, List.length_cons]; omega, by omega⟩]
      rfl
    simp only [hJ, Option.bind_some]
    obtain ⟨l, hl, he⟩ := gl_any (Lib.join r [32]).length (Lib.join r [32]) [] (Nat.le_refl _) byteL_nil (by show 0 + _ ≤ _; omega)
    exact ⟨_, _, _, _, _, hl, z32, he⟩
  simp only [if_neg e8]
  obtain ⟨k, o, p, l, s, f, t, q, hr, he⟩ := asked_any h
  obtain ⟨b, hp, hb⟩ := plain_any k o p l s f t q
  cases b with
  | true =>
    refine ⟨1, 0, 0, 0, request_Encode.encB k o p l s f t q, encB_bytes q hr (hb rfl).2, z32, Ev.bind he (Ev.const ?_)⟩
    unfold request_Encode.f
    rw [if_pos hr.hO, hp]
    rfl
  | false =>
    refine ⟨1, 0, 0, 0, [], byteL_nil, z32, Ev.bind he (Ev.const ?_)⟩
    unfold request_Encode.f
    rw [if_pos hr.hO, hp]
    rfl
theorem prog_read_open {s : List UInt8} (hs : s.length ≤ 100000) {k g p t : Int} {l : List Int} (hg : Ev (fun m => words_guess.f m ((splitL 32 s).map ofL)) (k, g, p, t, l)) {R : Int × Int × Int × Int × List Int × Int}
    (h : Ev (fun m => (script_Good.f m k g p t l).bind fun t227 => (if t227 = true then ((words_Line.f m k g p t l).bind fun t228 => (if t228.toList = s then (some (k, g, p, t, l, 0)) else (some (0, 0, 0, 0, ([] : List Int), 8)))) else (some (0, 0, 0, 0, ([] : List Int), 8)))) R) : Ev (fun m => words_Read.f m (ofL s)) R := by
  unfold words_Read.f
  refine Ev.bind (Ev.const (prog_split 32 s (by omega))) (Ev.bind hg ?_)
  simp only [ofL_toList]
  exact h
theorem goodE {k g p t : Int} {l : List Int} (b : Bool) (h : decide (GoodP k g p t l) = b) : Ev (fun m => script_Good.f m k g p t l) b := Ev.of (script_Good.mono _ _ _ _ _) (k := 1) (by rw [script_good, h])
theorem prog_read_good {k g p t : Int} {l : List Int} (h : GoodP k g p t l) (hb : ByteL l) (hg : 0 ≤ g ∧ g < 4294967296) (hs : (lineT k g p t l).length ≤ 100000) : Ev (fun m => words_Read.f m (ofL (lineT k g p t l))) (k, g, p, t, l, 0) := by
  refine prog_read_open hs (prog_guess_back h hb hg) (Ev.bind (goodE true (decide_eq_true h)) ?_)
  simp only [if_pos (show true = true from rfl)]
  refine Ev.bind (prog_line h hb hg) (Ev.const ?_)
  rw [ofL_toList, if_pos rfl]
theorem prog_read_bad {s : List UInt8} (hs : s.length ≤ 100000) (hn : ∀ k g p t l, GoodP k g p t l → ByteL l → (0 ≤ g ∧ g < 4294967296) → lineT k g p t l ≠ s) : Ev (fun m => words_Read.f m (ofL s)) (0, 0, 0, 0, [], 8) := by
  obtain ⟨k, g, p, t, l, hb, hg, he⟩ := prog_guess_any (splitL_ne 32 s) (splitL_wds 32 s hs)
  refine prog_read_open hs he ?_
  by_cases h : GoodP k g p t l
  · refine Ev.bind (goodE true (decide_eq_true h)) ?_
    simp only [if_pos (show true = true from rfl)]
    refine Ev.bind (prog_line h hb hg) (Ev.const ?_)
    rw [ofL_toList, if_neg (hn _ _ _ _ _ h hb hg)]
  · exact Ev.bind (goodE false (decide_eq_false h)) (Ev.const rfl)
def LinesOk (l : List S109) : Prop := ∀ x ∈ l, LineOk x
theorem linesOk_nil : LinesOk [] := fun x hx => by simp at hx
theorem rqW_of {k o p : Int} {l : List S109} {s f t q : Int} (h : RqOk k o p l s f t q) : RqW k o p l s f t := ⟨by have := h.hK1; have := h.hK7; omega, h.hO, h.hP, fun x hx => (h.hL x hx).1, h.hS, h.hF, h.hT⟩
/-- As RqOk, without what Plain tells. -/
structure RqV (k o p : Int) (l : List S109) (s f t q : Int) : Prop where
  hO : 0 ≤ o ∧ o < 4294967296
  hP : 0 ≤ p ∧ p < 256
  hL : LinesOk l
  hS : 0 ≤ s ∧ s < 256
  hF : 0 ≤ f ∧ f < 256
  hT : 0 ≤ t ∧ t < 256
  hQ : I64 q
theorem decode_span (s : ByteArray) (pos : Nat) (h : pos < s.size) : pos + (Utf8.decode s pos).2 ≤ s.size ∧ ∀ j, 1 ≤ j → j < (Utf8.decode s pos).2 → 128 ≤ (s.get! (pos + j)).toNat := by
  simp only [Utf8.decode]
  repeat' split
  all_goals simp_all
  all_goals first
    | omega
    | (refine ⟨by omega, fun j h1 h2 => ?_⟩
       have hj : j = 1 ∨ j = 2 ∨ j = 3 := by omega
       rcases hj with rfl | rfl | rfl <;> omega)
theorem get_ofL (l : List UInt8) (i : Nat) (h : i < l.length) : (ofL l)[i]'(by rw [ofL_size]; exact h) = l[i] := rfl
theorem getb_ofL (l : List UInt8) (i : Nat) (h : i < l.length) : (ofL l).get! i = l[i] := by
  have := Go.get_at (ofL l) i (by rw [ofL_size]; exact h)
  rw [Nat.add_zero] at this
  rw [this]
  rfl
/-- Over a line's bytes, none of which ends it. -/
theorem walk_line (A line B : List UInt8) (hline : (10 : UInt8) ∉ line) (hB : B = [] ∨ ∃ B', B = 10 :: B') (out : List S64) : ∀ (n : Nat) (i m : Nat), line.length ≤ i + n → i ≤ line.length → line.length - i ≤ m →
    ∃ m', m ≤ m' + (line.length - i) ∧ ∀ k, words_Parse.go k (ofL (A ++ line ++ B)) m (A.length + i) A.length out = words_Parse.go k (ofL (A ++ line ++ B)) m' (A.length + line.length) A.length out
  | n, i, m, hn, hi, hm => by
    by_cases hil : i = line.length
    · subst hil
      exact ⟨m, by omega, fun _ => rfl⟩
    · have hlt : i < line.length := by omega
      have hsz : (ofL (A ++ line ++ B)).size = A.length + line.length + B.length := by rw [ofL_size, List.length_append, List.length_append]
      have hps : A.length + i < (ofL (A ++ line ++ B)).size := by omega
      have hpl : A.length + i < (A ++ line ++ B).length := by simp only [List.length_append]; omega
      have hbyte : (ofL (A ++ line ++ B))[A.length + i]'hps = line[i] := by
        rw [get_ofL _ _ hpl, List.getElem_append_left (by simp only [List.length_append]; omega), List.getElem_append_right (by omega)]
        simp
      have hne : line[i] ≠ 10 := fun h => hline (h ▸ List.getElem_mem hlt)
      have hne2 : (line[i]).toNat ≠ 10 := fun h => hne (UInt8.toNat.inj h)
      obtain ⟨hsp, hcont⟩ := decode_span _ _ hps
      have hr : (Utf8.decode (ofL (A ++ line ++ B)) (A.length + i)).1 ≠ 10 ∧ 1 ≤ (Utf8.decode (ofL (A ++ line ++ B)) (A.length + i)).2 := by
        by_cases ha : (line[i]).toNat < 128
        · rw [decode_ascii _ _ hps (by rw [hbyte]; exact ha), hbyte]
          exact ⟨hne2, Nat.le_refl _⟩
        · obtain ⟨h1, h2⟩ := decode_high _ _ hps (by rw [hbyte]; omega)
          exact ⟨by omega, h2⟩
      generalize hw : (Utf8.decode (ofL (A ++ line ++ B)) (A.length + i)).2 = w at *
      have hwl : i + w ≤ line.length := by
        rcases hB with rfl | ⟨B', rfl⟩
        · rw [List.length_nil] at hsz
          omega
        · refine Decidable.byContradiction fun hc => ?_
          have h1 := hcont (line.length - i) (by omega) (by omega)
          have e : A.length + i + (line.length - i) = A.length + line.length := by omega
          rw [e, getb_ofL _ _ (by simp)] at h1
          rw [List.getElem_append_right (by simp)] at h1
          simp at h1
      obtain ⟨m0, rfl⟩ : ∃ m0, m = m0 + 1 := ⟨m - 1, by omega⟩
      obtain ⟨n0, rfl⟩ : ∃ n0, n = n0 + 1 := ⟨n - 1, by omega⟩
      obtain ⟨m', hm', he⟩ := walk_line A line B hline hB out n0 (i + w) m0 (by omega) hwl (by omega)
      refine ⟨m', by omega, fun k => ?_⟩
      rw [words_Parse.go, if_pos hps, if_neg hr.1, hw, Nat.add_assoc]
      exact he k
/-- An event out of an argument. -/
def EvIn (x : S64) : Prop := ByteL x.f4 ∧ (0 ≤ x.f1 ∧ x.f1 < 4294967296) ∧ x.f4.length ≤ 600
def prT (l : List S64) : List UInt8 := l.flatMap fun x => if GoodP x.f0 x.f1 x.f2 x.f3 x.f4 then lineT x.f0 x.f1 x.f2 x.f3 x.f4 ++ [10] else []
theorem lnT_len : ∀ l : List S109, (∀ x ∈ l, LineOk x) → (lnT l).length ≤ 44 * l.length
  | [], _ => by simp [lnT]
  | x :: l, h => by
    have h0 := h x (by simp)
    have a := nm_len x.f0 (u8_64 h0.1)
    have b := itoa_len20 x.f1 h0.2
    have c := lnT_len l (fun y hy => h y (by simp [hy]))
    have e : lnT (x :: l) = (nm x.f0 ++ (58 :: Lib.itoa x.f1)) ++ lnT l := rfl
    rw [e]
    simp only [List.length_append, List.length_cons]
    omega
theorem askT_len {k o p : Int} {l : List S109} {s f t q : Int} (h : RqOk k o p l s f t q) : (askT k o p l s f t q).length ≤ 400 := by
  have lo := nm_len o (u32_64 h.hO)
  have lp := nm_len p (u8_64 h.hP)
  have ls := nm_len s (u8_64 h.hS)
  have lf := nm_len f (u8_64 h.hF)
  have lt := nm_len t (u8_64 h.hT)
  have lq := nm_len q h.hQ
  have ll := lnT_len l h.hL
  have hN := h.hN
  unfold askT
  repeat' split
  all_goals simp only [List.length_append, show wPlace.length = 5 from rfl, show wCancel.length = 6 from rfl, show wShip.length = 4 from rfl, show wReturn.length = 6 from rfl, show wRestock.length = 7 from rfl, show wTransfer.length = 8 from rfl, show wQuery.length = 5 from rfl]
  all_goals omega
theorem lineT_len {k g p t : Int} {l : List Int} (h : GoodP k g p t l) (hb : ByteL l) (hg : 0 ≤ g ∧ g < 4294967296) : (lineT k g p t l).length ≤ 2000 := by
  obtain ⟨hk, hl0, hl, hg0, hpt⟩ := h
  have lg := nm_len g (u32_64 hg)
  have lp := nm_len p (by unfold I64; omega)
  have lt := nm_len t (by unfold I64; omega)
  have hh := hexL_len l
  unfold lineT
  split
  · unfold askedT
    split
    · rename_i h0
      have := askT_len (dec_fields hb h0)
      omega
    · split
      · decide
      · simp only [List.length_append, show askB.length = 4 from rfl]
        omega
  repeat' split
  all_goals simp only [List.length_append, show wPick.length = 4 from rfl, show wKill.length = 4 from rfl, show wWrite.length = 5 from rfl, show wSync.length = 4 from rfl, show wCkpt.length = 4 from rfl, show wCrash.length = 5 from rfl, show wBoot.length = 4 from rfl]
  all_goals omega
theorem prT_len : ∀ l : List S64, (∀ x ∈ l, EvIn x) → (prT l).length ≤ 2001 * l.length
  | [], _ => by simp [prT]
  | x :: l, h => by
    have h0 := h x (by simp)
    have c := prT_len l (fun y hy => h y (by simp [hy]))
    have e : prT (x :: l) = (if GoodP x.f0 x.f1 x.f2 x.f3 x.f4 then lineT x.f0 x.f1 x.f2 x.f3 x.f4 ++ [10] else []) ++ prT l := rfl
    rw [e]
    simp only [List.length_append, List.length_cons]
    split
    · rename_i hg
      have := lineT_len hg h0.1 h0.2.1
      simp only [List.length_append, List.length_cons, List.length_nil]
      omega
    · simp only [List.length_nil]
      omega
theorem rd25 (pre rest : List S64) (x : S64) : rd_T64 (pre ++ x :: rest) (pre.length : Int) = x := by simp [rd_T64, rdOf, List.getD_eq_getElem?_getD]
theorem same_one (x : S64) : pledgeref38_Same.f x.f0 x.f1 x.f2 x.f3 x.f4 x.f0 x.f1 x.f2 x.f3 x.f4 = some true := by
  rw [same_is, decide_eq_true ⟨rfl, rfl, rfl⟩, beq_self_eq_true]
  rfl
theorem sameAll0 (rest : List S64) : ∀ (pre : List S64), pre.length + rest.length ≤ 100000 → Ev (fun k => pledgeref38_SameAll.l0 k (pre ++ rest) (pre ++ rest) (pre.length : Int)) true := by
  induction rest with
  | nil =>
    intro pre _
    refine Ev.succ (f := fun _ => some true) (Ev.const rfl) (fun k => ?_)
    rw [pledgeref38_SameAll.l0, if_neg (by rw [List.append_nil]; omega)]
  | cons x rest ih =>
    intro pre hp
    rw [List.length_cons] at hp
    have q1 : (pre.length : Int) < ((pre ++ x :: rest).length : Int) := by simp only [List.length_append, List.length_cons]; omega
    have q2 : (0 : Int) ≤ (pre.length : Int) := by omega
    have q3 : pre.length ≤ 1000000000 := by omega
    have q4 : pre.length + 1 + rest.length ≤ 100000 := by omega
    have lp : (pre ++ [x]).length = pre.length + 1 := by rw [List.length_append]; rfl
    have ih2 := ih (pre ++ [x]) (by rw [lp]; exact q4)
    rw [List.append_assoc, List.singleton_append, lp] at ih2
    refine ih2.succ (fun k => ?_)
    rw [pledgeref38_SameAll.l0, if_pos q1, if_pos q2, if_pos q1, rd25, same_one, Option.bind_some, if_pos rfl, wr1 pre.length q3]
theorem sameAll_self (l : List S64) (h : l.length ≤ 100000) : Ev (fun k => pledgeref38_SameAll.f k l l) true := by
  have := sameAll0 l [] (by show 0 + _ ≤ _; omega)
  refine this.congr (fun k => ?_)
  unfold pledgeref38_SameAll.f
  rw [if_pos rfl]
  rfl
def exB : List Int := [1, 7, 0, 0, 0, 0, 2, 0, 5, 0, 0, 0, 0, 0, 0, 0, 2, 1, 0, 0, 0, 0, 0, 0, 0]
theorem itoa1 (d : Nat) (h : d < 10) : Lib.itoa (d : Int) = [UInt8.ofNat (48 + d)] := by
  unfold Lib.itoa
  rw [if_neg (by omega), Int.toNat_natCast, dd_small h]
theorem exB_dec : request_Decode.decF exB = (1, 7, 0, [⟨0, 5⟩, ⟨2, 1⟩], 0, 0, 0, 0, 0) := by kernel_rfl
theorem exB_bytes : ByteL exB := by unfold ByteL; decide
theorem exB_good : GoodP 1 0 0 0 exB := by decide
theorem exB_line : lineT 1 0 0 0 exB = [112, 108, 97, 99, 101, 32, 55, 32, 48, 32, 48, 58, 53, 32, 50, 58, 49] := by
  show askedT exB = _
  unfold askedT
  rw [exB_dec]
  show askT 1 7 0 [⟨0, 5⟩, ⟨2, 1⟩] 0 0 0 0 = _
  unfold askT
  rw [if_pos rfl]
  simp only [nm, lnT, List.flatMap_cons, List.flatMap_nil]
  rw [show (7 : Int) = ((7 : Nat) : Int) from rfl, show (0 : Int) = ((0 : Nat) : Int) from rfl, show (5 : Int) = ((5 : Nat) : Int) from rfl, show (2 : Int) = ((2 : Nat) : Int) from rfl, show (1 : Int) = ((1 : Nat) : Int) from rfl]
  rw [itoa1 7 (by omega), itoa1 0 (by omega), itoa1 5 (by omega), itoa1 2 (by omega), itoa1 1 (by omega)]
  rfl
theorem crash_line : lineT 7 0 3 40 [] = [99, 114, 97, 115, 104, 32, 51, 32, 52, 48] := by
  show wCrash ++ (nm 3 ++ nm 40) = _
  have h40 : Lib.itoa 40 = [52, 48] := by
    unfold Lib.itoa
    rw [if_neg (by omega), show (40 : Int).toNat = 40 from rfl, dd_big (by omega), dd_small (by omega)]
    rfl
  simp only [nm]
  rw [h40, show (3 : Int) = ((3 : Nat) : Int) from rfl, itoa1 3 (by omega)]
  rfl
theorem works_ev : Ev (fun k => pledgelaw39_works.f k) true := by
  have hr := prog_read_good exB_good exB_bytes (by omega) (by rw [exB_line]; decide)
  have hl := prog_line exB_good exB_bytes (by omega)
  have hc := prog_line (k := 7) (g := 0) (p := 3) (t := 40) (l := []) (by decide) byteL_nil (by omega)
  rw [exB_line] at hr hl
  rw [crash_line] at hc
  unfold pledgelaw39_works.f
  refine Ev.bind hr ?_
  refine Ev.congr (f := fun k => (words_Line.f k 1 0 0 0 exB).bind fun t238 => (if t238.toList = ([112, 108, 97, 99, 101, 32, 55, 32, 48, 32, 48, 58, 53, 32, 50, 58, 49] : List UInt8) then ((words_Line.f k 7 0 3 40 ([] : List Int)).bind fun t239 => (some (t239.toList == ([99, 114, 97, 115, 104, 32, 51, 32, 52, 48] : List UInt8)))) else (some false))) ?_ (fun k => ?_)
  · refine Ev.bind hl ?_
    simp only [ofL_toList, if_pos (show True from trivial), eq_self_iff_true, if_true]
    exact Ev.bind hc (Ev.const (by rw [ofL_toList]; rfl))
  · rfl
theorem prog_line_bad {k g p t : Int} {l : List Int} (h : ¬ GoodP k g p t l) : Ev (fun m => words_Line.f m k g p t l) (ofL []) := by
  unfold words_Line.f
  exact Ev.bind (goodE false (decide_eq_false h)) (Ev.const rfl)
def rdR : Option S64 → Int × Int × Int × Int × List Int × Int
  | some e => (e.f0, e.f1, e.f2, e.f3, e.f4, 0)
  | none => (0, 0, 0, 0, [], 8)
theorem read_p (s : List UInt8) (hs : s.length ≤ 100000) : ∃ o : Option S64, Ev (fun m => words_Read.f m (ofL s)) (rdR o) := by
  by_cases h : ∃ k g p t l, GoodP k g p t l ∧ ByteL l ∧ (0 ≤ g ∧ g < 4294967296) ∧ lineT k g p t l = s
  · obtain ⟨k, g, p, t, l, hg, hb, hr, rfl⟩ := h
    exact ⟨some ⟨k, g, p, t, l⟩, prog_read_good hg hb hr hs⟩
  · exact ⟨none, prog_read_bad hs (fun k g p t l hg hb hr e => h ⟨k, g, p, t, l, hg, hb, hr, e⟩)⟩
open Classical in
noncomputable def readO (s : List UInt8) : Option S64 := if h : s.length ≤ 100000 then Classical.choose (read_p s h) else none
theorem readO_ev (s : List UInt8) (hs : s.length ≤ 100000) : Ev (fun m => words_Read.f m (ofL s)) (rdR (readO s)) := by
  unfold readO
  rw [dif_pos hs]
  exact Classical.choose_spec (read_p s hs)
noncomputable def pL : List (List UInt8) → List S64 → List S64 × Int × Int
  | [], acc => (acc, (acc.length : Int), 0)
  | x :: r, acc => if r = [] then (if x = [] then (acc, (acc.length : Int), 0) else ([], (acc.length : Int) + 1, 6)) else if acc.length = 1024 then ([], 1025, 7) else match readO x with
    | some e => pL r (acc ++ [e])
    | none => ([], (acc.length : Int) + 1, 8)
theorem parse_pL (S : List UInt8) (hS : S.length ≤ 6000) : ∀ (n : Nat) (B A : List UInt8) (acc : List S64) (m : Nat), B.length ≤ n → A ++ B = S → B.length < m →
    Ev (fun k => words_Parse.go k (ofL S) m A.length A.length acc) (pL (splitL 10 B) acc)
  | n, B, A, acc, m, hn, hAB, hm => by
    have hSl : A.length + B.length = S.length := by rw [← hAB, List.length_append]
    have hsz : (ofL S).size = S.length := ofL_size S
    by_cases h10 : (10 : UInt8) ∈ B
    · obtain ⟨line, B', rfl, hline⟩ := List.eq_append_cons_of_mem h10
      have hBl : (line ++ 10 :: B').length = line.length + B'.length + 1 := by simp only [List.length_append, List.length_cons]; omega
      rw [hBl] at hn hm hSl
      rw [splitL_app 10 B' line hline]
      have hS2 : A ++ line ++ 10 :: B' = S := by rw [List.append_assoc]; exact hAB
      obtain ⟨m1, hm1, hgo⟩ := walk_line A line (10 :: B') hline (.inr ⟨B', rfl⟩) acc line.length 0 m (by omega) (by omega) (by omega)
      rw [hS2, Nat.add_zero] at hgo
      obtain ⟨m2, rfl⟩ : ∃ m2, m1 = m2 + 1 := ⟨m1 - 1, by omega⟩
      have hps : A.length + line.length < (ofL S).size := by omega
      have hby : (ofL S)[A.length + line.length]'hps = 10 := by
        have h2 : S[A.length + line.length]? = some 10 := by
          rw [← hS2, List.append_assoc, List.getElem?_append_right (by omega), show A.length + line.length - A.length = line.length from by omega, List.getElem?_append_right (by omega)]
          simp
        rw [get_ofL S _ (by omega)]
        exact (List.getElem?_eq_some_iff.1 h2).2
      have hdec : Utf8.decode (ofL S) (A.length + line.length) = (10, 1) := by
        rw [decode_ascii _ _ hps (by rw [hby]; decide), hby]
        rfl
      have hex : (ofL S).extract A.length (A.length + line.length) = ofL line := by
        rw [extract_ofL, ← hS2, show A.length + line.length = (A ++ line).length from by rw [List.length_append], List.take_left, List.drop_left]
      have hll : line.length ≤ 100000 := by omega
      rw [pL, if_neg (splitL_ne 10 B')]
      by_cases h1024 : acc.length = 1024
      · rw [if_pos h1024]
        refine ⟨0, fun k _ => ?_⟩
        dsimp only
        rw [hgo k, words_Parse.go, if_pos hps, hdec, if_pos rfl, if_pos h1024]
      · rw [if_neg h1024]
        have a4 : (A ++ line ++ [10]).length = A.length + line.length + 1 := by simp only [List.length_append, List.length_cons, List.length_nil]
        have a5 : n - 1 < n := by omega
        have hpg : ∀ R, Ev (fun k => (words_Read.f k (ofL line)).bind fun q => if q.2.2.2.2.2 = 0 then words_Parse.go k (ofL S) m2 (A.length + line.length + 1) (A.length + line.length + 1) (acc ++ [⟨q.1, q.2.1, q.2.2.1, q.2.2.2.1, q.2.2.2.2.1⟩]) else some ([], (acc.length : Int) + 1, q.2.2.2.2.2)) R → Ev (fun k => words_Parse.go k (ofL S) m A.length A.length acc) R := fun R h => h.congr (fun k => by
          rw [hgo k, words_Parse.go, if_pos hps, hdec, if_pos rfl, if_neg h1024, hex])
        have he := readO_ev line hll
        cases hr : readO line with
        | some e =>
          rw [hr] at he
          have ih := parse_pL S hS (n - 1) B' (A ++ line ++ [10]) (acc ++ [e]) m2 (by omega) (by rw [← hS2]; simp) (by omega)
          rw [a4] at ih
          exact hpg _ (Ev.bind he ih)
        | none =>
          rw [hr] at he
          exact hpg _ (Ev.bind he (Ev.const rfl))
    · rw [splitL_none 10 B h10, pL, if_pos rfl]
      have hS2 : A ++ B ++ [] = S := by rw [List.append_nil]; exact hAB
      obtain ⟨m1, hm1, hgo⟩ := walk_line A B [] h10 (.inl rfl) acc B.length 0 m (by omega) (by omega) (by omega)
      rw [hS2, Nat.add_zero] at hgo
      obtain ⟨m2, rfl⟩ : ∃ m2, m1 = m2 + 1 := ⟨m1 - 1, by omega⟩
      have hps : ¬ (A.length + B.length < (ofL S).size) := by omega
      by_cases hB : B = []
      · subst hB
        rw [if_pos rfl]
        refine ⟨0, fun k _ => ?_⟩
        dsimp only
        rw [hgo k, words_Parse.go, if_neg hps, if_neg (by rw [List.length_nil] at hSl; omega)]
      · have hBl := List.length_pos_iff.2 hB
        rw [if_neg hB]
        refine ⟨0, fun k _ => ?_⟩
        dsimp only
        rw [hgo k, words_Parse.go, if_neg hps, if_pos (by omega)]
theorem parse_is (S : List UInt8) (hS : S.length ≤ 6000) : Ev (fun k => words_Parse.f k (ofL S)) (pL (splitL 10 S) []) := by
  refine (parse_pL S hS S.length S [] [] (S.length + 1) (Nat.le_refl _) rfl (by omega)).congr (fun k => ?_)
  unfold words_Parse.f
  rw [if_pos (by rw [ofL_size]; omega), ofL_size]
  rfl
theorem pL_fine (t : List UInt8) : ∀ (n : Nat) (B : List UInt8) (acc : List S64), B.length ≤ n → (pL (splitL 10 B) acc).2.2 = 0 → pL (splitL 10 (B ++ t)) acc = pL (splitL 10 t) (pL (splitL 10 B) acc).1 ∧ (pL (splitL 10 B) acc).2.1 = ((pL (splitL 10 B) acc).1.length : Int)
  | n, B, acc, hn, h0 => by
    by_cases h10 : (10 : UInt8) ∈ B
    · obtain ⟨line, B', rfl, hline⟩ := List.eq_append_cons_of_mem h10
      have hBl : (line ++ 10 :: B').length = line.length + B'.length + 1 := by simp only [List.length_append, List.length_cons]; omega
      have a5 : n - 1 < n := by omega
      rw [splitL_app 10 B' line hline, pL, if_neg (splitL_ne 10 B')] at h0 ⊢
      rw [List.append_assoc, List.cons_append, splitL_app 10 (B' ++ t) line hline, pL, if_neg (splitL_ne 10 (B' ++ t))]
      by_cases h1024 : acc.length = 1024
      · rw [if_pos h1024] at h0
        exact absurd h0 (show ¬ ((7 : Int) = 0) by decide)
      · rw [if_neg h1024] at h0
        rw [if_neg h1024, if_neg h1024]
        cases hr : readO line with
        | some e =>
          rw [hr] at h0
          exact pL_fine t (n - 1) B' (acc ++ [e]) (by omega) h0
        | none =>
          rw [hr] at h0
          exact absurd h0 (show ¬ ((8 : Int) = 0) by decide)
    · rw [splitL_none 10 B h10, pL, if_pos rfl] at h0 ⊢
      by_cases hB : B = []
      · subst hB
        rw [if_pos rfl]
        exact ⟨rfl, rfl⟩
      · rw [if_neg hB] at h0
        exact absurd h0 (show ¬ ((6 : Int) = 0) by decide)
theorem pL_ge : ∀ (L : List (List UInt8)) (acc : List S64), (acc.length : Int) ≤ (pL L acc).2.1
  | [], acc => by simp [pL]
  | x :: r, acc => by
    rw [pL]
    split
    · split
      · exact Int.le_refl _
      · show (acc.length : Int) ≤ (acc.length : Int) + 1
        omega
    · split
      · show (acc.length : Int) ≤ 1025
        omega
      · cases readO x with
        | some e =>
          have := pL_ge r (acc ++ [e])
          rw [List.length_append] at this
          show (acc.length : Int) ≤ (pL r (acc ++ [e])).2.1
          simp only [List.length_cons, List.length_nil] at this
          omega
        | none =>
          show (acc.length : Int) ≤ (acc.length : Int) + 1
          omega
theorem pL_shift (pre : List S64) : ∀ (L : List (List UInt8)) (acc : List S64), (pre.length : Int) + (pL L acc).2.1 ≤ 1000 →
    ((pL L acc).2.2 = 0 → pL L (pre ++ acc) = (pre ++ (pL L acc).1, (pre.length : Int) + (pL L acc).2.1, 0)) ∧ ((pL L acc).2.2 ≠ 0 → pL L (pre ++ acc) = ([], (pre.length : Int) + (pL L acc).2.1, (pL L acc).2.2))
  | [], acc, _ => by simp [pL]
  | x :: r, acc, h => by
    have hge := pL_ge (x :: r) acc
    have hl : (pre ++ acc).length = pre.length + acc.length := List.length_append
    have n1 : ¬ acc.length = 1024 := by omega
    have n2 : ¬ (pre ++ acc).length = 1024 := by omega
    rw [pL] at h ⊢
    rw [pL]
    by_cases hr : r = []
    · rw [if_pos hr] at h ⊢
      rw [if_pos hr]
      by_cases hx : x = []
      · rw [if_pos hx, if_pos hx]
        refine ⟨fun _ => ?_, fun h => absurd rfl h⟩
        rw [hl]
        simp
      · rw [if_neg hx, if_neg hx]
        refine ⟨fun h => absurd h (show ¬ ((6 : Int) = 0) by decide), fun _ => ?_⟩
        rw [hl]
        simp only [Prod.mk.injEq, true_and, and_true]
        omega
    · rw [if_neg hr] at h ⊢
      rw [if_neg hr]
      rw [if_neg n1] at h ⊢
      rw [if_neg n2]
      cases hq : readO x with
      | some e =>
        rw [hq] at h
        have ih := pL_shift pre r (acc ++ [e]) h
        rw [← List.append_assoc] at ih
        exact ih
      | none =>
        refine ⟨fun h => absurd h (show ¬ ((8 : Int) = 0) by decide), fun _ => ?_⟩
        rw [hl]
        simp only [Prod.mk.injEq, true_and, and_true]
        omega
theorem pL_small : ∀ (L : List (List UInt8)) (acc : List S64), (pL L acc).1.length ≤ acc.length + L.length
  | [], acc => by simp [pL]
  | x :: r, acc => by
    rw [pL]
    split
    · split
      · show acc.length ≤ _
        omega
      · exact Nat.zero_le _
    · split
      · exact Nat.zero_le _
      · cases readO x with
        | some e =>
          have := pL_small r (acc ++ [e])
          rw [List.length_append] at this
          show (pL r (acc ++ [e])).1.length ≤ _
          simp only [List.length_cons, List.length_nil] at this ⊢
          omega
        | none => exact Nat.zero_le _
theorem pL_le : ∀ (L : List (List UInt8)) (acc : List S64), (pL L acc).2.1 ≤ (acc.length : Int) + (L.length : Int) + 1025
  | [], acc => by
    show (acc.length : Int) ≤ _
    simp only [List.length_nil]
    omega
  | x :: r, acc => by
    rw [pL]
    split
    · split
      · show (acc.length : Int) ≤ _
        omega
      · show (acc.length : Int) + 1 ≤ _
        omega
    · split
      · show (1025 : Int) ≤ _
        omega
      · cases readO x with
        | some e =>
          have := pL_le r (acc ++ [e])
          rw [List.length_append] at this
          show (pL r (acc ++ [e])).2.1 ≤ _
          simp only [List.length_cons, List.length_nil] at this ⊢
          omega
        | none =>
          show (acc.length : Int) + 1 ≤ _
          omega
end Go.Proofs.YtpnehgajhpejjaaDoor.W
