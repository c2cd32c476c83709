import Derived.Test.YtpnehgajhpejjaaDoorSStatKeySets
/- The pure statement of KeySets: the sorted keys, each once, are the document's. -/
namespace Go.Proofs.YtpnehgajhpejjaaDoor.S
open Go.RowKit Go.Proofs.YtpnehgajhpejjaaDoorW.PrintWords
theorem works40 : pledgelaw04_works.f 40 = some true := by kernel_rfl
theorem works_k {k : Nat} (h : 40 ≤ k) : pledgelaw04_works.f k = some true := at_rounds pledgelaw04_works.mono h works40
theorem lt_irr (x : S23) : ltK x x = false := by rw [← Bool.not_eq_true, ltK_iff]; omega
theorem lt_trans {x y z : S23} (h1 : ltK x y = true) (h2 : ltK y z = true) : ltK x z = true := by rw [ltK_iff] at *; omega
theorem lt_total (x y : S23) (h : ltK x y = false) : x = y ∨ ltK y x = true := by
  rw [← Bool.not_eq_true, ltK_iff] at h
  rw [ltK_iff]
  by_cases e : x = y
  · exact .inl e
  · refine .inr ?_
    obtain ⟨a, b, c⟩ := x
    obtain ⟨a', b', c'⟩ := y
    simp only [S23.mk.injEq] at *
    omega
theorem less_is (x y : S23) : pledgeref04_Less.f x.f0 x.f1 x.f2 y.f0 y.f1 y.f2 = some (ltK x y) := by
  have h := ltK_iff x y
  simp only [pledgeref04_Less.f]
  (repeat' split) <;> congr 1 <;> rw [Bool.eq_iff_iff, h] <;> simp only [decide_eq_true_eq] <;> omega
/-- A list with one more at its place, from here on; d: is it laid. -/
def wG (a : S23) : List S23 → Bool → List S23
  | [], d => if d = true then [] else [a]
  | x :: r, d => (if d = false ∧ ltK x a = false then [a] else []) ++ (if x = a then [] else [x]) ++ wG a r (d || !ltK x a)
theorem wG_len (a : S23) : ∀ (l : List S23) (d : Bool), (wG a l d).length ≤ l.length + (if d = true then 0 else 1)
  | [], d => by cases d <;> simp [wG]
  | x :: r, d => by
    have h := wG_len a r (d || !ltK x a)
    unfold wG
    rw [List.length_append, List.length_append]
    have hx : (if x = a then [] else [x]).length ≤ 1 := by split <;> simp
    generalize ltK x a = b at *
    generalize (if x = a then [] else [x]) = u at *
    cases d <;> cases b <;> simp at h ⊢ <;> omega
theorem ne_is (x y : S23) : ((!(x.f0 == y.f0) || (!(x.f1 == y.f1) || (!(x.f2 == y.f2)))) = true) ↔ x ≠ y := by
  obtain ⟨a, b, c⟩ := x
  obtain ⟨a', b', c'⟩ := y
  simp only [ne_eq, S23.mk.injEq]
  simp
  omega
theorem wrap_small (z : Int) (h0 : 0 ≤ z) (h1 : z < 1000) : wrap64 z = z := by unfold wrap64; omega
theorem with_l (x0 : List S23) (a : S23) (h0 : x0.length ≤ 200) : ∀ (m i : Nat), i + m = x0.length → ∀ (k : Nat) (acc : List S23) (d : Bool), 2 * m + 1 ≤ k → acc.length + 2 * m ≤ 1000 →
    pledgeref04_With.l0 k x0 acc d (i : Int) a.f0 a.f1 a.f2 = some (acc ++ wG a (x0.drop i) d)
  | 0, i, hi, k, acc, d, hk, hacc => by
    obtain ⟨k, rfl⟩ : ∃ k', k = k' + 1 := ⟨k - 1, by omega⟩
    rw [pledgeref04_With.l0, if_neg (by omega), List.drop_eq_nil_of_le (by omega)]
    cases d
    · rw [if_neg (by decide), if_pos (by omega)]
      simp [wG]
    · simp [wG]
  | m + 1, i, hi, k, acc, d, hk, hacc => by
    obtain ⟨k, rfl⟩ : ∃ k', k = k' + 2 := ⟨k - 2, by omega⟩
    have hlt : i < x0.length := by omega
    have hx : rd_T23 x0 (i : Int) = x0[i] := rd_at x0 i hlt
    have hd : x0.drop i = x0[i] :: x0.drop (i + 1) := List.drop_eq_getElem_cons hlt
    have hw : wrap64 ((i : Int) + 1) = ((i + 1 : Nat) : Int) := by rw [wrap_small _ (by omega) (by omega)]; omega
    have ih := with_l x0 a h0 m (i + 1) (by omega)
    rw [pledgeref04_With.l0, if_pos (by omega : (i : Int) < (x0.length : Int)), hx, hd]
    generalize x0[i] = x at *
    have hj : ∀ (acc : List S23) (d b : Bool), acc.length + 2 * (m + 1) ≤ 1000 → (d = true → b = false) → pledgeref04_With.j1 (k + 1) x0 acc d (i : Int) b a.f0 a.f1 a.f2 = some (acc ++ ((if b = true then [a] else []) ++ (if x = a then [] else [x]) ++ wG a (x0.drop (i + 1)) (d || b))) := by
      intro acc d b hacc hdb
      have hi0 : (0 : Int) ≤ (i : Int) := by omega
      have hil : (i : Int) < (x0.length : Int) := by omega
      rw [pledgeref04_With.j1]
      cases b
      · simp only [Bool.false_eq_true, if_false, hi0, hil, if_true, hx, hw]
        by_cases he : x = a
        · rw [if_neg (fun h => (ne_is x a).1 h he), ih k acc d (by omega) (by omega)]
          simp [he]
        · rw [if_pos ((ne_is x a).2 he), if_pos (by omega), ih k _ d (by omega) (by simp; omega)]
          simp [he]
      · obtain rfl : d = false := by cases d <;> simp_all
        simp only [if_true, hi0, hil, hx, hw]
        rw [if_pos (by omega), Option.bind_some]
        by_cases he : x = a
        · rw [if_neg (fun h => (ne_is x a).1 h he), ih k _ true (by omega) (by simp; omega)]
          simp [he]
        · rw [if_pos ((ne_is x a).2 he), if_pos (by simp; omega), ih k _ true (by omega) (by simp; omega)]
          simp [he]
    cases d
    · rw [if_neg (by decide), if_pos (by omega : (0 : Int) ≤ (i : Int)), less_is, Option.bind_some, hj acc false _ (by omega) (by simp)]
      cases hl : ltK x a <;> simp [wG, hl]
    · rw [if_pos rfl, hj acc true false (by omega) (by simp)]
      simp [wG]
theorem with_is (l : List S23) (a : S23) (k : Nat) (h : l.length ≤ 200) (hk : 500 ≤ k) : pledgeref04_With.f k l a.f0 a.f1 a.f2 = some (wG a l false) := by
  have := with_l l a h l.length 0 (by omega) k [] false (by omega) (by simp; omega)
  simpa [pledgeref04_With.f] using this
def rset (l acc : List S23) : List S23 := l.foldl (fun acc x => wG x acc false) acc
theorem set_l (x0 : List S23) (h0 : x0.length ≤ 100) : ∀ (m i : Nat), i + m = x0.length → ∀ (k : Nat) (acc : List S23), m + 501 ≤ k → acc.length ≤ i →
    pledgeref04_Set.l0 k x0 acc (i : Int) = some (rset (x0.drop i) acc)
  | 0, i, hi, k, acc, hk, ha => by
    obtain ⟨k, rfl⟩ : ∃ k', k = k' + 1 := ⟨k - 1, by omega⟩
    rw [pledgeref04_Set.l0, if_neg (by omega), List.drop_eq_nil_of_le (by omega)]
    rfl
  | m + 1, i, hi, k, acc, hk, ha => by
    obtain ⟨k, rfl⟩ : ∃ k', k = k' + 1 := ⟨k - 1, by omega⟩
    have hlt : i < x0.length := by omega
    have hw : wrap64 ((i : Int) + 1) = ((i + 1 : Nat) : Int) := by rw [wrap_small _ (by omega) (by omega)]; omega
    have hl := wG_len x0[i] acc false
    simp at hl
    rw [pledgeref04_Set.l0, if_pos (by omega), if_pos (by omega), rd_at x0 i hlt, with_is _ _ _ (by omega) (by omega), Option.bind_some, hw, set_l x0 h0 m (i + 1) (by omega) k _ (by omega) (by omega), List.drop_eq_getElem_cons hlt]
    rfl
abbrev Up (l : List S23) : Prop := l.Pairwise fun x y => ltK x y = true
theorem mem_wG (a y : S23) : ∀ (l : List S23) (d : Bool), y ∈ wG a l d ↔ (y ∈ l ∧ y ≠ a) ∨ (d = false ∧ y = a)
  | [], d => by cases d <;> simp [wG]
  | x :: r, d => by
    have h := mem_wG a y r (d || !ltK x a)
    unfold wG
    rw [List.mem_append, List.mem_append, h]
    cases d <;> cases hl : ltK x a <;> by_cases hx : x = a <;> by_cases hy : y = a <;> simp_all <;> grind
theorem up_wG (a : S23) : ∀ (l : List S23) (d : Bool), Up l → (d = true → ∀ x ∈ l, ltK x a = false) → Up (wG a l d)
  | [], d, _, _ => by cases d <;> simp [wG]
  | x :: r, d, h, hd => by
    obtain ⟨h1, h2⟩ := List.pairwise_cons.1 h
    have h3 : (d || !ltK x a) = true → ∀ y ∈ r, ltK y a = false := fun e y hy => by
      cases d
      · cases hl : ltK x a
        · cases hya : ltK y a
          · rfl
          · exact absurd (lt_trans (h1 y hy) hya) (by simp [hl])
        · simp [hl] at e
      · exact hd rfl y (List.mem_cons_of_mem _ hy)
    have ih := up_wG a r (d || !ltK x a) h2 h3
    unfold wG
    by_cases hx : x = a
    · subst hx
      have hm := fun y => mem_wG x y r (d || !ltK x x)
      cases d
      · simp only [lt_irr, and_self, if_true, List.append_nil, List.singleton_append] at ih hm ⊢
        refine List.pairwise_cons.2 ⟨fun y hy => ?_, by simpa using ih⟩
        rcases (hm y).1 hy with ⟨hy, _⟩ | ⟨hf, _⟩
        · exact h1 y hy
        · simp at hf
      · simpa using ih
    · rw [if_neg hx]
      cases d
      · cases hl : ltK x a
        · have hax : ltK a x = true := (lt_total x a hl).resolve_left hx
          simp only [hl, and_self, if_true, List.cons_append, List.nil_append, Bool.not_false, Bool.or_true] at ih ⊢
          refine List.pairwise_cons.2 ⟨fun y hy => ?_, List.pairwise_cons.2 ⟨fun y hy => ?_, ih⟩⟩
          · rcases List.mem_cons.1 hy with rfl | hy
            · exact hax
            · rcases (mem_wG a y r true).1 hy with ⟨hy, _⟩ | ⟨hf, _⟩
              · exact lt_trans hax (h1 y hy)
              · cases hf
          · rcases (mem_wG a y r true).1 hy with ⟨hy, _⟩ | ⟨hf, _⟩
            · exact h1 y hy
            · cases hf
        · simp only [hl] at ih ⊢
          simp only [Bool.true_eq_false, and_false, if_false, List.nil_append, List.singleton_append]
          refine List.pairwise_cons.2 ⟨fun y hy => ?_, by simpa using ih⟩
          rcases (mem_wG a y r _).1 hy with ⟨hy, _⟩ | ⟨_, rfl⟩
          · exact h1 y hy
          · exact hl
      · simp only [Bool.true_eq_false, false_and, if_false, List.nil_append, List.singleton_append, Bool.true_or] at ih ⊢
        refine List.pairwise_cons.2 ⟨fun y hy => ?_, ih⟩
        rcases (mem_wG a y r true).1 hy with ⟨hy, _⟩ | ⟨hf, _⟩
        · exact h1 y hy
        · cases hf
theorem rset_up : ∀ (l acc : List S23), Up acc → Up (rset l acc)
  | [], acc, h => h
  | x :: r, acc, h => rset_up r _ (up_wG x acc false h (by simp))
theorem mem_rset (y : S23) : ∀ (l acc : List S23), y ∈ rset l acc ↔ y ∈ l ∨ y ∈ acc
  | [], acc => by simp [rset]
  | x :: r, acc => by
    have h := mem_rset y r (wG x acc false)
    have e : rset (x :: r) acc = rset r (wG x acc false) := rfl
    rw [e, h, mem_wG]
    by_cases hy : y = x <;> simp [hy]
theorem up_eq : ∀ (a b : List S23), Up a → Up b → (∀ y, y ∈ a ↔ y ∈ b) → a = b
  | [], [], _, _, _ => rfl
  | [], y :: b, _, _, h => absurd ((h y).2 (by simp)) (by simp)
  | x :: a, [], _, _, h => absurd ((h x).1 (by simp)) (by simp)
  | x :: a, y :: b, ha, hb, h => by
    obtain ⟨a1, a2⟩ := List.pairwise_cons.1 ha
    obtain ⟨b1, b2⟩ := List.pairwise_cons.1 hb
    have hxy : x = y := by
      rcases List.mem_cons.1 ((h x).1 (by simp)) with e | h1
      · exact e
      · rcases List.mem_cons.1 ((h y).2 (by simp)) with e | h2
        · exact e.symm
        · exact absurd (lt_trans (b1 x h1) (a1 y h2)) (by simp [lt_irr])
    subst hxy
    rw [up_eq a b a2 b2 (fun z => ?_)]
    constructor
    · intro hz
      rcases List.mem_cons.1 ((h z).1 (List.mem_cons_of_mem _ hz)) with rfl | hz'
      · exact absurd (a1 z hz) (by simp [lt_irr])
      · exact hz'
    · intro hz
      rcases List.mem_cons.1 ((h z).2 (List.mem_cons_of_mem _ hz)) with rfl | hz'
      · exact absurd (b1 z hz) (by simp [lt_irr])
      · exact hz'
theorem mem_ddK (l : List S23) (y : S23) : ∀ j, j ≤ l.length → (y ∈ ddK l j ↔ y ∈ l.take j)
  | 0, _ => by simp [ddK]
  | j + 1, h => by
    have ih := mem_ddK l y j (by omega)
    have hlt : j < l.length := by omega
    have e : l.take (j + 1) = l.take j ++ [l[j]] := by rw [List.take_append_getElem]
    unfold ddK
    rw [e, rd_at l j hlt, List.mem_append, List.mem_singleton]
    split
    · rename_i hin
      have hin' : l[j] ∈ l.take j := by simpa [inK] using hin
      rw [ih]
      constructor
      · exact .inl
      · rintro (h | rfl)
        · exact h
        · exact hin'
    · rw [List.mem_append, List.mem_singleton, ih]
theorem nodup_ddK (l : List S23) : ∀ j, j ≤ l.length → (ddK l j).Nodup
  | 0, _ => by simp [ddK]
  | j + 1, h => by
    have ih := nodup_ddK l j (by omega)
    have hlt : j < l.length := by omega
    unfold ddK
    rw [rd_at l j hlt]
    split
    · exact ih
    · rename_i hin
      refine List.nodup_append.2 ⟨ih, by simp, fun a ha b hb => ?_⟩
      rw [List.mem_singleton] at hb
      subst hb
      intro e
      subst e
      exact hin (by simpa [inK] using (mem_ddK l _ j (by omega)).1 ha)
theorem up_sort {l : List S23} (h : l.Nodup) : Up (sortK l) := by
  have hp : (sortK l).Perm l := List.mergeSort_perm _ _
  have hs : (sortK l).Pairwise fun x y => (!(ltK y x)) = true := List.pairwise_mergeSort (fun a b c h1 h2 => by
      simp only [Bool.not_eq_true'] at *
      rw [← Bool.not_eq_true, ltK_iff] at *
      omega) (fun a b => by
      simp only [Bool.or_eq_true, Bool.not_eq_true']
      rw [← Bool.not_eq_true, ← Bool.not_eq_true, ltK_iff, ltK_iff]
      omega) l
  have hn : (sortK l).Nodup := hp.nodup_iff.2 h
  refine (hs.and hn).imp (fun {x y} h => ?_)
  obtain ⟨h1, h2⟩ := h
  have h1' : ltK y x = false := by simpa using h1
  exact (lt_total y x h1').resolve_left (fun e => h2 e.symm)
theorem mem_sort (l : List S23) (y : S23) : y ∈ sortK l ↔ y ∈ l := (List.mergeSort_perm l _).mem_iff
theorem same_l (l : List S23) (h0 : l.length ≤ 200) : ∀ (m i : Nat), i + m = l.length → ∀ k, m + 1 ≤ k → pledgeref04_Same.l0 k l l (i : Int) = some true
  | 0, i, hi, k, hk => by
    obtain ⟨k, rfl⟩ : ∃ k', k = k' + 1 := ⟨k - 1, by omega⟩
    rw [pledgeref04_Same.l0, if_neg (by omega)]
  | m + 1, i, hi, k, hk => by
    obtain ⟨k, rfl⟩ : ∃ k', k = k' + 1 := ⟨k - 1, by omega⟩
    have hw : wrap64 ((i : Int) + 1) = ((i + 1 : Nat) : Int) := by rw [wrap_small _ (by omega) (by omega)]; omega
    rw [pledgeref04_Same.l0, if_pos (by omega), if_pos (by omega), if_pos (by omega), if_neg (by simp), hw]
    exact same_l l h0 m (i + 1) (by omega) k (by omega)
theorem same_is (l : List S23) (h0 : l.length ≤ 200) (k : Nat) (hk : 300 ≤ k) : pledgeref04_Same.f k l l = some true := by
  unfold pledgeref04_Same.f
  rw [if_pos rfl]
  exact same_l l h0 l.length 0 (by omega) k (by omega)
theorem KeySets : pledgelaw04_KeySets.Pure := by
  intro x0 hw
  refine ⟨1000, ?_⟩
  have hmn : mn (x0.length : Int) 100 = ((min x0.length 100 : Nat) : Int) := by simp only [mn]; split <;> omega
  unfold pledgelaw04_KeySets.f
  rw [hmn, if_pos (by omega), if_pos (by omega), Option.bind_some, Int.toNat_natCast]
  have hwf : ∀ x ∈ x0.take (min x0.length 100), wfK x = true := fun x hx => by
    obtain ⟨h0, h1, h2⟩ := hw x (List.mem_of_mem_take hx)
    simp only [wfK, Bool.and_eq_true]
    exact ⟨⟨h0, h1⟩, h2⟩
  have hlen : (x0.take (min x0.length 100)).length ≤ 100 := by simp; omega
  generalize x0.take (min x0.length 100) = y at *
  have hset : ∀ l : List S23, l.length ≤ 100 → (∀ x ∈ l, wfK x = true) → key_Set.f l = some (sortK (ddK l l.length)) := fun l h1 h2 => by
    unfold key_Set.f
    rw [if_pos ⟨by omega, List.all_eq_true.2 h2⟩]
  have hup : ∀ l : List S23, Up (sortK (ddK l l.length)) := fun l => up_sort (nodup_ddK l _ (Nat.le_refl _))
  have hmem : ∀ (l : List S23) z, z ∈ sortK (ddK l l.length) ↔ z ∈ l := fun l z => by rw [mem_sort, mem_ddK l z _ (Nat.le_refl _), List.take_length]
  have hsl : (sortK (ddK y y.length)).length ≤ 100 := by
    have : (sortK (ddK y y.length)).length = (ddK y y.length).length := (List.mergeSort_perm _ _).length_eq
    have := ddK_len y y.length
    omega
  have href : pledgeref04_Set.f 1000 y = some (sortK (ddK y y.length)) := by
    have h := set_l y hlen y.length 0 (by omega) 1000 [] (by omega) (by simp)
    have e : rset y [] = sortK (ddK y y.length) := up_eq _ _ (rset_up y [] (by simp)) (hup y) (fun z => by rw [hmem, mem_rset]; simp)
    simpa [pledgeref04_Set.f, e] using h
  have hag : sortK (ddK (sortK (ddK y y.length)) (sortK (ddK y y.length)).length) = sortK (ddK y y.length) := up_eq _ _ (hup _) (hup _) (fun z => by rw [hmem])
  rw [hset y hlen hwf, Option.bind_some, href, Option.bind_some, same_is _ (by omega) 1000 (by omega), Option.bind_some, if_pos rfl, hset _ hsl (fun x hx => hwf x ((hmem y x).1 hx)), Option.bind_some, hag, same_is _ (by omega) 1000 (by omega), Option.bind_some, if_pos rfl, works_k (by omega)]
  rfl
end Go.Proofs.YtpnehgajhpejjaaDoor.S
