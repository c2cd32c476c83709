import Derived.Test.YteeclengpnjlgaaGreatOpen
import Derived.SizedLaws
/- From the form's reading of an argument to the printed kinds, with the sizes that the form tells. -/
namespace Go.Proofs.YteeclengpnjlgaaGreatW.PrintWords
open Go.RowKit
structure OpensZ (P : Program) (t : TypeId) {α : Type} (d : Kd α) (Wf : α → Prop) : Prop where
  sz : P.cellsOf t = d.sz
  op : ∀ {H : Type} {enc : TypeId × Value → H} {w : World} {base : Nat} {sp : Nat → Bool} {held : Bool} {fuel : Nat} {cs : List Value} {x : DataW H × List MemPlace},
    DataW.trod enc P w base sp held fuel t cs = some x → (DataW.weights P t x.1).all (· ≤ reachBytes) = true → ∃ a, d.K w a cs ∧ Wf a
section
variable {P : Program} {t e : TypeId}
theorem Opens.z {α : Type} {d : Kd α} {Wf : α → Prop} (h : Opens P t d Wf) : OpensZ P t d Wf := ⟨h.sz, fun hx _ => h.op hx⟩
theorem all_weights {H : Type} : ∀ {ds : List (DataW H)}, (DataW.weightsAll P e ds).all (· ≤ reachBytes) = true → ∀ d ∈ ds, (DataW.weights P e d).all (· ≤ reachBytes) = true
  | [], _, d, hd => by cases hd
  | d0 :: r, h, d, hd => by
    unfold DataW.weightsAll at h
    rw [List.all_append, Bool.and_eq_true] at h
    rcases List.mem_cons.1 hd with rfl | hd
    · exact h.1
    · exact all_weights h.2 d hd
theorem each_weights {H : Type} : ∀ {ts : List TypeId} {ds : List (DataW H)} {i : Nat} {t : TypeId} {d : DataW H}, (DataW.weightsEach P ts ds).all (· ≤ reachBytes) = true → ts[i]? = some t → ds[i]? = some d → (DataW.weights P t d).all (· ≤ reachBytes) = true
  | [], _, i, t, d, _, h1, _ => by simp at h1
  | _ :: _, [], i, t, d, _, _, h2 => by simp at h2
  | t0 :: ts, d0 :: ds, i, t, d, h, h1, h2 => by
    unfold DataW.weightsEach at h
    rw [List.all_append, Bool.and_eq_true] at h
    cases i with
    | zero =>
      simp only [List.getElem?_cons_zero, Option.some.injEq] at h1 h2
      subst h1 h2
      exact h.1
    | succ i =>
      simp only [List.getElem?_cons_succ] at h1 h2
      exact each_weights h.2 h1 h2
theorem opensZ_slice {α : Type} {d : Kd α} {Wf : α → Prop} (ht : P.underlying t = some (.slice e)) (hc : P.cellsOf t = 1) (nb : Nat) (hb : P.bytesOf e = nb) (he : OpensZ P e d Wf) : OpensZ P t (Kd.slice e d) (fun xs => xs.length * nb ≤ 140737488351232 ∧ ∀ x ∈ xs, Wf x) :=
  ⟨hc, fun {H enc w base sp held fuel cs x} h hz => by
    rcases Go.Deep.open_slice ht h with ⟨rfl, _⟩ | ⟨a, len, cap, m, n, D, Pl, rfl, _, hl, hm, hmm, rfl, hi⟩
    · exact ⟨[], ⟨none, 0, rfl, Nat.le_refl _, rfl, by simp, fun h => absurd h (by simp)⟩, by simp, by simp⟩
    · have hlm : len ≤ m := by
        rw [hmm]
        split <;> omega
      have hw : ((len + (m - len)) * P.bytesOf e ≤ reachBytes) ∧ ∀ i, i < len → (DataW.weights P e (D i)).all (· ≤ reachBytes) = true := by
        have h5 : DataW.weights P t (DataW.slice ((List.range len).map D) ((List.range (m - len)).map fun j => D (len + j))) = (((List.range len).map D).length + ((List.range (m - len)).map fun j => D (len + j)).length) * P.bytesOf e :: (DataW.weightsAll P e ((List.range len).map D) ++ DataW.weightsAll P e ((List.range (m - len)).map fun j => D (len + j))) := by
          conv => lhs; unfold DataW.weights
          rw [ht]
        rw [h5, List.all_cons, Bool.and_eq_true, List.all_append, Bool.and_eq_true] at hz
        refine ⟨by simpa using hz.1, fun i hi => all_weights hz.2.1 (D i) ?_⟩
        exact List.mem_map.2 ⟨i, List.mem_range.2 hi, rfl⟩
      obtain ⟨hw1, hw2⟩ := hw
      obtain ⟨l, hll, hp⟩ := list_of (p := fun i (q : α) => ∃ cs', w.cells? base (a.add (i * P.cellsOf e)) (P.cellsOf e) = some cs' ∧ d.K w q cs' ∧ Wf q) (n := len) (fun i hi' => by
        obtain ⟨cs', h1, h2⟩ := hi i (by omega)
        obtain ⟨q, hk, hw⟩ := he.op h2 (hw2 i hi')
        exact ⟨q, cs', h1, hk, hw⟩)
      subst hll
      refine ⟨l, ⟨some a, cap, rfl, hl, rfl, ?_, fun _ => ⟨a, rfl, fun j p hj => ?_⟩⟩, ?_, fun x hx => ?_⟩
      · have : maxLen = 9223372036854775807 := rfl
        omega
      · obtain ⟨cs', h1, hk, _⟩ := hp j p hj
        obtain ⟨_, hcl, hat⟩ := World.cells?_some h1
        refine ⟨cs', by rw [hcl, he.sz], hk, fun i u hu => ?_⟩
        have hlt := (List.getElem?_eq_some_iff.1 hu).1
        rw [← Go.Deep.add_add, ← he.sz, hat i (by omega), hu]
      · rw [← hb]
        have h7 : reachBytes = 140737488351232 := rfl
        rw [← h7]
        exact Nat.le_trans (Nat.mul_le_mul_right _ (by omega)) hw1
      · obtain ⟨j, hj, rfl⟩ := List.mem_iff_getElem.1 hx
        obtain ⟨_, _, _, hw⟩ := hp j _ (List.getElem?_eq_getElem hj)
        exact hw⟩
theorem agg_weights {H : Type} {fs : Array Field} {parts : List (DataW H)} (ht : P.underlying t = some (.struct fs)) (h : (DataW.weights P t (.agg parts)).all (· ≤ reachBytes) = true) : (DataW.weightsEach P (fs.toList.map (·.type)) parts).all (· ≤ reachBytes) = true := by
  unfold DataW.weights at h
  rw [ht] at h
  exact h
theorem fieldZ_opens {α : Type} {d : Kd α} {Wf : α → Prop} {ft : TypeId} (ho : OpensZ P ft d Wf) {H : Type} {enc : TypeId × Value → H} {w : World} {base : Nat} {sp : Nat → Bool} {held : Bool} {fuel : Nat} {cs : List Value} {xs : List (DataW H × List MemPlace)} {ts : List TypeId} (hz : (DataW.weightsEach P ts (xs.map (·.1))).all (· ≤ reachBytes) = true) (i off : Nat)
    (hx : i < xs.length) (hft : ts[i]? = some ft) (h : DataW.trod enc P w base sp held fuel ft ((cs.drop off).take (P.cellsOf ft)) = xs[i]?) : ∃ a, d.K w a ((cs.drop off).take d.sz) ∧ Wf a := by
  have h9 := each_weights (i := i) (d := xs[i].1) hz hft (by rw [List.getElem?_map, List.getElem?_eq_getElem hx]; rfl)
  rw [List.getElem?_eq_getElem hx, ho.sz] at h
  exact ho.op h h9
end
end Go.Proofs.YteeclengpnjlgaaGreatW.PrintWords
