import Derived.Test.YteeclengpnjlgaaGreatWWords
import Derived.ProofKit
import Derived.Deep.Slices
/- From the form's reading of an argument to the printed kinds: whatever the type. -/
namespace Go.Proofs.YteeclengpnjlgaaGreatW.PrintWords
open Go.RowKit
structure Opens (P : Program) (t : TypeId) {α : Type} (d : Kd α) (Wf : α → Prop) : Prop where
  sz : P.cellsOf t = d.sz
  op : ∀ {H : Type} {enc : TypeId × Value → H} {w : World} {base : Nat} {sp : Nat → Bool} {held : Bool} {fuel : Nat} {cs : List Value} {x : DataW H × List MemPlace},
    DataW.trod enc P w base sp held fuel t cs = some x → ∃ a, d.K w a cs ∧ Wf a
section
variable {P : Program} {t e : TypeId}
theorem opens_int {k : IntKind} (ht : P.underlying t = some (.int k)) (hc : P.cellsOf t = 1) : Opens P t (Kd.int k) (fun z => (Lit.int k z).wf = true) :=
  ⟨hc, fun h => by
    obtain ⟨n, rfl, _, hw⟩ := DataW.trod_int ht h
    exact ⟨n, rfl, hw⟩⟩
theorem opens_bool (ht : P.underlying t = some .bool) (hc : P.cellsOf t = 1) : Opens P t Kd.bool (fun _ => True) :=
  ⟨hc, fun h => by
    obtain ⟨b, rfl, _⟩ := DataW.trod_bool ht h
    exact ⟨b, rfl, trivial⟩⟩
theorem opens_string (ht : P.underlying t = some .string) (hc : P.cellsOf t = 1) : Opens P t Kd.string (fun s => s.size ≤ maxLen) :=
  ⟨hc, fun h => by
    obtain ⟨s, rfl, _, hs⟩ := DataW.trod_string ht h
    exact ⟨s, rfl, hs⟩⟩
theorem list_of {α : Type} {n : Nat} {p : Nat → α → Prop} (h : ∀ i, i < n → ∃ x, p i x) : ∃ l : List α, l.length = n ∧ ∀ i x, l[i]? = some x → p i x := by
  induction n with
  | zero => exact ⟨[], rfl, fun i x hx => by simp at hx⟩
  | succ n ih =>
    obtain ⟨l, hl, hp⟩ := ih (fun i hi => h i (by omega))
    obtain ⟨x, hx⟩ := h n (by omega)
    refine ⟨l ++ [x], by simp [hl], fun i y hy => ?_⟩
    rcases Nat.lt_or_ge i n with hi | hi
    · rw [List.getElem?_append_left (by omega)] at hy
      exact hp i y hy
    · have hlt := (List.getElem?_eq_some_iff.1 hy).1
      simp [hl] at hlt
      obtain rfl : i = n := by omega
      rw [← hl] at hy ⊢
      simp at hy
      subst hy
      rw [hl]
      exact hx
theorem opens_slice {α : Type} {d : Kd α} {Wf : α → Prop} (ht : P.underlying t = some (.slice e)) (hc : P.cellsOf t = 1) (he : Opens P e d Wf) : Opens P t (Kd.slice e d) (fun xs => ∀ x ∈ xs, Wf x) :=
  ⟨hc, fun {H enc w base sp held fuel cs x} h => by
    rcases Go.Deep.open_slice ht h with ⟨rfl, _⟩ | ⟨a, len, cap, m, n, D, Pl, rfl, _, hl, hm, hmm, _, hi⟩
    · exact ⟨[], ⟨none, 0, rfl, Nat.le_refl _, rfl, by simp, fun h => absurd h (by simp)⟩, by simp⟩
    · have hlm : len ≤ m := by
        rw [hmm]
        split <;> omega
      obtain ⟨l, hll, hp⟩ := list_of (p := fun i (q : α) => ∃ cs', w.cells? base (a.add (i * P.cellsOf e)) (P.cellsOf e) = some cs' ∧ d.K w q cs' ∧ Wf q) (n := len) (fun i hi' => by
        obtain ⟨cs', h1, h2⟩ := hi i (by omega)
        obtain ⟨q, hk, hw⟩ := he.op h2
        exact ⟨q, cs', h1, hk, hw⟩)
      subst hll
      refine ⟨l, ⟨some a, cap, rfl, hl, rfl, ?_, fun _ => ⟨a, rfl, fun j p hj => ?_⟩⟩, fun x hx => ?_⟩
      · have : maxLen = 9223372036854775807 := rfl
        omega
      · obtain ⟨cs', h1, hk, _⟩ := hp j p hj
        obtain ⟨_, hcl, hat⟩ := World.cells?_some h1
        refine ⟨cs', by rw [hcl, he.sz], hk, fun i u hu => ?_⟩
        have hlt := (List.getElem?_eq_some_iff.1 hu).1
        rw [← Go.Deep.add_add, ← he.sz, hat i (by omega), hu]
      · obtain ⟨j, hj, rfl⟩ := List.mem_iff_getElem.1 hx
        obtain ⟨_, _, _, hw⟩ := hp j _ (List.getElem?_eq_getElem hj)
        exact hw⟩
theorem field_opens {α : Type} {d : Kd α} {Wf : α → Prop} {ft : TypeId} (ho : Opens P ft d Wf) {H : Type} {enc : TypeId × Value → H} {w : World} {base : Nat} {sp : Nat → Bool} {held : Bool} {fuel : Nat} {cs : List Value} {xs : List (DataW H × List MemPlace)} (i off : Nat)
    (hx : i < xs.length) (h : DataW.trod enc P w base sp held fuel ft ((cs.drop off).take (P.cellsOf ft)) = xs[i]?) : ∃ a, d.K w a ((cs.drop off).take d.sz) ∧ Wf a := by
  rw [List.getElem?_eq_getElem hx, ho.sz] at h
  exact ho.op h
theorem K_pair_at {α β : Type} {a : Kd α} {b : Kd β} {w : World} {x : α} {y : β} {cs : List Value} (o o2 : Nat) (ho : o2 = o + a.sz) (ha : a.K w x ((cs.drop o).take a.sz)) (hb : b.K w y ((cs.drop o2).take b.sz)) :
    (Kd.pair a b).K w (x, y) ((cs.drop o).take (Kd.pair a b).sz) := by
  subst ho
  refine ⟨_, _, ?_, ha, hb⟩
  show (cs.drop o).take (a.sz + b.sz) = _
  rw [List.take_add, List.drop_drop]
theorem K_whole {α : Type} {d : Kd α} {w : World} {x : α} {cs : List Value} (hl : cs.length = d.sz) (h : d.K w x ((cs.drop 0).take d.sz)) : d.K w x cs := by
  rwa [List.drop_zero, ← hl, List.take_length] at h
end
end Go.Proofs.YteeclengpnjlgaaGreatW.PrintWords
