import Derived.Calls
import Derived.Orders
import Derived.LoopN
import Derived.ScopeJumps
import Derived.Tactics
import Derived.Laws.Rows
/- A closed run, reckoned: values, memory, and what they stand for. -/
namespace Go.Proofs.YteeclengpnjlgaaGreat.Ev
set_option linter.unusedVariables false
set_option linter.unusedSimpArgs false
/-- A tree of 2^d places. -/
inductive T (α : Type) where
  | nil
  | leaf (v : α)
  | node (l r : T α)
def bit (k d : Nat) : Bool := Nat.beq (Nat.land 1 (Nat.shiftRight k d)) 1
theorem bit_eq (k d : Nat) : bit k d = k.testBit d := by
  unfold bit
  show Nat.beq (1 &&& (k >>> d)) 1 = _
  unfold Nat.testBit
  have h : 1 &&& (k >>> d) = 0 ∨ 1 &&& (k >>> d) = 1 := by
    have := Nat.and_le_left (n := 1) (m := k >>> d)
    omega
  rcases h with h | h <;> rw [h] <;> rfl
def T.left {α : Type} (t : T α) : T α := T.casesOn t .nil (fun _ => .nil) (fun l _ => l)
def T.right {α : Type} (t : T α) : T α := T.casesOn t .nil (fun _ => .nil) (fun _ r => r)
def T.get {α : Type} (d : Nat) : T α → Nat → Option α := Nat.rec (motive := fun _ => T α → Nat → Option α) (fun t _ => T.casesOn t none (fun v => some v) (fun _ _ => none)) (fun d ih t k => T.casesOn t none (fun _ => none) (fun l r => cond (bit k d) (ih r k) (ih l k))) d
def T.set {α : Type} (d : Nat) : T α → Nat → α → T α := Nat.rec (motive := fun _ => T α → Nat → α → T α) (fun _ _ v => .leaf v) (fun d ih t k v => cond (bit k d) (.node t.left (ih t.right k v)) (.node (ih t.left k v) t.right)) d
theorem T.get_zero {α : Type} (t : T α) (k : Nat) : T.get 0 t k = (match t with | .leaf v => some v | _ => none) := by cases t <;> rfl
theorem T.get_succ {α : Type} (d : Nat) (l r : T α) (k : Nat) : T.get (d + 1) (.node l r) k = cond (bit k d) (T.get d r k) (T.get d l k) := rfl
theorem T.get_snil {α : Type} (d k : Nat) : T.get (d + 1) (.nil : T α) k = none := rfl
theorem T.get_sleaf {α : Type} (d k : Nat) (v : α) : T.get (d + 1) (.leaf v) k = none := rfl
theorem T.set_zero {α : Type} (t : T α) (k : Nat) (v : α) : T.set 0 t k v = .leaf v := rfl
theorem T.set_succ {α : Type} (d : Nat) (t : T α) (k : Nat) (v : α) : T.set (d + 1) t k v = cond (bit k d) (.node t.left (T.set d t.right k v)) (.node (T.set d t.left k v) t.right) := rfl
theorem T.get_nil {α : Type} (d k : Nat) : T.get d (.nil : T α) k = none := by cases d <;> rfl
theorem T.get_sides {α : Type} (d : Nat) (t : T α) (k : Nat) : T.get (d + 1) t k = cond (bit k d) (T.get d t.right k) (T.get d t.left k) := by
  cases t with
  | nil => rw [T.get_snil]; show none = cond _ (T.get d .nil k) (T.get d .nil k); rw [T.get_nil]; cases bit k d <;> rfl
  | leaf v => rw [T.get_sleaf]; show none = cond _ (T.get d .nil k) (T.get d .nil k); rw [T.get_nil]; cases bit k d <;> rfl
  | node l r => rfl
theorem T.get_set {α : Type} (k k' : Nat) (v : α) : ∀ (d : Nat) (t : T α), T.get d (T.set d t k v) k' = if (∀ i, i < d → k.testBit i = k'.testBit i) then some v else T.get d t k'
  | 0, t => by simp [T.set_zero, T.get_zero]
  | d + 1, t => by
    have ih := T.get_set k k' v d
    have hs : (∀ i, i < d + 1 → k.testBit i = k'.testBit i) ↔ (k.testBit d = k'.testBit d ∧ ∀ i, i < d → k.testBit i = k'.testBit i) :=
      ⟨fun h => ⟨h d (Nat.lt_succ_self d), fun i hi => h i (Nat.lt_succ_of_lt hi)⟩, fun h i hi => by
        rcases Nat.lt_succ_iff_lt_or_eq.1 hi with hi | rfl
        · exact h.2 i hi
        · exact h.1⟩
    rw [T.set_succ, T.get_sides d t, bit_eq, bit_eq]
    cases hk : k.testBit d <;> cases hk' : k'.testBit d <;> simp [T.get_succ, bit_eq, hk, hk', hs, ih]
theorem bits_eq {k k' d : Nat} (h : k < 2 ^ d) (h' : k' < 2 ^ d) (e : ∀ i, i < d → k.testBit i = k'.testBit i) : k = k' := by
  apply Nat.eq_of_testBit_eq
  intro i
  by_cases hi : i < d
  · exact e i hi
  · have h2 : 2 ^ d ≤ 2 ^ i := Nat.pow_le_pow_right (by omega) (by omega)
    rw [Nat.testBit_lt_two_pow (by omega), Nat.testBit_lt_two_pow (by omega)]
def get {α : Type} (d : Nat) (t : T α) (k : Nat) : Option α := bif Nat.blt k (2 ^ d) then T.get d t k else none
theorem get_set {α : Type} {d k k' : Nat} {v : α} {t : T α} (hk : k < 2 ^ d) : get d (T.set d t k v) k' = if k' = k then some v else get d t k' := by
  unfold get
  by_cases h' : k' < 2 ^ d
  · rw [show Nat.blt k' (2 ^ d) = true from Nat.ble_eq_true_of_le h', cond_true, cond_true, T.get_set]
    by_cases e : k' = k
    · subst e
      simp
    · rw [if_neg e, if_neg (fun h => e (bits_eq hk h' h).symm)]
  · have hb : Nat.blt k' (2 ^ d) = false := by
      cases hc : Nat.blt k' (2 ^ d) with
      | false => rfl
      | true => exact absurd (Nat.le_of_ble_eq_true hc) h'
    rw [hb, cond_false, cond_false, if_neg (by omega)]
/-- Depths: of memory, of temporaries. -/
abbrev HD : Nat := 14
abbrev TD : Nat := 9
/-- Where a token's block lies; how many elements more it has room for than are told. -/
abbrev Pl := List (Nat × Nat)
def pb (pl : Pl) (t : Nat) : Option Nat := (pl[t]?).map (·.1)
def pd (pl : Pl) (t : Nat) : Option Nat := (pl[t]?).map (·.2)
/-- A capacity as it is told: twice the number; or twice the number that it is at least, and one. -/
def CapR (pl : Pl) (t c c' : Nat) : Prop := if c % 2 = 1 then ∃ d, pd pl t = some d ∧ c' = c / 2 + d else c' = c / 2
def AR (pl : Pl) (a a' : Addr) : Prop := pb pl a.block = some a'.block ∧ a'.off = a.off ∧ a'.spot = a.spot
/-- A value of one cell, functions apart. -/
def VP (pl : Pl) : Value → Value → Prop
  | .pointer (some a), v' => ∃ a', AR pl a a' ∧ v' = .pointer (some a')
  | .slice (some a) n c, v' => ∃ a' c', AR pl a a' ∧ CapR pl a.block c c' ∧ v' = .slice (some a') n c'
  | .map (some r), v' => ∃ b, pb pl r = some b ∧ v' = .map (some b)
  | .chan (some _), _ => False
  | .func _ _ _, _ => False
  | .iface _ _, _ => False
  | .agg _, _ => False
  | .tuple _, _ => False
  | v, v' => v' = v
def Pw (R : Value → Value → Prop) : List Value → List Value → Prop
  | [], [] => True
  | a :: l, b :: m => R a b ∧ Pw R l m
  | _, _ => False
/-- A value of one cell. -/
def VC (pl : Pl) : Value → Value → Prop
  | .func fn fs cs, v' => ∃ f cs', fn = .func f ∧ fs = #[] ∧ v' = .func (.func f) #[] cs' ∧ Pw (VP pl) cs.toList cs'.toList
  | v, v' => VP pl v v'
def VA (pl : Pl) : Value → Value → Prop
  | .agg cs, v' => ∃ cs', v' = .agg cs' ∧ Pw (VC pl) cs.toList cs'.toList
  | v, v' => VC pl v v'
def VT (pl : Pl) : Value → Value → Prop
  | .tuple vs, v' => ∃ vs', v' = .tuple vs' ∧ Pw (VA pl) vs.toList vs'.toList
  | v, v' => VA pl v v'
theorem Pw.mono {R R' : Value → Value → Prop} (h : ∀ a b, R a b → R' a b) : ∀ {l m : List Value}, Pw R l m → Pw R' l m
  | [], [], _ => trivial
  | _ :: _, _ :: _, ⟨h1, h2⟩ => ⟨h _ _ h1, Pw.mono h h2⟩
  | [], _ :: _, h2 => h2.elim
  | _ :: _, [], h2 => h2.elim
theorem Pw.length {R : Value → Value → Prop} : ∀ {l m : List Value}, Pw R l m → m.length = l.length
  | [], [], _ => rfl
  | _ :: _, _ :: _, ⟨_, h2⟩ => congrArg (· + 1) (Pw.length h2)
  | [], _ :: _, h2 => h2.elim
  | _ :: _, [], h2 => h2.elim
theorem Pw.get {R : Value → Value → Prop} : ∀ {l m : List Value} {i : Nat} {v : Value}, Pw R l m → l[i]? = some v → ∃ v', m[i]? = some v' ∧ R v v'
  | _ :: _, b :: _, 0, v, ⟨h1, _⟩, h => by
    simp at h
    subst h
    exact ⟨b, rfl, h1⟩
  | _ :: _, _ :: _, i + 1, v, ⟨_, h2⟩, h => by
    simp at h
    obtain ⟨v', e, r⟩ := Pw.get h2 h
    exact ⟨v', by simpa using e, r⟩
  | [], _, _, _, _, h => by simp at h
  | _ :: _, [], _, _, h2, _ => h2.elim
theorem Pw.append {R : Value → Value → Prop} : ∀ {l m l2 m2 : List Value}, Pw R l m → Pw R l2 m2 → Pw R (l ++ l2) (m ++ m2)
  | [], [], _, _, _, h => h
  | _ :: _, _ :: _, _, _, ⟨h1, h2⟩, h => ⟨h1, Pw.append h2 h⟩
  | [], _ :: _, _, _, h2, _ => h2.elim
  | _ :: _, [], _, _, h2, _ => h2.elim
theorem Pw.take {R : Value → Value → Prop} : ∀ {l m : List Value} (n : Nat), Pw R l m → Pw R (l.take n) (m.take n)
  | [], [], _, _ => by simp [Pw]
  | _ :: _, _ :: _, 0, _ => trivial
  | _ :: _, _ :: _, n + 1, ⟨h1, h2⟩ => ⟨h1, Pw.take n h2⟩
  | [], _ :: _, _, h2 => h2.elim
  | _ :: _, [], _, h2 => h2.elim
theorem Pw.drop {R : Value → Value → Prop} : ∀ {l m : List Value} (n : Nat), Pw R l m → Pw R (l.drop n) (m.drop n)
  | [], [], _, _ => by simp [Pw]
  | _ :: _, _ :: _, 0, h => h
  | _ :: _, _ :: _, n + 1, ⟨_, h2⟩ => Pw.drop n h2
  | [], _ :: _, _, h2 => h2.elim
  | _ :: _, [], _, h2 => h2.elim
theorem Pw.set {R : Value → Value → Prop} {v v' : Value} (hv : R v v') : ∀ {l m : List Value} (n : Nat), Pw R l m → Pw R (l.set n v) (m.set n v')
  | [], [], _, _ => by simp [Pw]
  | _ :: _, _ :: _, 0, ⟨_, h2⟩ => ⟨hv, h2⟩
  | _ :: _, _ :: _, n + 1, ⟨h1, h2⟩ => ⟨h1, Pw.set hv n h2⟩
  | [], _ :: _, _, h2 => h2.elim
  | _ :: _, [], _, h2 => h2.elim
theorem Pw.refl {R : Value → Value → Prop} : ∀ {l : List Value}, (∀ v ∈ l, R v v) → Pw R l l
  | [], _ => trivial
  | a :: l, h => ⟨h a (List.mem_cons_self ..), Pw.refl (fun v hv => h v (List.mem_cons_of_mem _ hv))⟩
theorem pl_pre {pl q : Pl} {t : Nat} {x : Nat × Nat} (h : pl[t]? = some x) : (pl ++ q)[t]? = some x := by
  rw [List.getElem?_append_left (List.getElem?_eq_some_iff.1 h).1]
  exact h
theorem pb_some {pl : Pl} {t b : Nat} (h : pb pl t = some b) : ∃ d, pl[t]? = some (b, d) := by
  unfold pb at h
  cases hx : pl[t]? with
  | none => simp [hx] at h
  | some x => simp [hx] at h; subst h; exact ⟨x.2, rfl⟩
theorem pb_of {pl : Pl} {t : Nat} {x : Nat × Nat} (h : pl[t]? = some x) : pb pl t = some x.1 := by unfold pb; rw [h]; rfl
theorem pd_of {pl : Pl} {t : Nat} {x : Nat × Nat} (h : pl[t]? = some x) : pd pl t = some x.2 := by unfold pd; rw [h]; rfl
theorem get_pre {pl q : Pl} {t b : Nat} (h : pb pl t = some b) : pb (pl ++ q) t = some b := by
  obtain ⟨d, h⟩ := pb_some h
  exact pb_of (pl_pre h)
theorem CapR.mono {pl q : Pl} {t c c' b : Nat} (hb : pb pl t = some b) (h : CapR pl t c c') : CapR (pl ++ q) t c c' := by
  obtain ⟨d, hd⟩ := pb_some hb
  unfold CapR at *
  split at h
  · rename_i hc
    rw [if_pos hc]
    obtain ⟨d', h1, h2⟩ := h
    rw [pd_of hd] at h1
    exact ⟨d', by rw [pd_of (pl_pre hd)]; exact h1, h2⟩
  · rename_i hc
    rw [if_neg hc]
    exact h
theorem AR.mono {pl q : Pl} {a a' : Addr} (h : AR pl a a') : AR (pl ++ q) a a' := ⟨get_pre h.1, h.2⟩
theorem VP.mono {pl : Pl} (q : Pl) {v v' : Value} (h : VP pl v v') : VP (pl ++ q) v v' := by
  unfold VP at *
  split at h
  · obtain ⟨a', h1, h2⟩ := h
    exact ⟨a', h1.mono, h2⟩
  · obtain ⟨a', c', h1, h2, h3⟩ := h
    exact ⟨a', c', h1.mono, h2.mono h1.1, h3⟩
  · obtain ⟨b, h1, h2⟩ := h
    exact ⟨b, get_pre h1, h2⟩
  all_goals first | exact h.elim | simp_all
theorem VC.mono {pl : Pl} (q : Pl) {v v' : Value} (h : VC pl v v') : VC (pl ++ q) v v' := by
  unfold VC at *
  split at h
  · obtain ⟨f, cs', h1, h2, h3, h4⟩ := h
    exact ⟨f, cs', h1, h2, h3, h4.mono (fun _ _ => VP.mono q)⟩
  · have := VP.mono q h
    exact this
theorem VA.mono {pl : Pl} (q : Pl) {v v' : Value} (h : VA pl v v') : VA (pl ++ q) v v' := by
  unfold VA at *
  split at h
  · obtain ⟨cs', h1, h2⟩ := h
    exact ⟨cs', h1, h2.mono (fun _ _ => VC.mono q)⟩
  · have := VC.mono q h
    exact this
theorem VT.mono {pl : Pl} (q : Pl) {v v' : Value} (h : VT pl v v') : VT (pl ++ q) v v' := by
  unfold VT at *
  split at h
  · obtain ⟨cs', h1, h2⟩ := h
    exact ⟨cs', h1, h2.mono (fun _ _ => VA.mono q)⟩
  · have := VA.mono q h
    exact this
end Go.Proofs.YteeclengpnjlgaaGreat.Ev
