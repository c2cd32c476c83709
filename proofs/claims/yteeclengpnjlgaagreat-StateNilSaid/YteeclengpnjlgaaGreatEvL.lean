import Derived.Test.YteeclengpnjlgaaGreatEvK
import Derived.Test.YteeclengpnjlgaaGreatWLast
/- A closed run, reckoned: regions. -/
namespace Go.Proofs.YteeclengpnjlgaaGreat.Ev
set_option linter.unusedVariables false
set_option linter.unusedSimpArgs false
open Go.RowKit Go.Proofs.YteeclengpnjlgaaGreatW.PrintLast
variable {P : Program}
structure St where
  n : Nat
  H : T AO
  tm : T Value
/-- What calls a function: what is told first is left alone. -/
abbrev Kn := Pr → FuncId → List Value → Nat → T AO → Option (Value × Nat × T AO)
def KOk (P : Program) (K : Kn) : Prop := ∀ (lo : Pr) (g : FuncId) (args : List Value) (n : Nat) (H : T AO) (v : Value) (n' : Nat) (H' : T AO), K lo g args n H = some (v, n', H') →
  ∀ (w0 : Base) (pl : Pl) (args' : Array Value) (w : World), pl.length = n → lo.1 ≤ n → Sim P w0 pl H w → Pw (VT pl) args args'.toList →
    Calls P g args' w fun e w' => ∃ (q : Pl) (v' : Value), e = .returned v' ∧ VT (pl ++ q) v v' ∧ Sim P w0 (pl ++ q) H' w' ∧ (pl ++ q).length = n' ∧ Agree lo H H'
structure At (P : Program) (w0 : Base) (pl : Pl) (nt : Nat) (st : St) (a : Act) (w : World) : Prop where
  tm : Tm pl st.tm a
  sim : Sim P w0 pl st.H w
  len : pl.length = st.n
  sz : a.tmps.size = nt
def yld (ops : Array Oper) (tm : T Value) (j : Nat) : Option (Option Bool) :=
  match (ops[j]?).bind (·.dst) with
  | none => some none
  | some d => match get TD tm d with
    | some (.bool b) => some (some b)
    | some _ => some none
    | none => none
def want (ops : Array Oper) (tm : T Value) (o : Oper) : Option Bool :=
  match o.guard with
  | none => some true
  | some (j, b) => (yld ops tm j).map (· == some b)
theorem VT_bool {pl : Pl} {v v' : Value} (h : VT pl v v') (hn : ∀ b, v ≠ .bool b) : ∀ b, v' ≠ .bool b := by
  intro b e
  subst e
  cases v with
  | bool c => exact hn c rfl
  | tuple vs => obtain ⟨_, e, _⟩ := h; cases e
  | agg cs => obtain ⟨_, e, _⟩ := h; cases e
  | func fn fs cs => obtain ⟨_, _, _, _, e, _⟩ := h; cases e
  | pointer a => cases a with | none => cases (h : Value.bool b = _) | some a => obtain ⟨_, _, e⟩ := h; cases e
  | slice a n c => cases a with | none => cases (h : Value.bool b = _) | some a => obtain ⟨_, _, _, _, e⟩ := h; cases e
  | map r => cases r with | none => cases (h : Value.bool b = _) | some a => obtain ⟨_, _, e⟩ := h; cases e
  | chan r => cases r with | none => cases (h : Value.bool b = _) | some a => exact h.elim
  | iface t x => exact h.elim
  | _ => cases (h : Value.bool b = _)
theorem yld_ok {pl : Pl} {ops : Array Oper} {tm : T Value} {a : Act} {j : Nat} {r : Option Bool} (ht : Tm pl tm a) (h : yld ops tm j = some r) : yielded ops a.tmps j = r := by
  unfold yld at h
  unfold yielded
  cases hd : (ops[j]?).bind (·.dst) with
  | none => simp [hd] at h; subst h; rfl
  | some d =>
    simp only [hd] at h
    cases hg : get TD tm d with
    | none => simp [hg] at h
    | some v =>
      obtain ⟨hlt, hv⟩ := ht.at_ d v hg
      have he : a.tmps[d]? = some (a.tmps.getD d undef) := by
        rw [Array.getD_eq_getD_getElem?, Array.getElem?_eq_getElem hlt]
        rfl
      simp only [Option.bind_some, he]
      by_cases hb : ∃ b, v = .bool b
      · obtain ⟨b, rfl⟩ := hb
        simp [hg] at h
        subst h
        have : a.tmps.getD d undef = .bool b := hv
        rw [this]
      · have hn := VT_bool hv (fun b e => hb ⟨b, e⟩)
        have hr : r = none := by
          rw [hg] at h
          cases v <;> first | (simp at h; exact h.symm) | (exact absurd ⟨_, rfl⟩ hb)
        subst hr
        generalize a.tmps.getD d undef = u at hn
        cases u <;> first | rfl | (exact absurd rfl (hn _))
theorem want_ok {pl : Pl} {ops : Array Oper} {tm : T Value} {a : Act} {o : Oper} {b : Bool} (ht : Tm pl tm a) (h : want ops tm o = some b) : Region.wanted o (yielded ops a.tmps) = b := by
  unfold want at h
  unfold Region.wanted
  cases hg : o.guard with
  | none => simp [hg] at h; subst h; rfl
  | some p =>
    obtain ⟨j, c⟩ := p
    simp only [hg] at h
    cases hy : yld ops tm j with
    | none => simp [hy] at h
    | some r =>
      simp [hy] at h
      subst h
      simp only [yld_ok ht hy]
def putT (nt : Nat) (tm : T Value) (dst : Option Tmp) (v : Value) : Option (T Value) :=
  match dst with
  | none => some tm
  | some d => bif Nat.blt d nt && Nat.blt d (2 ^ TD) then some (T.set TD tm d v) else none
theorem putT_ok {pl : Pl} {nt : Nat} {tm tm' : T Value} {a : Act} {dst : Option Tmp} {v v' : Value} (ht : Tm pl tm a) (hz : a.tmps.size = nt) (hv : VT pl v v') (h : putT nt tm dst v = some tm') : Tm pl tm' (a.put dst v') ∧ (a.put dst v').tmps.size = nt := by
  unfold putT at h
  cases dst with
  | none => injection h with h; subst h; exact ⟨ht, hz⟩
  | some d =>
    obtain ⟨hc, h⟩ := cond_some h
    injection h with h
    subst h
    rw [Bool.and_eq_true] at hc
    have h1 : d < nt := Nat.le_of_ble_eq_true hc.1
    have h2 : d < 2 ^ TD := Nat.le_of_ble_eq_true hc.2
    refine ⟨ht.put h2 (by rw [hz]; exact h1) hv, ?_⟩
    show (a.tmps.setIfInBounds d v').size = nt
    rw [Array.size_setIfInBounds, hz]
theorem undef_VT (pl : Pl) : VT pl undef undef := ⟨#[], rfl, trivial⟩
def stepOp (P : Program) (K : Kn) (lo : Pr) (nt : Nat) (ops : Array Oper) (o : Oper) (st : St) : Option St :=
  match want ops st.tm o with
  | some false => (putT nt st.tm o.dst undef).map fun tm => ⟨st.n, st.H, tm⟩
  | some true => match evPure P st.tm o with
    | some v => (putT nt st.tm o.dst v).map fun tm => ⟨st.n, st.H, tm⟩
    | none => match evLoad P st.H st.tm o with
      | some (v, _) => (putT nt st.tm o.dst v).map fun tm => ⟨st.n, st.H, tm⟩
      | none => bif guardW lo st.tm o then (match evEff P st.n st.H st.tm o with
        | some (.val v n H) => (putT nt st.tm o.dst v).map fun tm => ⟨n, H, tm⟩
        | some (.skip n H) => (putT nt st.tm o.dst undef).map fun tm => ⟨n, H, tm⟩
        | some (.call f args) => (match K lo f args st.n st.H with
          | some (v, n, H) => (putT nt st.tm o.dst v).map fun tm => ⟨n, H, tm⟩
          | none => none)
        | none => none) else none
  | none => none
theorem map_some {α β : Type} {x : Option α} {f : α → β} {b : β} (h : x.map f = some b) : ∃ a, x = some a ∧ f a = b := by
  cases x with
  | none => cases h
  | some a => exact ⟨a, rfl, by injection h⟩
theorem At.put {w0 : Base} {pl : Pl} {nt : Nat} {st : St} {a : Act} {w w' : World} {q : Pl} {n : Nat} {H : T AO} {dst : Option Tmp} {v v' : Value} {tm : T Value} (h : At P w0 pl nt st a w) (hs : Sim P w0 (pl ++ q) H w') (hl : (pl ++ q).length = n) (hv : VT (pl ++ q) v v') (hp : putT nt st.tm dst v = some tm) : At P w0 (pl ++ q) nt ⟨n, H, tm⟩ (a.put dst v') w' :=
  ⟨(putT_ok (h.tm.mono q) h.sz hv hp).1, hs, hl, (putT_ok (h.tm.mono q) h.sz hv hp).2⟩
/-- One operation, as it comes up. -/
theorem step_ok {K : Kn} (hK : KOk P K) {w0 : Base} {pl : Pl} {lo : Pr} {nt : Nat} {ops : Array Oper} {o : Oper} {st st' : St} {a : Act} {w : World} {Q : Exit → Act → World → Prop} (hat : At P w0 pl nt st a w) (hlo : lo.1 ≤ st.n) (h : stepOp P K lo nt ops o st = some st') (Kc : Act → World → Prop)
    (hc : ∀ (q : Pl) (a' : Act) (w' : World), At P w0 (pl ++ q) nt st' a' w' → Agree lo st.H st'.H → (∃ v, a' = a.put o.dst v) → Kc a' w') : if Region.wanted o (yielded ops a.tmps) = true then o.wp P a w Kc Q else Kc (a.put o.dst undef) w := by
  unfold stepOp at h
  split at h
  · rename_i hw
    rw [want_ok hat.tm hw]
    obtain ⟨tm, h1, rfl⟩ := map_some h
    simp only [Bool.false_eq_true, if_false]
    exact hc [] _ w (hat.put (q := []) (by rw [List.append_nil]; exact hat.sim) (by rw [List.append_nil]; exact hat.len) (undef_VT _) h1) (Agree.refl _ _) ⟨_, rfl⟩
  · rename_i hw
    rw [want_ok hat.tm hw, if_pos rfl]
    split at h
    · rename_i v hp
      obtain ⟨tm, h1, rfl⟩ := map_some h
      obtain ⟨v', hg, hv⟩ := evPure_ok hat.tm hp
      unfold Oper.wp
      rw [hg w, Oper.upon_value]
      exact hc [] _ w (hat.put (q := []) (by rw [List.append_nil]; exact hat.sim) (by rw [List.append_nil]; exact hat.len) (by rw [List.append_nil]; exact hv) h1) (Agree.refl _ _) ⟨_, rfl⟩
    · split at h
      · rename_i v t hp
        obtain ⟨tm, h1, rfl⟩ := map_some h
        obtain ⟨v', b, _, hv, hr⟩ := evLoad_ok hat.tm hat.sim hp
        unfold Oper.wp
        rw [hr w rfl, Oper.upon_value]
        exact hc [] _ w (hat.put (q := []) (by rw [List.append_nil]; exact hat.sim) (by rw [List.append_nil]; exact hat.len) (by rw [List.append_nil]; exact hv) h1) (Agree.refl _ _) ⟨_, rfl⟩
      · obtain ⟨hgd, h⟩ := cond_some h
        split at h
        · rename_i v n H he
          obtain ⟨tm, h1, rfl⟩ := map_some h
          obtain ⟨q, v', w', hr, hv, hs, hl⟩ := evEff_ok hat.len hat.tm hat.sim he
          unfold Oper.wp
          rw [hr, Oper.upon_value]
          exact hc q _ w' (hat.put hs hl hv h1) (evEff_agree hlo hgd he rfl) ⟨_, rfl⟩
        · rename_i n H he
          obtain ⟨tm, h1, rfl⟩ := map_some h
          obtain ⟨q, w', hr, hs, hl⟩ := evEff_ok hat.len hat.tm hat.sim he
          unfold Oper.wp
          rw [hr, Oper.upon_skip]
          exact hc q _ w' (hat.put hs hl (undef_VT _) h1) (evEff_agree hlo hgd he rfl) ⟨_, rfl⟩
        · rename_i f args he
          split at h
          · rename_i v n H hk
            obtain ⟨tm, h1, rfl⟩ := map_some h
            obtain ⟨args', hr, hp⟩ := evEff_ok hat.len hat.tm hat.sim he
            unfold Oper.wp
            rw [hr, Oper.upon_enter]
            refine (hK lo f args st.n st.H v n H hk w0 pl args' w hat.len hlo hat.sim hp).mono ?_
            rintro e w' ⟨q, v', rfl, hv, hs, hl, hag⟩
            exact hc q _ w' (hat.put hs hl hv h1) hag ⟨_, rfl⟩
          · cases h
        · cases h
  · cases h
/-- Operations one behind another. -/
def evSeq (P : Program) (K : Kn) (lo : Pr) (nt : Nat) (ops : Array Oper) : List Oper → St → Option St
  | [], st => some st
  | o :: l, st => match stepOp P K lo nt ops o st with
    | some st1 => evSeq P K lo nt ops l st1
    | none => none
theorem app_assoc {w0 : Base} {pl q q2 : Pl} {nt : Nat} {st : St} {a : Act} {w : World} (h : At P w0 (pl ++ q ++ q2) nt st a w) : At P w0 (pl ++ (q ++ q2)) nt st a w := by rw [← List.append_assoc]; exact h
theorem At.mono_n {w0 : Base} {pl q : Pl} {nt : Nat} {st st' : St} {a a' : Act} {w w' : World} (h : At P w0 pl nt st a w) (h' : At P w0 (pl ++ q) nt st' a' w') : st.n ≤ st'.n := by
  rw [← h.len, ← h'.len, List.length_append]
  omega
theorem evSeq_ok {K : Kn} (hK : KOk P K) {w0 : Base} {lo : Pr} {nt : Nat} {ops : Array Oper} {Q : Exit → Act → World → Prop} : ∀ (l : List Oper) {pl : Pl} {st st' : St} {a : Act} {w : World}, At P w0 pl nt st a w → lo.1 ≤ st.n → evSeq P K lo nt ops l st = some st' →
    (∀ (q : Pl) (a' : Act) (w' : World), At P w0 (pl ++ q) nt st' a' w' → Agree lo st.H st'.H → Q .normal a' w') → wpList P ops Q l a w
  | [], pl, st, st', a, w, hat, _, h, hQ => by
    simp [evSeq] at h
    subst h
    exact hQ [] a w (by rw [List.append_nil]; exact hat) (Agree.refl _ _)
  | o :: l, pl, st, st', a, w, hat, hlo, h, hQ => by
    unfold evSeq at h
    split at h
    · rename_i st1 h1
      have := step_ok (Q := Q) hK hat hlo h1 (wpList P ops Q l) (fun q a' w' hat' hag _ => evSeq_ok hK l hat' (Nat.le_trans hlo (hat.mono_n hat')) h (fun q2 a2 w2 hat2 hag2 => hQ (q ++ q2) a2 w2 (app_assoc hat2) (hag.trans hag2)))
      unfold wpList
      split
      · rename_i hw
        rw [if_pos hw] at this
        exact .inl this
      · rename_i hw
        rw [if_neg hw] at this
        exact this
    · cases h
end Go.Proofs.YteeclengpnjlgaaGreat.Ev
