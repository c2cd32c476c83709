import Derived.Test.YteeclengpnjlgaaGreatEvMt
/- A closed run, reckoned: code, functions. -/
namespace Go.Proofs.YteeclengpnjlgaaGreat.Ev
set_option linter.unusedVariables false
set_option linter.unusedSimpArgs false
open Go.RowKit Go.Proofs.YteeclengpnjlgaaGreatW.PrintLast
variable {P : Program}
inductive Ex where
  | nrm
  | ext (id : Nat)
  | gto (l : Nat)
  | rt
def Ex.to : Ex → Exit
  | .nrm => .normal
  | .ext i => .exit i
  | .gto l => .goto l
  | .rt => .ret
/-- How a region that draws is gone: what tells where its stores go; what comes last; the steps; the table, what waits. -/
structure Way where
  pre : List Nat
  ws : List Nat
  ds : List Nat
  st : List (Nat × Nat)
  T : Tab
  B : List Nat
abbrev Plan := Nat → Option Way
def toksOf (tm : T Value) : List Nat → List Nat
  | [] => []
  | t :: l => match (get TD tm t).bind tokOf with
    | some r => r :: toksOf tm l
    | none => toksOf tm l
def prOf (lo : Pr) (n : Nat) (l : List Nat) : Pr := (n, l.filter fun t => !inPr lo t)
theorem prOf_in {lo : Pr} {n : Nat} {l : List Nat} (h : lo.1 ≤ n) (t : Nat) (ht : Prot lo t) : Prot (prOf lo n l) t := by
  obtain ⟨h1, h2⟩ := ht
  refine ⟨Nat.lt_of_lt_of_le h1 h, ?_⟩
  have hin : inPr lo t = true := by
    unfold inPr
    rw [h2, Bool.not_false, Bool.and_true]
    exact Nat.ble_eq_true_of_le h1
  unfold prOf
  simp only [List.contains_eq_mem, decide_eq_false_iff_not, List.mem_filter, hin]
  simp
/-- Some operations, to know where their pointers point: nothing hangs on it. -/
def preTm (P : Program) (nt : Nat) (ops : Array Oper) : List Nat → St → T Value
  | [], st => st.tm
  | i :: l, st => match ops[i]? with
    | some o => match stepOp P (fun _ _ _ _ _ => none) (0, []) nt ops o st with
      | some st1 => preTm P nt ops l st1
      | none => st.tm
    | none => st.tm
def evDraw (P : Program) (K : Kn) (plan : Plan) (lo : Pr) (nt id : Nat) (ops : Array Oper) (st : St) : Option St :=
  match plan id with
  | some y => evReg P K lo nt ops (prOf lo st.n (toksOf (preTm P nt ops y.pre st) y.ws)) st.H y.st st
  | none => none
def drawOk (plan : Plan) (id : Nat) (ops : Array Oper) : Bool :=
  match plan id with
  | some y => Nat.beq y.st.length ops.size && stepsOk ops y.T y.B y.ds y.st
  | none => true
def codeOk (plan : Plan) : Code → Bool
  | .region id ops draw => bif draw then drawOk plan id ops else true
  | .seq x y => codeOk plan x && codeOk plan y
  | .cond _ x y => codeOk plan x && codeOk plan y
  | .block _ x | .loop x | .scope x => codeOk plan x
  | _ => true
/-- Code; true: the rounds of a loop. -/
def evCode (P : Program) (K : Kn) (plan : Plan) (lo : Pr) (nt : Nat) : Nat → Bool → Code → St → Option (Ex × St)
  | 0, _, _, _ => none
  | f + 1, true, c, st => match evCode P K plan lo nt f false c st with
    | some (.nrm, st1) => evCode P K plan lo nt f true c st1
    | r => r
  | f + 1, false, c, st => match c with
    | .skip | .label _ => some (.nrm, st)
    | .region id ops draw => (bif draw then evDraw P K plan lo nt id ops st else evSeq P K lo nt ops ops.toList st).map fun s => (.nrm, s)
    | .seq x y => match evCode P K plan lo nt f false x st with
      | some (.nrm, st1) => evCode P K plan lo nt f false y st1
      | r => r
    | .cond x y z => match evO st.tm x with
      | some (.bool b) => evCode P K plan lo nt f false (bif b then y else z) st
      | _ => none
    | .block id x => match evCode P K plan lo nt f false x st with
      | some (.ext i, st1) => some (bif Nat.beq i id then .nrm else .ext i, st1)
      | r => r
    | .loop x => evCode P K plan lo nt f true x st
    | .exit id => some (.ext id, st)
    | .scope x => match evCode P K plan lo nt f false x st with
      | some (.gto _, _) => none
      | r => r
    | .goto l => some (.gto l, st)
    | .ret => some (.rt, st)
    | _ => none
/-- What stands behind code. -/
def Post (P : Program) (w0 : Base) (pl : Pl) (lo : Pr) (nt : Nat) (st : St) (ex : Ex) (st' : St) : Exit → Act → World → Prop := fun e a w => e = ex.to ∧ ∃ q : Pl, At P w0 (pl ++ q) nt st' a w ∧ Agree lo st.H st'.H
theorem Post.refl {w0 : Base} {pl : Pl} {lo : Pr} {nt : Nat} {st : St} {ex : Ex} {a : Act} {w : World} (h : At P w0 pl nt st a w) : Post P w0 pl lo nt st ex st ex.to a w := ⟨rfl, [], by rw [List.append_nil]; exact h, Agree.refl _ _⟩
theorem Post.trans {w0 : Base} {pl q : Pl} {lo : Pr} {nt : Nat} {st st1 st2 : St} {ex : Ex} {e : Exit} {a : Act} {w : World} (hag : Agree lo st.H st1.H) (h : Post P w0 (pl ++ q) lo nt st1 ex st2 e a w) : Post P w0 pl lo nt st ex st2 e a w := by
  obtain ⟨h1, q2, h2, h3⟩ := h
  exact ⟨h1, q ++ q2, app_assoc h2, hag.trans h3⟩
theorem evDraw_ok {K : Kn} (hK : KOk P K) (hm : P.follows .mixedOrders = true) {w0 : Base} {pl : Pl} {plan : Plan} {lo : Pr} {nt id : Nat} {ops : Array Oper} {st st' : St} {a : Act} {w : World} (hc : drawOk plan id ops = true) (hat : At P w0 pl nt st a w) (hlo : lo.1 ≤ st.n) (h : evDraw P K plan lo nt id ops st = some st') : (Code.region id ops true).wp P (Post P w0 pl lo nt st .nrm st') a w := by
  unfold evDraw at h
  unfold drawOk at hc
  cases hp : plan id with
  | none => simp [hp] at h
  | some p =>
    obtain ⟨pre, ws, ds, steps, T, B⟩ := p
    simp only [hp] at h hc
    rw [Bool.and_eq_true] at hc
    have hl : steps.length = ops.size := Nat.eq_of_beq_eq_true hc.1
    have hS := Stays.start (prOf lo st.n (toksOf (preTm P nt ops pre st) ws)) hat.sim.drew
    refine start_ (S := Stays P pl st.H (prOf lo st.n (toksOf (preTm P nt ops pre st) ws))) (ds := ds) (Array.replicate ops.size false) hm rfl rfl hS (fun _ => ?_)
    have hat' : At P w0 (pl ++ []) nt st a w.drew := by rw [List.append_nil]; exact ⟨hat.tm, hat.sim.drew, hat.len, hat.sz⟩
    have e1 : lo.1 ≤ pl.length := by rw [hat.len]; exact hlo
    have e2 : (prOf lo st.n (toksOf (preTm P nt ops pre st) ws)).1 ≤ pl.length := by rw [hat.len]; exact Nat.le_refl _
    rcases stepsOk_ok hc.2 with hc | hc
    · have := evReg_ok (Q := Post P w0 pl lo nt st .nrm st') hK e1 e2 (prOf_in hlo) (fun c a w hp => by cases hp.1) 0 steps (Array.replicate ops.size false) (ds := ds) hat' (.inr ⟨hS, Agree.refl _ _⟩) hc h (fun q' a' w' h1 h2 => ⟨rfl, q', h1, h2⟩)
      rw [Nat.add_zero, hl] at this
      exact this
    · have := evOne_ok (Q := Post P w0 pl lo nt st .nrm st') hK e1 e2 (prOf_in hlo) (fun c a w hp => by cases hp.1) 0 steps (Array.replicate ops.size false) (ds := ds) hat' hS (Agree.refl _ _) hc h (fun q' a' w' h1 h2 => ⟨rfl, q', h1, h2⟩)
      rw [Nat.add_zero, hl] at this
      exact this
theorem rounds_trans {c : Code} {w0 : Base} {pl q : Pl} {lo : Pr} {nt : Nat} {st st1 st2 : St} {ex : Ex} (hag : Agree lo st.H st1.H) : ∀ (n : Nat) (a : Act) (w : World), Code.rounds P c (Post P w0 (pl ++ q) lo nt st1 ex st2) n a w → Code.rounds P c (Post P w0 pl lo nt st ex st2) n a w
  | 0, _, _, h => h
  | n + 1, a, w, h => by
    rw [rounds_succ] at h ⊢
    refine wp_mono h (fun e a w he => ?_)
    cases e <;> first | exact rounds_trans hag n _ _ he | exact Post.trans hag he
theorem not_nrm {w0 : Base} {pl : Pl} {lo : Pr} {nt : Nat} {st st' : St} {ex : Ex} {a : Act} {w : World} (h : Post P w0 pl lo nt st ex st' .normal a w) : ex = .nrm := by
  have := h.1
  cases ex <;> first | rfl | cases this
theorem evCode_ok {K : Kn} (hK : KOk P K) (hm : P.follows .mixedOrders = true) {w0 : Base} {plan : Plan} {lo : Pr} {nt : Nat} : ∀ (f : Nat) (m : Bool) (c : Code) (hk : codeOk plan c = true) {pl : Pl} {st : St} {ex : Ex} {st' : St} {a : Act} {w : World}, At P w0 pl nt st a w → lo.1 ≤ st.n → evCode P K plan lo nt f m c st = some (ex, st') →
    (if m = true then Code.rounds P c (Post P w0 pl lo nt st ex st') f a w else c.wp P (Post P w0 pl lo nt st ex st') a w)
  | 0, _, _, _, _, _, _, _, _, _, _, _, h => by simp [evCode] at h
  | f + 1, true, c, hk, pl, st, ex, st', a, w, hat, hlo, h => by
    rw [if_pos rfl, rounds_succ]
    unfold evCode at h
    split at h
    · rename_i st1 h1
      have ih := evCode_ok hK hm f false c hk hat hlo h1
      rw [if_neg (by simp)] at ih
      refine wp_mono ih (fun e a1 w1 hp => ?_)
      obtain ⟨he, q, hq, hag⟩ := hp
      subst he
      have ih2 := evCode_ok hK hm f true c hk hq (Nat.le_trans hlo (hat.mono_n hq)) h
      rw [if_pos rfl] at ih2
      exact rounds_trans hag f a1 w1 ih2
    · rename_i hne
      have ih := evCode_ok hK hm f false c hk hat hlo h
      rw [if_neg (by simp)] at ih
      refine wp_mono ih (fun e a1 w1 hp => ?_)
      cases e with
      | normal =>
        have := not_nrm hp
        subst this
        exact absurd h (hne _)
      | _ => exact hp
  | f + 1, false, c, hk, pl, st, ex, st', a, w, hat, hlo, h => by
    rw [if_neg (by simp)]
    cases c with
    | skip => simp [evCode] at h; obtain ⟨rfl, rfl⟩ := h; exact wp_skip (Post.refl hat)
    | label l => simp [evCode] at h; obtain ⟨rfl, rfl⟩ := h; exact wp_label (Post.refl hat)
    | exit id => simp [evCode] at h; obtain ⟨rfl, rfl⟩ := h; exact wp_exit (Post.refl (ex := .ext id) hat)
    | goto l => simp [evCode] at h; obtain ⟨rfl, rfl⟩ := h; exact wp_goto (Post.refl (ex := .gto l) hat)
    | ret => simp [evCode] at h; obtain ⟨rfl, rfl⟩ := h; exact wp_ret (Post.refl (ex := .rt) hat)
    | region id ops draw =>
      simp only [evCode] at h
      obtain ⟨s, h1, h2⟩ := map_some h
      injection h2 with h2 h3
      subst h2 h3
      cases draw with
      | true => exact evDraw_ok hK hm hk hat hlo h1
      | false => exact wp_region_list (evSeq_ok hK ops.toList hat hlo h1 (fun q a' w' h4 h5 => ⟨rfl, q, h4, h5⟩))
    | seq x y =>
      simp only [evCode] at h
      have hk : (codeOk plan x && codeOk plan y) = true := hk
      rw [Bool.and_eq_true] at hk
      have hkx := hk.1
      split at h
      · rename_i st1 h1
        have ih := evCode_ok hK hm f false x hkx hat hlo h1
        rw [if_neg (by simp)] at ih
        refine wp_seq (wp_mono ih (fun e a1 w1 hp => ?_))
        obtain ⟨he, q, hq, hag⟩ := hp
        subst he
        have ih2 := evCode_ok hK hm f false y hk.2 hq (Nat.le_trans hlo (hat.mono_n hq)) h
        rw [if_neg (by simp)] at ih2
        exact wp_mono ih2 (fun e a w he => Post.trans hag he)
      · rename_i hne
        have ih := evCode_ok hK hm f false x hkx hat hlo h
        rw [if_neg (by simp)] at ih
        refine wp_seq (wp_mono ih (fun e a1 w1 hp => ?_))
        cases e with
        | normal =>
          have := not_nrm hp
          subst this
          exact absurd h (hne _)
        | _ => exact hp
    | cond x y z =>
      simp only [evCode] at h
      have hk : (codeOk plan y && codeOk plan z) = true := hk
      rw [Bool.and_eq_true] at hk
      split at h
      · rename_i b hx
        have hb : a.eval x = .bool b := VT_plain (pl := pl) rfl (evO_ok hat.tm hx)
        have ih := evCode_ok hK hm f false (bif b then y else z) (by cases b; exact hk.2; exact hk.1) hat hlo h
        rw [if_neg (by simp)] at ih
        refine wp_cond hb ?_
        cases b <;> exact ih
      · cases h
    | block id x =>
      simp only [evCode] at h
      have hkx : codeOk plan x = true := hk
      split at h
      · rename_i i st1 h1
        injection h with h
        injection h with h2 h3
        subst h2 h3
        have ih := evCode_ok hK hm f false x hkx hat hlo h1
        rw [if_neg (by simp)] at ih
        refine wp_block (wp_mono ih (fun e a1 w1 hp => ?_))
        obtain ⟨he, hq⟩ := hp
        subst he
        show (if i = id then _ else _)
        by_cases hi : i = id
        · rw [if_pos hi]
          subst hi
          rw [show Nat.beq i i = true by simp]
          exact ⟨rfl, hq⟩
        · rw [if_neg hi]
          have : Nat.beq i id = false := by
            cases hb : Nat.beq i id with
            | false => rfl
            | true => exact absurd (Nat.eq_of_beq_eq_true hb) hi
          rw [this]
          exact ⟨rfl, hq⟩
      · rename_i hne
        have ih := evCode_ok hK hm f false x hkx hat hlo h
        rw [if_neg (by simp)] at ih
        refine wp_block (wp_mono ih (fun e a1 w1 hp => ?_))
        obtain ⟨he, hq⟩ := hp
        cases ex with
        | ext i => exact absurd h (hne i _)
        | _ => subst he; exact ⟨rfl, hq⟩
    | loop x =>
      simp only [evCode] at h
      have ih := evCode_ok hK hm f true x hk hat hlo h
      rw [if_pos rfl] at ih
      exact wp_loop_rounds f ih
    | scope x =>
      simp only [evCode] at h
      have hkx : codeOk plan x = true := hk
      split at h
      · cases h
      · rename_i hne
        have ih := evCode_ok hK hm f false x hkx hat hlo h
        rw [if_neg (by simp)] at ih
        refine wp_scope_straight (wp_mono ih (fun e a1 w1 hp => ?_))
        obtain ⟨he, hq⟩ := hp
        cases ex with
        | gto l => exact absurd h (hne l _)
        | _ => subst he; exact ⟨rfl, hq⟩
    | rangeFunc _ _ _ _ => simp [evCode] at h
    | refuse _ => simp [evCode] at h
/-- The arguments, as temporaries. -/
def iniT : List Value → Nat → T Value → T Value
  | [], _, t => t
  | v :: l, i, t => iniT l (i + 1) (T.set TD t i v)
theorem iniT_get : ∀ (l : List Value) (i : Nat) (t : T Value) (k : Nat) (v : Value), i + l.length ≤ 2 ^ TD → get TD (iniT l i t) k = some v → (∃ j, k = i + j ∧ l[j]? = some v) ∨ get TD t k = some v
  | [], i, t, k, v, _, h => .inr h
  | u :: l, i, t, k, v, hl, h => by
    have hi : i < 2 ^ TD := by simp at hl; omega
    rcases iniT_get l (i + 1) (T.set TD t i u) k v (by simp at hl; omega) h with ⟨j, h1, h2⟩ | h1
    · exact .inl ⟨j + 1, by omega, by simpa using h2⟩
    · rw [get_set hi] at h1
      split at h1
      · rename_i e
        subst e
        injection h1 with h1
        subst h1
        exact .inl ⟨0, by omega, rfl⟩
      · exact .inr h1
theorem iniT_ok {pl : Pl} {args : List Value} {args' : Array Value} {nt : Nat} (hp : Pw (VT pl) args args'.toList) (hn : args.length ≤ nt) (ht : nt ≤ 2 ^ TD) : Tm pl (iniT args 0 .nil) { tmps := args' ++ Array.replicate (nt - args'.size) undef, defers := [] } ∧ (args' ++ Array.replicate (nt - args'.size) undef).size = nt := by
  have hl : args'.size = args.length := by have := hp.length; simpa using this
  have hz : (args' ++ Array.replicate (nt - args'.size) undef).size = nt := by simp; omega
  refine ⟨⟨rfl, fun t v hg => ?_⟩, hz⟩
  rcases iniT_get args 0 .nil t v (by omega) hg with ⟨j, h1, h2⟩ | h1
  · have : t = j := by omega
    subst this
    obtain ⟨v', h3, h4⟩ := hp.get h2
    have hlt : t < args'.size := by
      have := (List.getElem?_eq_some_iff.1 h2).1
      omega
    refine ⟨by rw [hz]; omega, ?_⟩
    have h5 : args'[t]? = some v' := by simpa using h3
    rw [Array.getD_eq_getD_getElem?, Array.getElem?_append_left hlt, h5]
    exact h4
  · rw [get_nil] at h1
    cases h1
def evRes1 (P : Program) (H : T AO) (tm : T Value) : ResultVar → Option Value
  | .tmp t => match get TD tm t with
    | some v => bif isTup v then none else some v
    | none => none
  | .cell a t => match get TD tm a with
    | some (.pointer (some ⟨r, off, none⟩)) => (match evLoad P H tm { dst := none, op := .load t (.tmp a), type := 0, pos := "", after := #[], guard := none } with
      | some (v, _) => bif isTup v then none else some v
      | none => none)
    | _ => none
def evRes (P : Program) (H : T AO) (tm : T Value) : List ResultVar → Option (List Value)
  | [] => some []
  | r :: l => match evRes1 P H tm r, evRes P H tm l with
    | some v, some vs => some (v :: vs)
    | _, _ => none
theorem evRes1_ok {w0 : Base} {w : World} {pl : Pl} {nt : Nat} {st : St} {a : Act} {r : ResultVar} {v : Value} (hat : At P w0 pl nt st a w) (h : evRes1 P st.H st.tm r = some v) :
    ∃ v', ((match r with | .tmp t => pure (a.tmps.getD t undef) | .cell x t => do loadVar t (← asAddr (a.tmps.getD x undef))) : Sem Value).run P w = .ok v' w ∧ VA pl v v' := by
  unfold evRes1 at h
  cases r with
  | tmp t =>
    simp only at h
    cases hg : get TD st.tm t with
    | none => simp [hg] at h
    | some u =>
      simp only [hg] at h
      obtain ⟨htu, h⟩ := cond_else h
      injection h with h
      subst h
      exact ⟨_, rfl, VT_VA htu (hat.tm.at_ t u hg).2⟩
  | cell x t =>
    simp only at h
    split at h
    · rename_i r off hg
      split at h
      · rename_i u tk hl
        obtain ⟨htu, h⟩ := cond_else h
        injection h with h
        subst h
        obtain ⟨v', b, _, hv, hr⟩ := evLoad_ok hat.tm hat.sim hl
        have hrun := hr w rfl
        obtain ⟨p', hp1, hp2⟩ := ((hat.tm.at_ x _ hg).2 : VP pl (.pointer (some ⟨r, off, none⟩)) (a.tmps.getD x undef))
        have hev : a.eval (.tmp x) = .pointer (some p') := hp2
        refine ⟨v', ?_, VT_VA htu hv⟩
        unfold execOp at hrun
        simp only [hev, Instr.loadAt, Instr.sureAddr, Sem.run_bind, Sem.run_pure, Result.andThen_ok] at hrun
        simp only [hp2, asAddr, Sem.run_bind, Sem.run_pure, Result.andThen_ok]
        cases hq : (loadVar t p').run P w with
        | ok x1 w1 =>
          rw [hq] at hrun
          simp only [Result.andThen_ok] at hrun
          injection hrun with e1 e2
          injection e1 with e1
          rw [e1, e2]
        | halt x1 w1 =>
          rw [hq] at hrun
          cases hrun
      · cases h
    · cases h
theorem evRes_ok {w0 : Base} {w : World} {pl : Pl} {nt : Nat} {st : St} {a : Act} (hat : At P w0 pl nt st a w) : ∀ {l : List ResultVar} {vs : List Value}, evRes P st.H st.tm l = some vs →
    ∃ vs', (l.mapM (fun r => (match r with | .tmp t => pure (a.tmps.getD t undef) | .cell x t => do loadVar t (← asAddr (a.tmps.getD x undef)) : Sem Value))).run P w = .ok vs' w ∧ Pw (VA pl) vs vs'
  | [], vs, h => by
    simp [evRes] at h
    subst h
    exact ⟨[], by simp, trivial⟩
  | r :: l, vs, h => by
    unfold evRes at h
    cases h1 : evRes1 P st.H st.tm r with
    | none => simp [h1] at h
    | some v =>
      cases h2 : evRes P st.H st.tm l with
      | none => simp [h1, h2] at h
      | some us =>
        simp [h1, h2] at h
        subst h
        obtain ⟨v', g1, g2⟩ := evRes1_ok hat h1
        obtain ⟨us', g3, g4⟩ := evRes_ok hat h2
        refine ⟨v' :: us', ?_, g2, g4⟩
        rw [List.mapM_cons, Sem.run_bind, g1, Result.andThen_ok, Sem.run_bind, g3]
        rfl
def evOut : List Value → Value
  | [v] => v
  | vs => .tuple vs.toArray
theorem evOut_ok {w0 : Base} {w : World} {pl : Pl} {nt : Nat} {st : St} {a : Act} {fn : Func} {vs : List Value} (hat : At P w0 pl nt st a w) (h : evRes P st.H st.tm fn.results.toList = some vs) : ∃ v', (results fn a.tmps).run P w = .ok v' w ∧ VT pl (evOut vs) v' := by
  obtain ⟨vs', h1, h2⟩ := evRes_ok hat h
  have hm : (fn.results.mapM (fun r => (match r with | .tmp t => pure (a.tmps.getD t undef) | .cell x t => do loadVar t (← asAddr (a.tmps.getD x undef)) : Sem Value))).run P w = .ok vs'.toArray w := by
    rw [Array.mapM_eq_mapM_toList, Sem.run_map, h1]
    rfl
  refine ⟨if hs : vs'.toArray.size = 1 then vs'.toArray[0] else .tuple vs'.toArray, ?_, ?_⟩
  · unfold results
    rw [Sem.run_bind]
    exact (congrArg (fun r => r.andThen fun vs w' => (pure (if h : vs.size = 1 then vs[0] else Value.tuple vs) : Sem Value).run P w') hm).trans rfl
  · match vs, vs', h2 with
    | [], [], _ => exact ⟨#[], rfl, trivial⟩
    | [v], [v'], h2 => exact VA_VT h2.1
    | v :: u :: l, v' :: u' :: l', h2 => exact ⟨(v' :: u' :: l').toArray, by simp, h2⟩
/-- A function; X: functions whose contracts are at hand. -/
def evFn (P : Program) (X : Kn) (plan : FuncId → Plan) : Nat → Kn
  | 0 => fun _ _ _ _ _ => none
  | k + 1 => fun lo g args n H => match X lo g args n H with
    | some r => some r
    | none => match P.funcs[g]? with
      | some fn => match fn.body with
        | some c => bif Nat.ble args.length fn.ntmps && Nat.ble fn.ntmps (2 ^ TD) then
            (match evCode P (evFn P X plan k) (plan g) lo fn.ntmps 4000 false c ⟨n, H, iniT args 0 .nil⟩ with
            | some (.nrm, st) | some (.rt, st) => (evRes P st.H st.tm fn.results.toList).map fun vs => (evOut vs, st.n, st.H)
            | _ => none) else none
        | none => none
      | none => none
theorem evFn_ok {X : Kn} (hX : KOk P X) (hm : P.follows .mixedOrders = true) (plan : FuncId → Plan) (hpl : ∀ g fn c, P.funcs[g]? = some fn → fn.body = some c → codeOk (plan g) c = true) : ∀ k, KOk P (evFn P X plan k)
  | 0 => fun _ _ _ _ _ _ _ _ h => by simp [evFn] at h
  | k + 1 => fun lo g args n H v n' H' h w0 pl args' w hn hlo hs hp => by
    have ihK := evFn_ok hX hm plan hpl k
    unfold evFn at h
    split at h
    · rename_i r hx
      injection h with h
      subst h
      exact hX lo g args n H v n' H' hx w0 pl args' w hn hlo hs hp
    · split at h
      · rename_i fn hf
        split at h
        · rename_i c hb
          obtain ⟨hc, h⟩ := cond_some h
          rw [Bool.and_eq_true] at hc
          obtain ⟨hT, hz⟩ := iniT_ok hp (Nat.le_of_ble_eq_true hc.1) (Nat.le_of_ble_eq_true hc.2)
          have hat : At P w0 pl fn.ntmps ⟨n, H, iniT args 0 .nil⟩ { tmps := args' ++ Array.replicate (fn.ntmps - args'.size) undef, defers := [] } w := ⟨hT, hs, hn, hz⟩
          have fin : ∀ (ex : Ex) (st : St), (ex = .nrm ∨ ex = .rt) → evCode P (evFn P X plan k) (plan g) lo fn.ntmps 4000 false c ⟨n, H, iniT args 0 .nil⟩ = some (ex, st) → (evRes P st.H st.tm fn.results.toList).map (fun vs => (evOut vs, st.n, st.H)) = some (v, n', H') →
              Calls P g args' w fun e w' => ∃ (q : Pl) (v' : Value), e = .returned v' ∧ VT (pl ++ q) v v' ∧ Sim P w0 (pl ++ q) H' w' ∧ (pl ++ q).length = n' ∧ Agree lo H H' := by
            intro ex st hex hcode hres
            obtain ⟨vs, h1, h2⟩ := map_some hres
            injection h2 with h2 h3
            injection h3 with h3 h4
            subst h2 h3 h4
            have hwp := evCode_ok ihK hm 4000 false c (hpl g fn c hf hb) hat hlo hcode
            rw [if_neg (by simp)] at hwp
            refine calls_of_wp hf hb (wp_mono hwp (fun e a1 w1 hpost => ?_))
            obtain ⟨he, q, hq, hag⟩ := hpost
            obtain ⟨v', h5, h6⟩ := evOut_ok hq h1
            have hout : a1.defers = [] ∧ ∃ v, (results fn a1.tmps).run P w1 = .ok v w1 ∧ (∃ (q : Pl) (v' : Value), Ending.returned v = .returned v' ∧ VT (pl ++ q) (evOut vs) v' ∧ Sim P w0 (pl ++ q) st.H w1 ∧ (pl ++ q).length = st.n ∧ Agree lo H st.H) :=
              ⟨hq.tm.defers, v', h5, q, v', rfl, h6, hq.sim, hq.len, hag⟩
            rcases hex with rfl | rfl <;> subst he <;> exact hout
          split at h
          · rename_i st hcode
            exact fin .nrm st (.inl rfl) hcode h
          · rename_i st hcode
            exact fin .rt st (.inr rfl) hcode h
          · cases h
        · cases h
      · cases h
/-- The plans, laid out: function, region, plan. -/
abbrev Plans := List (Nat × List (Nat × Way))
def look {α : Type} : List (Nat × α) → Nat → Option α
  | [], _ => none
  | (k, v) :: l, n => bif Nat.beq k n then some v else look l n
def planOf (L : Plans) (g : FuncId) : Plan := match look L g with
  | some l => look l
  | none => fun _ => none
theorem codeOk_none : ∀ c : Code, codeOk (fun _ => none) c = true
  | .region id ops draw => by unfold codeOk; cases draw <;> rfl
  | .seq x y => by unfold codeOk; rw [codeOk_none x, codeOk_none y]; rfl
  | .cond _ x y => by unfold codeOk; rw [codeOk_none x, codeOk_none y]; rfl
  | .block _ x => codeOk_none x
  | .loop x => codeOk_none x
  | .scope x => codeOk_none x
  | .skip | .label _ | .exit _ | .goto _ | .ret | .refuse _ | .rangeFunc _ _ _ _ => rfl
/-- Is a function's plan as it must be? -/
def fnOk (P : Program) (e : Nat × List (Nat × Way)) : Bool := match P.funcs[e.1]? with
  | some fn => match fn.body with
    | some c => codeOk (look e.2) c
    | none => true
  | none => true
theorem look_mem {α : Type} : ∀ {L : List (Nat × α)} {n : Nat} {v : α}, look L n = some v → (n, v) ∈ L
  | (k, u) :: l, n, v, h => by
    unfold look at h
    cases hb : Nat.beq k n with
    | true =>
      rw [hb, cond_true] at h
      injection h with h
      rw [Nat.eq_of_beq_eq_true hb, h]
      exact List.mem_cons_self
    | false =>
      rw [hb, cond_false] at h
      exact List.mem_cons_of_mem _ (look_mem h)
theorem plans_ok {L : Plans} (h : ∀ e ∈ L, fnOk P e = true) : ∀ g fn c, P.funcs[g]? = some fn → fn.body = some c → codeOk (planOf L g) c = true := by
  intro g fn c hf hb
  unfold planOf
  cases hl : look L g with
  | none => exact codeOk_none c
  | some l =>
    have := h _ (look_mem hl)
    unfold fnOk at this
    simp only [hf, hb] at this
    exact this
/-- A closed run that gives a value: so it does in every world, and leaves every block that stood alone. -/
theorem closed_ok {K : Kn} (hK : KOk P K) {g : FuncId} {v : Value} {n : Nat} {H : T AO} (h : K (0, []) g [] 0 .nil = some (v, n, H)) (hp : plain v = true) (w : World) : Calls P g #[] w fun e w' => e = .returned v ∧ Below w.heap.size w w' := by
  refine (hK (0, []) g [] 0 .nil v n H h (Base.of w) [] #[] w rfl (Nat.le_refl _) (Sim.start P (Base.of w)) trivial).mono ?_
  rintro e w' ⟨q, v', rfl, hv, hs, _, _⟩
  have : v' = v := VT_plain hp hv
  subst this
  exact ⟨rfl, hs.below.os, hs.below.tape, hs.below.output, hs.below.size, fun k hk => hs.below.block k hk⟩
end Go.Proofs.YteeclengpnjlgaaGreat.Ev
