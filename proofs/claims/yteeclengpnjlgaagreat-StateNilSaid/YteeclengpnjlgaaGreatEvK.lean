import Derived.Test.YteeclengpnjlgaaGreatEvJ
/- A closed run, reckoned: what an operation leaves alone. -/
namespace Go.Proofs.YteeclengpnjlgaaGreat.Ev
set_option linter.unusedVariables false
set_option linter.unusedSimpArgs false
open Go.RowKit
variable {P : Program}
/-- What must be left alone: tokens below a number, but for some. -/
abbrev Pr := Nat × List Nat
def Prot (lo : Pr) (t : Nat) : Prop := t < lo.1 ∧ lo.2.contains t = false
def Agree (lo : Pr) (H H' : T AO) : Prop := ∀ t, Prot lo t → get HD H' t = get HD H t
theorem Agree.refl (lo : Pr) (H : T AO) : Agree lo H H := fun _ _ => rfl
theorem Agree.trans {lo : Pr} {H H' H2 : T AO} (h : Agree lo H H') (h' : Agree lo H' H2) : Agree lo H H2 := fun t ht => (h' t ht).trans (h t ht)
theorem Agree.less {lo lo2 : Pr} {H H' : T AO} (h : Agree lo H H') (hl : ∀ t, Prot lo2 t → Prot lo t) : Agree lo2 H H' := fun t ht => h t (hl t ht)
theorem Agree.set {lo : Pr} {r : Nat} {H : T AO} {o : AO} (hr : r < 2 ^ HD) (h : ¬ Prot lo r) : Agree lo H (T.set HD H r o) := fun t ht => by
  rw [get_set hr, if_neg (fun e => h (by rw [← e]; exact ht))]
theorem np {lo : Pr} {n : Nat} (h : lo.1 ≤ n) : ¬ Prot lo n := fun hp => by
  have := hp.1
  omega
theorem Agree.same {lo : Pr} {r : Nat} {H : T AO} {o : AO} (h : get HD H r = some o) : Agree lo H (T.set HD H r o) := fun t ht => by
  rw [get_set (get_lt h)]
  split
  · rename_i e
    subst e
    exact h.symm
  · rfl
theorem cond_some {α : Type} {c : Bool} {x : Option α} {v : α} (h : (bif c then x else none) = some v) : c = true ∧ x = some v := by
  cases c with
  | false => simp at h
  | true => exact ⟨rfl, h⟩
theorem cond_else {α : Type} {c : Bool} {x : Option α} {v : α} (h : (bif c then none else x) = some v) : c = false ∧ x = some v := by
  cases c with
  | true => simp at h
  | false => exact ⟨rfl, h⟩
def isFull (v : Value) : Bool := match v with
  | .slice _ n c => Nat.beq (c % 2) 0 && Nat.beq n (c / 2)
  | _ => false
def tokOf : Value → Option Nat
  | .pointer (some a) | .slice (some a) _ _ => some a.block
  | .map (some r) => some r
  | _ => none
def above (lo : Pr) (v : Value) : Bool := match tokOf v with
  | some r => Nat.ble lo.1 r || lo.2.contains r
  | none => true
/-- Does an operation write above lo only? -/
def guardW (lo : Pr) (tm : T Value) (o : Oper) : Bool :=
  match o.op with
  | .store _ x _ | .mapUpdate _ x _ _ | .mapEntry _ x _ | .entryStore _ x _ _ => (match evO tm x with | some v => above lo v | none => false)
  | .call c => match c.callee, c.args.toList with
    | .builtin b, x :: _ => (match evO tm x with | some v => above lo v || (isFull v && (match b with | .append => true | _ => false)) | none => false)
    | .builtin _, [] => false
    | _, _ => true
  | _ => true
def heapOf : Rs → Option (T AO)
  | .val _ _ H | .skip _ H => some H
  | .call _ _ => none
theorem new_agree {lo : Pr} {n : Nat} {H H' : T AO} {v : Value} {ob : AO} {rs : Rs} (hl : lo.1 ≤ n) (h : evNew n H v ob = some rs) (hh : heapOf rs = some H') : Agree lo H H' := by
  unfold evNew at h
  cases hr : room n with
  | false => simp [hr] at h
  | true =>
    simp only [hr, cond_true, Option.some.injEq] at h
    subst h
    injection hh with hh
    subst hh
    exact Agree.set (room_lt hr) (np hl)
theorem above_spec {lo : Pr} {r : Nat} {v : Value} (h : above lo v = true) (ht : tokOf v = some r) : ¬ Prot lo r := by
  unfold above at h
  rw [ht] at h
  rintro ⟨h1, h2⟩
  rw [Bool.or_eq_true] at h
  rcases h with h | h
  · have := Nat.le_of_ble_eq_true h
    omega
  · rw [h2] at h
    cases h
theorem evMapOf_tok {H : T AO} {t et : TypeId} {m k key : Value} {r c : Nat} {es : List MapEntry} {f : Option (Nat × Value)} (h : evMapOf P H t m k = some (r, et, es, c, key, f)) : tokOf m = some r ∧ get HD H r = some (.map es c) := by
  unfold evMapOf at h
  split at h
  · split at h
    · rename_i hg _
      cases hf : Instr.findNow _ _ _ _ with
      | none => rw [hf] at h; simp at h
      | some f0 =>
        rw [hf] at h
        simp only [Option.map_some, Option.some.injEq, Prod.mk.injEq] at h
        obtain ⟨rfl, rfl, rfl, rfl, rfl, rfl⟩ := h
        exact ⟨rfl, hg⟩
    · simp at h
  · simp at h
theorem putL_nil (cs : List Value) (o : Nat) : putL cs o [] = cs := rfl
theorem append_agree {lo : Pr} {n : Nat} {H H' : T AO} {t t2 : TypeId} {s x : Value} {rs : Rs} (hl : lo.1 ≤ n) (hg : (above lo s || isFull s) = true) (h : evAppend P n H t t2 s x = some rs) (hh : heapOf rs = some H') : Agree lo H H' := by
  unfold evAppend at h
  split at h
  · rename_i e base sLen sCap he
    split at h
    · rename_i i hi
      split at h
      · rename_i z news m hz hsrc
        replace h := (cond_some h).2
        split at h
        · cases hb : Nat.beq sLen 0 && Nat.beq sCap 0 with
          | false => simp [hb] at h
          | true =>
            simp only [hb, cond_true] at h
            cases hm : Nat.beq m 0 with
            | true =>
              simp only [hm, cond_true, Option.some.injEq] at h
              subst h
              injection hh with hh
              subst hh
              exact Agree.refl _ _
            | false =>
              simp only [hm, cond_false] at h
              cases hr : room n with
              | false => simp [hr] at h
              | true =>
                simp only [hr, cond_true, Option.some.injEq] at h
                subst h
                injection hh with hh
                subst hh
                exact Agree.set (room_lt hr) (np hl)
        · rename_i r off
          split at h
          · rename_i cs ee hgr
            cases hb : Nat.beq ((cs.drop off).take (sLen * i.size)).length (sLen * i.size) && Nat.beq ee e with
            | false => rw [hb] at h; simp at h
            | true =>
              rw [hb] at h
              simp only [cond_true] at h
              cases hf : Nat.ble (sLen + m) (sCap / 2) with
              | true =>
                simp only [hf, cond_true] at h
                cases hin : Nat.ble (off + (sLen + m) * i.size) cs.length with
                | false => simp [hin] at h
                | true =>
                  simp only [hin, cond_true, Option.some.injEq] at h
                  subst h
                  injection hh with hh
                  subst hh
                  rw [Bool.or_eq_true] at hg
                  rcases hg with hg | hg
                  · exact Agree.set (get_lt hgr) (above_spec hg rfl)
                  · unfold isFull at hg
                    simp only [Bool.and_eq_true] at hg
                    have g2 := Nat.eq_of_beq_eq_true hg.2
                    have hf := Nat.le_of_ble_eq_true hf
                    have hm0 : m = 0 := by omega
                    have hnews : news = [] := by
                      subst hm0
                      unfold evSrc at hsrc
                      split at hsrc
                      · split at hsrc
                        · cases hq : Nat.beq _ 0 with
                          | false => rw [hq] at hsrc; simp at hsrc
                          | true => rw [hq] at hsrc; simp at hsrc; exact hsrc
                        · simp at hsrc
                      · split at hsrc
                        · cases hq : Nat.beq (List.length _) _ with
                          | false => rw [hq] at hsrc; simp at hsrc
                          | true =>
                            rw [hq] at hsrc
                            simp only [cond_true, Option.some.injEq, Prod.mk.injEq] at hsrc
                            obtain ⟨h1, h2⟩ := hsrc
                            subst h2
                            rw [← h1]
                            simp
                        · simp at hsrc
                      · rename_i s0
                        split at hsrc
                        · cases hq : Nat.beq i.size 1 with
                          | false => rw [hq] at hsrc; simp at hsrc
                          | true =>
                            rw [hq] at hsrc
                            simp only [cond_true, Option.some.injEq, Prod.mk.injEq] at hsrc
                            obtain ⟨h1, h2⟩ := hsrc
                            rw [← h1]
                            exact List.eq_nil_of_length_eq_zero (by rw [byteCells_length]; exact h2)
                        · simp at hsrc
                      · simp at hsrc
                    subst hnews
                    rw [putL_nil]
                    exact Agree.same hgr
              | false =>
                simp only [hf, cond_false] at h
                cases hr : room n with
                | false => simp [hr] at h
                | true =>
                  simp only [hr, cond_true] at h
                  cases hev : Nat.beq (sCap % 2) 0 with
                  | true =>
                    simp only [hev, cond_true, Option.some.injEq] at h
                    subst h
                    injection hh with hh
                    subst hh
                    exact Agree.set (room_lt hr) (np hl)
                  | false =>
                    simp only [hev, cond_false] at h
                    cases hoff : Nat.beq off 0 && Nat.beq cs.length (sCap / 2 * i.size) with
                    | false => simp [hoff] at h
                    | true =>
                      simp only [hoff, cond_true, Option.some.injEq] at h
                      subst h
                      injection hh with hh
                      subst hh
                      rw [Bool.or_eq_true] at hg
                      rcases hg with hg | hg
                      · exact (Agree.set (get_lt hgr) (above_spec hg rfl)).trans (Agree.set (room_lt hr) (np hl))
                      · unfold isFull at hg
                        simp only [Bool.and_eq_true] at hg
                        rw [hg.1] at hev
                        cases hev
          · simp at h
        · simp at h
      · simp at h
    · simp at h
  · simp at h
theorem evEff_agree {lo : Pr} {n : Nat} {H H' : T AO} {tm : T Value} {o : Oper} {rs : Rs} (hl : lo.1 ≤ n) (hg : guardW lo tm o = true) (h : evEff P n H tm o = some rs) (hh : heapOf rs = some H') : Agree lo H H' := by
  unfold evEff at h
  unfold guardW at hg
  cases ho : o.op <;> simp only [ho] at h hg <;> try (simp at h; done)
  case alloc t =>
    unfold evAlloc at h
    split at h
    · split at h
      · exact new_agree hl (cond_some h).2 hh
      · simp at h
    · simp at h
  case box t x =>
    split at h
    · rename_i v hx
      cases htu : isTup v with
      | true => simp [htu] at h
      | false => simp only [htu, cond_false] at h; exact new_agree hl h hh
    · simp at h
  case buildSlice t len parts =>
    unfold evBuildSlice at h
    split at h
    · split at h
      · rename_i i hi
        split at h
        · replace h := (cond_some h).2
          cases hq : Nat.beq (len * i.size) 0 with
          | true =>
            rw [hq, cond_true] at h
            split at h <;> first | exact new_agree hl h hh | (simp at h)
          | false =>
            rw [hq, cond_false] at h
            split at h <;> first | exact new_agree hl h hh | (simp at h)
        · simp at h
      · simp at h
    · simp at h
  case makeMap t r =>
    cases r with
    | none => exact new_agree hl h hh
    | some r => simp at h
  case makeSlice t x y =>
    split at h
    · unfold evMakeSlice at h
      split at h
      · split at h
        · split at h
          · split at h
            · exact new_agree hl (cond_some h).2 hh
            · simp at h
          · simp at h
        · simp at h
      · simp at h
    · simp at h
  case store t x y =>
    split at h
    · rename_i u v hx hy
      rw [hx] at hg
      unfold evStore at h
      split at h
      · split at h
        · rename_i hgr _
          replace h := (cond_some h).2
          injection h with h
          subst h
          injection hh with hh
          subst hh
          exact Agree.set (get_lt hgr) (above_spec hg rfl)
        · simp at h
      · simp at h
    · simp at h
  case mapUpdate t m k v =>
    split at h
    · rename_i m' k' v' h1 h2 h3
      rw [h1] at hg
      unfold evMapUpdate at h
      replace h := (cond_else h).2
      split at h
      · rename_i hmo
        injection h with h
        subst h
        injection hh with hh
        subst hh
        obtain ⟨q1, q2⟩ := evMapOf_tok hmo
        exact Agree.set (get_lt q2) (above_spec hg q1)
      · rename_i hmo
        injection h with h
        subst h
        injection hh with hh
        subst hh
        obtain ⟨q1, q2⟩ := evMapOf_tok hmo
        exact Agree.set (get_lt q2) (above_spec hg q1)
      · simp at h
    · simp at h
  case mapEntry t m k =>
    split at h
    · rename_i m' k' h1 h2
      rw [h1] at hg
      unfold evMapEntry at h
      split at h
      · rename_i hmo
        obtain ⟨q1, q2⟩ := evMapOf_tok hmo
        rw [Option.map_eq_some_iff] at h
        obtain ⟨_, _, h⟩ := h
        subst h
        injection hh with hh
        subst hh
        exact Agree.set (get_lt q2) (above_spec hg q1)
      · rename_i hmo
        obtain ⟨q1, q2⟩ := evMapOf_tok hmo
        split at h
        · split at h
          · replace h := (cond_some h).2
            injection h with h
            subst h
            injection hh with hh
            subst hh
            exact Agree.set (get_lt q2) (above_spec hg q1)
          · simp at h
        · simp at h
      · simp at h
    · simp at h
  case entryStore t m k v =>
    split at h
    · rename_i m' k' v' h1 h2 h3
      rw [h1] at hg
      unfold evEntryStore at h
      split at h
      · split at h
        · rename_i hgr
          split at h
          · replace h := (cond_else h).2
            injection h with h
            subst h
            injection hh with hh
            subst hh
            exact Agree.set (get_lt hgr) (above_spec hg rfl)
          · simp at h
        · simp at h
      · simp at h
    · simp at h
  case call c =>
    split at h
    · unfold evCall at h
      split at h
      · replace h := (cond_some h).2
        injection h with h
        subst h
        simp [heapOf] at hh
      · simp at h
    · rename_i b hc
      split at h
      · rename_i s x t t2 ha hty
        simp only [hc, ha] at hg
        split at h
        · rename_i s' x' h1 h2
          rw [h1] at hg
          simp only [Bool.and_true] at hg
          exact append_agree hl hg h hh
        · simp at h
      · rename_i s x t t2 ha hty
        simp only [hc, ha] at hg
        split at h
        · rename_i s' x' h1 h2
          rw [h1] at hg
          simp only [Bool.and_false, Bool.or_false] at hg
          unfold evCopy at h
          split at h
          · split at h
            · replace h := (cond_some h).2
              injection h with h
              subst h
              injection hh with hh
              subst hh
              exact Agree.refl _ _
            · rename_i hgr _
              split at h
              · replace h := (cond_some h).2
                injection h with h
                subst h
                injection hh with hh
                subst hh
                exact Agree.set (get_lt hgr) (above_spec hg rfl)
              · simp at h
            · simp at h
          · simp at h
        · simp at h
      · rename_i s x t t2 ha hty
        simp only [hc, ha] at hg
        split at h
        · rename_i s' x' h1 h2
          rw [h1] at hg
          simp only [Bool.and_false, Bool.or_false] at hg
          unfold evDelete at h
          split at h
          · rename_i hmo
            injection h with h
            subst h
            injection hh with hh
            subst hh
            obtain ⟨q1, q2⟩ := evMapOf_tok hmo
            exact Agree.set (get_lt q2) (above_spec hg q1)
          · rename_i hmo
            injection h with h
            subst h
            injection hh with hh
            subst hh
            obtain ⟨q1, q2⟩ := evMapOf_tok hmo
            exact Agree.set (get_lt q2) (above_spec hg q1)
          · simp at h
        · simp at h
      · simp at h
    · simp at h
end Go.Proofs.YteeclengpnjlgaaGreat.Ev
