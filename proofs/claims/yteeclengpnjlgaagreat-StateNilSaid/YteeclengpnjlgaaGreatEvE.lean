import Derived.Test.YteeclengpnjlgaaGreatEvD
/- A closed run, reckoned: what looks at no memory gives what is reckoned. -/
namespace Go.Proofs.YteeclengpnjlgaaGreat.Ev
set_option linter.unusedVariables false
set_option linter.unusedSimpArgs false
open Go.RowKit
variable {P : Program}
theorem CapR.cap {pl : Pl} {t c c' : Nat} (h : CapR pl t c c') : c / 2 ≤ c' := by
  unfold CapR at h
  split at h
  · obtain ⟨d, _, h⟩ := h; omega
  · omega
theorem CapR.sub {pl : Pl} {t c c' l : Nat} (h : CapR pl t c c') (hl : l ≤ c / 2) : CapR pl t (c - 2 * l) (c' - l) := by
  unfold CapR at h ⊢
  split at h
  · obtain ⟨d, h1, h⟩ := h
    rw [if_pos (by omega)]
    exact ⟨d, h1, by omega⟩
  · rw [if_neg (by omega)]
    omega
theorem CapR.exact (pl : Pl) (t n : Nat) : CapR pl t (2 * n) n := by
  unfold CapR
  rw [if_neg (by omega)]
  omega
theorem boundN_some {v : Value} {n : Option Nat} (h : boundN (some v) = some n) : ∃ k i, v = .int k i ∧ 0 ≤ i ∧ n = some i.toNat := by
  cases v <;> simp [boundN] at h
  rename_i k i
  by_cases h0 : 0 ≤ i
  · simp [h0] at h
    exact ⟨k, i, rfl, h0, h.symm⟩
  · simp [h0] at h
theorem run_bound {k : IntKind} {i : Int} {y : Nat} (code : BoundsCode) (h0 : 0 ≤ i) (h1 : i.toNat ≤ y) (w : World) : (Instr.sliceBound (.int k i) y code).run P w = .ok i.toNat w := by
  have : i ≤ (y : Int) := by omega
  simp [Instr.sliceBound, asIntOf, h0, this]
theorem lo_cases {lo : Option Value} {l : Option Nat} (h : boundN lo = some l) : (lo = none ∧ l = none) ∨ ∃ k i, lo = some (.int k i) ∧ 0 ≤ i ∧ l = some i.toNat := by
  cases lo with
  | none => simp [boundN] at h; exact .inl ⟨rfl, h.symm⟩
  | some v =>
    obtain ⟨k, i, rfl, h0, rfl⟩ := boundN_some h
    exact .inr ⟨k, i, rfl, h0, rfl⟩
theorem bounds_ok {s : Bool} {pl : Pl} {tk : Nat} {len cap cap' : Nat} (hc : CapR pl tk cap cap') {lo hi mx : Option Value} {l h m : Option Nat} (hl : boundN lo = some l) (hh : boundN hi = some h) (hm : boundN mx = some m) {L H M : Nat} (hb : evBounds len cap l h m = some (L, H, M)) :
    ∃ M', (∀ w : World, (Instr.sliceBounds s len cap' lo hi mx).run P w = .ok (L, H, M') w) ∧ CapR pl tk (M - 2 * L) (M' - L) ∧ ((M = 2 * L ∧ M' = L) ∨ L = 0 ∨ (M ≠ 2 * L ∧ M' ≠ L)) ∧ M ≤ cap := by
  have hcc := hc.cap
  have hcs := fun l => @CapR.sub pl tk cap cap' l hc
  unfold evBounds at hb
  rcases lo_cases hm with ⟨rfl, rfl⟩ | ⟨mk, mi, rfl, m0, rfl⟩
  · simp only at hb
    cases hx : Nat.ble (h.getD len) (cap / 2) && Nat.ble (l.getD 0) (h.getD len) && (Nat.beq (cap % 2) 0 || Nat.beq (l.getD 0) 0 || Nat.blt (l.getD 0) (cap / 2)) with
    | false => rw [hx] at hb; simp at hb
    | true =>
      rw [hx] at hb
      simp only [cond_true, Option.some.injEq, Prod.mk.injEq] at hb
      obtain ⟨rfl, rfl, rfl⟩ := hb
      simp only [Bool.and_eq_true, Bool.or_eq_true] at hx
      obtain ⟨⟨h1, h2⟩, h4⟩ := hx
      have h1 := Nat.le_of_ble_eq_true h1
      have h2 := Nat.le_of_ble_eq_true h2
      refine ⟨cap', fun w => ?_, hcs _ (by omega), ?_, Nat.le_refl _⟩
      · unfold Instr.sliceBounds
        rcases lo_cases hh with ⟨rfl, rfl⟩ | ⟨hk, hj, rfl, h0, rfl⟩ <;> rcases lo_cases hl with ⟨rfl, rfl⟩ | ⟨lk, lj, rfl, l0, rfl⟩
        · rfl
        · simp only [Option.getD_some, Option.getD_none] at h1 h2 ⊢
          simp [run_bound _ l0 h2 w]
        · simp only [Option.getD_some, Option.getD_none] at h1 h2 ⊢
          simp [run_bound _ h0 (show hj.toNat ≤ cap' by omega) w]
        · simp only [Option.getD_some, Option.getD_none] at h1 h2 ⊢
          simp [run_bound _ h0 (show hj.toNat ≤ cap' by omega) w, run_bound _ l0 h2 w]
      · rcases h4 with (h4 | h4) | h4
        · have h4 := Nat.eq_of_beq_eq_true h4
          unfold CapR at hc
          rw [if_neg (by omega)] at hc
          by_cases e : cap = 2 * l.getD 0
          · exact .inl ⟨e, by omega⟩
          · exact .inr (.inr ⟨e, by omega⟩)
        · exact .inr (.inl (Nat.eq_of_beq_eq_true h4))
        · have h4 : l.getD 0 + 1 ≤ cap / 2 := Nat.le_of_ble_eq_true h4
          exact .inr (.inr ⟨by omega, by omega⟩)
  · rcases lo_cases hh with ⟨rfl, rfl⟩ | ⟨hk, hj, rfl, h0, rfl⟩
    · simp at hb
    · simp only at hb
      cases hx : Nat.ble mi.toNat (cap / 2) && Nat.ble hj.toNat mi.toNat && Nat.ble (l.getD 0) hj.toNat with
      | false => rw [hx] at hb; simp at hb
      | true =>
        rw [hx] at hb
        simp only [cond_true, Option.some.injEq, Prod.mk.injEq] at hb
        obtain ⟨rfl, rfl, rfl⟩ := hb
        simp only [Bool.and_eq_true] at hx
        obtain ⟨⟨h1, h2⟩, h3⟩ := hx
        have h1 := Nat.le_of_ble_eq_true h1
        have h2 := Nat.le_of_ble_eq_true h2
        have h3 := Nat.le_of_ble_eq_true h3
        refine ⟨mi.toNat, fun w => ?_, (CapR.exact pl tk mi.toNat).sub (by omega), ?_, by omega⟩
        · unfold Instr.sliceBounds
          rcases lo_cases hl with ⟨rfl, rfl⟩ | ⟨lk, lj, rfl, l0, rfl⟩
          · simp [run_bound _ m0 (show mi.toNat ≤ cap' by omega) w, run_bound _ h0 h2 w]
          · simp only [Option.getD_some, Option.getD_none] at h3 ⊢
            simp [run_bound _ m0 (show mi.toNat ≤ cap' by omega) w, run_bound _ h0 h2 w, run_bound _ l0 h3 w]
        · by_cases e : mi.toNat = l.getD 0
          · exact .inl ⟨by omega, e⟩
          · exact .inr (.inr ⟨by omega, e⟩)
theorem gives_slice {a : Act} {o : Oper} {t : TypeId} {x : Operand} {lo hi mx : Option Operand} (ho : o.op = .slice t x lo hi mx) {e : TypeId} (hu : P.underlying t = some (.slice e)) {i : TypeInfo} (hi' : P.info? e = some i) {A : Option Addr} {len cap : Nat} (hx : a.eval x = .slice A len cap) {L H M : Nat}
    (hb : ∀ w, (Instr.sliceBounds true len cap (lo.map a.eval) (hi.map a.eval) (mx.map a.eval)).run P w = .ok (L, H, M) w) : Gives P a o (.slice (if M = L then A else A.map (·.add (L * i.size))) (H - L) (M - L)) := fun w => by
  unfold execOp
  simp [ho, hx, Instr.sliceAt, Instr.slice, run_underlying hu, hb w, sizeOf, typeInfo, hi']
theorem gives_sliceP {a : Act} {o : Oper} {t : TypeId} {x : Operand} {lo hi mx : Option Operand} (ho : o.op = .slice t x lo hi mx) {e : TypeId} {n : Nat} (hu : P.underlying t = some (.array n e)) {i : TypeInfo} (hi' : P.info? e = some i) {A : Addr} (hx : a.eval x = .pointer (some A)) {L H M : Nat}
    (hb : ∀ w, (Instr.sliceBounds false n n (lo.map a.eval) (hi.map a.eval) (mx.map a.eval)).run P w = .ok (L, H, M) w) : Gives P a o (.slice (some (if M = L then A else A.add (L * i.size))) (H - L) (M - L)) := fun w => by
  unfold execOp
  simp [ho, hx, Instr.sliceAt, Instr.sureAddr, run_underlying hu, hb w, sizeOf, typeInfo, hi', asAddr]
theorem pick_AR {pl : Pl} {p p' : Addr} {M M' L s : Nat} (h : AR pl p p') (hd : (M = 2 * L ∧ M' = L) ∨ L = 0 ∨ (M ≠ 2 * L ∧ M' ≠ L)) : AR pl (bif Nat.beq M (2 * L) then p else p.add (L * s)) (if M' = L then p' else p'.add (L * s)) := by
  have hbq : Nat.beq M (2 * L) = decide (M = 2 * L) := by
    by_cases e : M = 2 * L
    · rw [e]; simp
    · cases hq : Nat.beq M (2 * L) with
      | false => simp [e]
      | true => exact absurd (Nat.eq_of_beq_eq_true hq) e
  rw [hbq]
  rcases hd with ⟨h1, h2⟩ | h1 | ⟨h1, h2⟩
  · rw [if_pos h2, decide_eq_true h1]
    exact h
  · subst h1
    have e1 : (if M' = 0 then p' else p'.add (0 * s)) = p' := by
      split
      · rfl
      · simp [Addr.add]
    have e2 : (bif decide (M = 2 * 0) then p else p.add (0 * s)) = p := by
      cases decide (M = 2 * 0)
      · simp [Addr.add]
      · rfl
    rw [e1, e2]
    exact h
  · rw [if_neg h2, decide_eq_false h1]
    exact h.add _
theorem pick_block {p : Addr} {b : Bool} {s : Nat} : (bif b then p else p.add s).block = p.block := by
  cases b
  · show (p.add s).block = _
    unfold Addr.add
    split <;> rfl
  · rfl
theorem isRow_eq {d : TypeDesc} {x y : Option Value} : (bif d.isRow then x else y) = (if d.isRow then x else y) := by
  cases d.isRow <;> rfl
theorem evIndex_ok {pl : Pl} {a : Act} {o : Oper} {t : TypeId} {x y : Operand} (ho : o.op = .indexAddr t x y) {u v : Value} {p : Addr} (hu : VT pl u (a.eval x)) (hv : VT pl v (a.eval y)) (h : evIndex P t u v = some p) : ∃ p', Gives P a o (.pointer (some p')) ∧ AR pl p p' := by
  unfold evIndex at h
  split at h
  · rename_i q len c k j
    obtain ⟨q', c', h1, _, h3⟩ := (hu : VP pl (.slice (some q) len c) (a.eval x))
    have h4 : a.eval y = .int k j := hv
    split at h
    · rename_i e he
      split at h
      · rename_i i hi
        by_cases h0 : 0 ≤ j
        · by_cases h5 : j < (len : Int)
          · simp [h0, h5] at h
            subst h
            exact ⟨_, gives_indexAddr ho h3 h4 he hi h0 h5, h1.add _⟩
          · simp [h0, h5] at h
        · simp [h0] at h
      · simp at h
    · simp at h
  · rename_i q k j
    obtain ⟨q', h1, h3⟩ := (hu : VP pl (.pointer (some q)) (a.eval x))
    have h4 : a.eval y = .int k j := hv
    split at h
    · rename_i len e he
      split at h
      · rename_i i hi
        by_cases h0 : 0 ≤ j
        · by_cases h5 : j < (len : Int)
          · simp [h0, h5] at h
            subst h
            exact ⟨_, gives_indexAddrA ho h3 h4 he hi h0 h5, h1.add _⟩
          · simp [h0, h5] at h
        · simp [h0] at h
      · simp at h
    · simp at h
  · simp at h
theorem bound_R {pl : Pl} {tm : T Value} {a : Act} (ht : Tm pl tm a) {lo : Option Operand} {l : Option Nat} (hs : (lo.isSome = true → (lo.bind (evO tm)).isSome = true)) (h : boundN (lo.bind (evO tm)) = some l) : boundN (lo.map a.eval) = some l := by
  cases lo with
  | none => exact h
  | some x =>
    simp only [Option.bind_some, Option.map_some] at h hs ⊢
    cases hx : evO tm x with
    | none => rw [hx] at hs; simp at hs
    | some v =>
      rw [hx] at h
      obtain ⟨k, i, rfl, h0, rfl⟩ := boundN_some h
      have : a.eval x = .int k i := evO_ok ht hx
      rw [this]
      exact h
theorem evList_some {tm : T Value} : ∀ {l : List Operand} {r : List Value}, evList tm l = some r → ∀ x ∈ l, (evO tm x).isSome = true
  | [], _, _, x, hx => by simp at hx
  | y :: l, r, h, x, hx => by
    unfold evList at h
    cases hy : evO tm y with
    | none => simp [hy] at h
    | some v =>
      cases hr : evList tm l with
      | none => simp [hy, hr] at h
      | some r' =>
        rcases List.mem_cons.1 hx with rfl | hx
        · rw [hy]; rfl
        · exact evList_some hr x hx
theorem evSlice_ok {pl : Pl} {tm : T Value} {a : Act} {o : Oper} {t : TypeId} {x : Operand} {lo hi mx : Option Operand} (ht : Tm pl tm a) (ho : o.op = .slice t x lo hi mx) {u v : Value} (hu : VT pl u (a.eval x)) {r : List Value} (hs : evList tm (lo.toList ++ hi.toList ++ mx.toList) = some r)
    (h : evSlice P t u (lo.bind (evO tm)) (hi.bind (evO tm)) (mx.bind (evO tm)) = some v) : ∃ v', Gives P a o v' ∧ VT pl v v' := by
  have hs' := evList_some hs
  unfold evSlice at h
  split at h
  · rename_i e A len cap l hh m he hl hhi hm
    split at h
    · rename_i L H M i hb hi'
      cases hx : A.isSome || Nat.beq cap 0 with
      | false => rw [hx] at h; simp at h
      | true =>
        rw [hx] at h
        simp only [cond_true, Option.some.injEq] at h
        subst h
        have hl' := bound_R ht (lo := lo) (fun hq => by cases lo with | none => simp at hq | some z => exact hs' z (by simp)) hl
        have hh' := bound_R ht (lo := hi) (fun hq => by cases hi with | none => simp at hq | some z => exact hs' z (by simp)) hhi
        have hm' := bound_R ht (lo := mx) (fun hq => by cases mx with | none => simp at hq | some z => exact hs' z (by simp)) hm
        have key : ∀ (A' : Option Addr) (cap' : Nat), ∀ tk, a.eval x = .slice A' len cap' → CapR pl tk cap cap' → (∀ p, A = some p → p.block = tk ∧ ∃ p', A' = some p' ∧ AR pl p p') → (A = none → A' = none) → ∃ v', Gives P a o v' ∧ VT pl (.slice (bif Nat.beq M (2 * L) then A else A.map (·.add (L * i.size))) (H - L) (M - 2 * L)) v' := by
          intro A' cap' tk hev hc hA hn
          obtain ⟨M', hrun, hcm, hd, hle⟩ := bounds_ok (P := P) hc hl' hh' hm' hb
          refine ⟨_, gives_slice ho he hi' hev (L := L) (H := H) (M := M') hrun, ?_⟩
          have hbq : Nat.beq M (2 * L) = decide (M = 2 * L) := by
            by_cases e : M = 2 * L
            · rw [e]; simp
            · cases hq : Nat.beq M (2 * L) with
              | false => simp [e]
              | true => exact absurd (Nat.eq_of_beq_eq_true hq) e
          rw [hbq]
          cases A with
          | none =>
            rw [hn rfl]
            have hcap : cap = 0 := by simpa using hx
            have hM : M - 2 * L = 0 ∧ M' - L = 0 := by
              have e1 : M - 2 * L = 0 := by omega
              rw [e1] at hcm
              unfold CapR at hcm
              rw [if_neg (by omega)] at hcm
              exact ⟨e1, by omega⟩
            rw [hM.1, hM.2]
            have : (if M' = L then none else Option.map (fun q : Addr => q.add (L * i.size)) none) = (none : Option Addr) := by split <;> rfl
            rw [this]
            have : (bif decide (M = 2 * L) then none else Option.map (fun q : Addr => q.add (L * i.size)) none) = (none : Option Addr) := by cases decide (M = 2 * L) <;> rfl
            rw [this]
            exact rfl
          | some p =>
            obtain ⟨htk, p', rfl, hp⟩ := hA p rfl
            subst htk
            rcases hd with ⟨h1, h2⟩ | h1 | ⟨h1, h2⟩
            · rw [if_pos h2, decide_eq_true h1]
              exact ⟨p', _, hp, hcm, rfl⟩
            · subst h1
              have e1 : (if M' = 0 then some p' else Option.map (fun q : Addr => q.add (0 * i.size)) (some p')) = some p' := by
                split
                · rfl
                · simp [Addr.add]
              have e2 : (bif decide (M = 2 * 0) then some p else Option.map (fun q : Addr => q.add (0 * i.size)) (some p)) = some p := by
                cases decide (M = 2 * 0)
                · simp [Addr.add]
                · rfl
              rw [e1, e2]
              exact ⟨p', _, hp, hcm, rfl⟩
            · rw [if_neg h2, decide_eq_false h1]
              exact ⟨_, _, hp.add _, by rw [show (p.add (L * i.size)).block = p.block by unfold Addr.add; split <;> rfl]; exact hcm, rfl⟩
        cases A with
        | none =>
          have e1 : a.eval x = .slice none len cap := hu
          have e2 : cap = 0 := Nat.eq_of_beq_eq_true (by simpa using hx)
          subst e2
          exact key none 0 0 e1 (CapR.exact pl 0 0) (fun p hp => by simp at hp) (fun _ => rfl)
        | some p =>
          obtain ⟨p', c', h1, h2, h3⟩ := (hu : VP pl (.slice (some p) len cap) (a.eval x))
          exact key (some p') c' p.block h3 h2 (fun q hq => by injection hq with hq; subst hq; exact ⟨rfl, p', rfl, h1⟩) (fun hq => by simp at hq)
    · simp at h
  · rename_i n e p l hh m he hl hhi hm
    split at h
    · rename_i L H M i hb hi'
      injection h with h
      subst h
      have hl' := bound_R ht (lo := lo) (fun hq => by cases lo with | none => simp at hq | some z => exact hs' z (by simp)) hl
      have hh' := bound_R ht (lo := hi) (fun hq => by cases hi with | none => simp at hq | some z => exact hs' z (by simp)) hhi
      have hm' := bound_R ht (lo := mx) (fun hq => by cases mx with | none => simp at hq | some z => exact hs' z (by simp)) hm
      obtain ⟨p', hp, hev⟩ := (hu : VP pl (.pointer (some p)) (a.eval x))
      obtain ⟨M', hrun, hcm, hd, hle⟩ := bounds_ok (P := P) (s := false) (CapR.exact pl p.block n) hl' hh' hm' hb
      refine ⟨_, gives_sliceP ho he hi' hev (L := L) (H := H) (M := M') hrun, _, _, pick_AR hp hd, ?_, rfl⟩
      rw [pick_block]
      exact hcm
    · simp at h
  · simp at h
theorem pair_VT {pl : Pl} {cs : Array Value} {cs' : Array Value} {off n : Nat} (h : Pw (VC pl) cs.toList cs'.toList) (hn : off + n ≤ cs.size) : VT pl (.agg (cs.extract off (off + n))) (.agg (cs'.extract off (off + n))) := by
  refine ⟨_, rfl, ?_⟩
  rw [Array.toList_extract, Array.toList_extract]
  exact (h.drop off).take _
theorem evPure_ok {pl : Pl} {tm : T Value} {a : Act} {o : Oper} {v : Value} (ht : Tm pl tm a) (h : evPure P tm o = some v) : ∃ v', Gives P a o v' ∧ VT pl v v' := by
  unfold evPure at h
  cases ho : o.op <;> simp only [ho] at h <;> try (simp at h; done)
  case move x => exact ⟨_, gives_move ho, evO_ok ht h⟩
  case assign x => exact ⟨_, gives_assign ho, evO_ok ht h⟩
  case pick c x y =>
    split at h
    · rename_i hc
      have hc' : a.eval c = .bool true := VT_plain (pl := pl) rfl (evO_ok ht hc)
      exact ⟨_, gives_pick ho hc', by simpa using evO_ok ht h⟩
    · rename_i hc
      have hc' : a.eval c = .bool false := VT_plain (pl := pl) rfl (evO_ok ht hc)
      exact ⟨_, gives_pick ho hc', by simpa using evO_ok ht h⟩
    · simp at h
  case build t parts =>
    cases hz : zeroOk P t with
    | false => simp [hz] at h
    | true =>
      simp only [hz, cond_true] at h
      split at h
      · rename_i l hl
        cases hb : P.built t l with
        | none => simp [hb] at h
        | some c =>
          simp [hb] at h
          subst h
          obtain ⟨c', h1, h2⟩ := built_R hz (evParts_ok ht hl) hb
          exact ⟨_, gives_build ho h1, c', rfl, h2⟩
      · simp at h
  case nilCheck x =>
    split at h
    · rename_i p hx
      injection h with h
      subst h
      obtain ⟨p', h1, h2⟩ := (evO_ok ht hx : VP pl (.pointer (some p)) (a.eval x))
      exact ⟨_, gives_nilCheck ho h2, p', h1, rfl⟩
    · simp at h
  case binOp op t x y ty =>
    split at h
    · rename_i u u2 hx hy
      obtain ⟨h1, hp⟩ := onlyPlain_some h
      exact ⟨v, gives_binOp ho (evBin_ok (evO_ok ht hx) (evO_ok ht hy) h1 hp), plain_VT hp⟩
    · simp at h
  case unOp op t x =>
    split at h
    · rename_i u hx
      cases hp : plain u with
      | false => simp [hp] at h
      | true =>
        simp only [hp, cond_true] at h
        obtain ⟨h1, hp2⟩ := onlyPlain_some h
        have he : a.eval x = u := VT_plain hp (evO_ok ht hx)
        exact ⟨v, gives_unOp ho (fun w => by rw [he]; exact qUn_run w h1), plain_VT hp2⟩
    · simp at h
  case convert s d x =>
    split at h
    · rename_i u hx
      cases hp : plain u with
      | false => simp [hp] at h
      | true =>
        simp only [hp, cond_true] at h
        obtain ⟨h1, hp2⟩ := onlyPlain_some h
        have he : a.eval x = u := VT_plain hp (evO_ok ht hx)
        exact ⟨v, gives_convert ho (fun w => by rw [he]; exact qConv_run w h1), plain_VT hp2⟩
    · simp at h
  case makeFunc fn first cap =>
    cases fn <;> simp only at h <;> try (simp at h; done)
    rename_i f
    cases hf : first.isEmpty with
    | false => simp [hf] at h
    | true =>
      simp only [hf, cond_true] at h
      split at h
      · rename_i l hl
        cases ho1 : l.all oneP with
        | false => simp [ho1] at h
        | true =>
          simp only [ho1, cond_true, Option.some.injEq] at h
          subst h
          have hfe : first = #[] := by simpa using hf
          subst hfe
          refine ⟨_, gives_makeFunc ho, f, cap.map a.eval, rfl, rfl, rfl, ?_⟩
          have := Pw_oneP ho1 (evList_ok ht hl)
          simpa using this
      · simp at h
  case fieldAddr s x f =>
    split at h
    · rename_i p t off hx hf
      injection h with h
      subst h
      obtain ⟨p', h1, h2⟩ := (evO_ok ht hx : VP pl (.pointer (some p)) (a.eval x))
      exact ⟨_, gives_fieldAddr ho hf h2, _, h1.add off, rfl⟩
    · simp at h
  case field s x f =>
    split at h
    · rename_i cs t off hx hf
      split at h
      · rename_i d i hd hi
        obtain ⟨cs', h1, h2⟩ := (evO_ok ht hx : VA pl (.agg cs) (a.eval x))
        cases hr : d.isRow with
        | true =>
          rw [hr] at h
          simp only [cond_true] at h
          cases hb : Nat.ble (off + i.size) cs.size with
          | false => simp [hb] at h
          | true =>
            simp only [hb, cond_true, Option.some.injEq] at h
            subst h
            exact ⟨_, gives_field ho hf h1 hd hi (by rw [hr]; rfl), pair_VT h2 (Nat.le_of_ble_eq_true hb)⟩
        | false =>
          rw [hr] at h
          simp only [cond_false] at h
          have h' : cs.toList[off]? = some v := by simpa using h
          obtain ⟨v', h3, h4⟩ := h2.get h'
          exact ⟨v', gives_field ho hf h1 hd hi (by rw [hr]; simpa using h3), VA_VT (VC_VA h4)⟩
      · simp at h
    · simp at h
  case indexAddr t x i =>
    split at h
    · rename_i u u2 hx hy
      cases hi : evIndex P t u u2 with
      | none => simp [hi] at h
      | some p =>
        simp [hi] at h
        subst h
        obtain ⟨p', h1, h2⟩ := evIndex_ok ho (evO_ok ht hx) (evO_ok ht hy) hi
        exact ⟨_, h1, p', h2, rfl⟩
    · simp at h
  case slice t x lo hi mx =>
    split at h
    · rename_i u r hx hl
      exact evSlice_ok ht ho (evO_ok ht hx) hl h
    · simp at h
  case extract x i =>
    split at h
    · rename_i vs hx
      obtain ⟨vs', h1, h2⟩ := (evO_ok ht hx : VT pl (.tuple vs) (a.eval x))
      have h' : vs.toList[i]? = some v := by simpa using h
      obtain ⟨v', h3, h4⟩ := h2.get h'
      exact ⟨v', gives_extract ho h1 (by simpa using h3), VA_VT h4⟩
    · simp at h
  case call c =>
    split at h
    · rename_i x t hc ha hty
      split at h
      · rename_i u hx
        have hv := evO_ok ht hx
        unfold evLen at h
        split at h
        · rename_i A n cc
          split at h
          · rename_i e he
            injection h with h
            subst h
            have hs : ∃ A' c', a.eval x = .slice A' n c' := by
              cases A with
              | none => exact ⟨_, _, hv⟩
              | some p => obtain ⟨p', c', _, _, h3⟩ := hv; exact ⟨_, _, h3⟩
            obtain ⟨A', c', hs⟩ := hs
            exact ⟨_, gives_len ho hc ha hty (fun w => by rw [hs]; simp [Builtin.len_, run_underlying he, goInt]), rfl⟩
          · simp at h
        · rename_i s
          split at h
          · rename_i he
            injection h with h
            subst h
            have hs : a.eval x = .string s := hv
            exact ⟨_, gives_len ho hc ha hty (fun w => by rw [hs]; simp [Builtin.len_, run_underlying he, goInt]), rfl⟩
          · simp at h
        · simp at h
      · simp at h
    · rename_i x y hc ha
      split at h
      · rename_i k u k' v hx hy
        injection h with h
        subst h
        have hu : a.eval x = .int k u := evO_ok ht hx
        have hv : a.eval y = .int k' v := evO_ok ht hy
        exact ⟨_, gives_max ho hc ha hu hv, rfl⟩
      · simp at h
    · rename_i x y hc ha
      split at h
      · rename_i k u k' v hx hy
        injection h with h
        subst h
        have hu : a.eval x = .int k u := evO_ok ht hx
        have hv : a.eval y = .int k' v := evO_ok ht hy
        exact ⟨_, gives_min ho hc ha hu hv, rfl⟩
      · simp at h
    · simp at h
end Go.Proofs.YteeclengpnjlgaaGreat.Ev
