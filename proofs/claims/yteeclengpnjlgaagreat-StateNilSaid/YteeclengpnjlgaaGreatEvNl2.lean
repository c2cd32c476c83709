import Derived.Test.YteeclengpnjlgaaGreatEvW1
import Derived.WalkKit
import Derived.TacticsInMore
/- StateNil: its body. -/
namespace Go.Proofs.YteeclengpnjlgaaGreat.Ev
set_option linter.unusedVariables false
set_option linter.unusedSimpArgs false
open Go.RowKit Go.Shelf
set_option maxRecDepth 100000 in
theorem isFew_calls (k o p s f t : Int) (A1 A2 A3 : Option Addr) (n1 n2 n3 c1 c2 c3 : Nat) (q : Int) (w : World) : Calls Tryz.prog 42 #[.agg #[.int .u8 k, .int .u32 o, .int .u8 p, .slice A1 n1 c1, .slice A2 n2 c2, .slice A3 n3 c3, .int .u8 s, .int .u8 f, .int .u8 t, .int .i64 q]] w fun e w' => (e = .returned (.bool false) ∨ e = .returned (.bool true)) ∧ Below w.heap.size w w' := by
  go_enter Tryz.func42, Tryz.ntmps42
  go_wp2_with (first | fail)
  all_goals (go_ret; first | exact ⟨.inl rfl, (Below.refl _ w).alloc (Nat.le_refl _) _⟩ | exact ⟨.inr rfl, (Below.refl _ w).alloc (Nat.le_refl _) _⟩ | (refine ⟨?_, (Below.refl _ w).alloc (Nat.le_refl _) _⟩; show Ending.returned (.bool (decide ((n3 : Int) ≤ 20))) = _ ∨ Ending.returned (.bool (decide ((n3 : Int) ≤ 20))) = _; cases decide ((n3 : Int) ≤ 20) <;> simp))
set_option maxRecDepth 100000 in
theorem few_calls (k o p s f t : Int) (A1 A2 A3 : Option Addr) (n1 n2 n3 c1 c2 c3 : Nat) (q : Int) (w : World) : Calls Tryz.prog 15 #[.agg #[.int .u8 k, .int .u32 o, .int .u8 p, .slice A1 n1 c1, .slice A2 n2 c2, .slice A3 n3 c3, .int .u8 s, .int .u8 f, .int .u8 t, .int .i64 q]] w fun e w' => (∃ b, (b = 0 ∨ b = 1) ∧ e = .returned (.int .i64 b)) ∧ Below w.heap.size w w' := by
  go_enter Tryz.func15, Tryz.ntmps15
  go_wp2_with (first | fail)
  refine (isFew_calls k o p s f t A1 A2 A3 n1 n2 n3 c1 c2 c3 q _).mono ?_
  rintro e w' ⟨rfl | rfl, hb⟩
  · go_wp2_with (first | fail)
    go_ret
    exact ⟨⟨0, .inl rfl, rfl⟩, ((Below.refl _ w).alloc (Nat.le_refl _) _).trans (hb.mono (by simp))⟩
  · go_wp2_with (first | fail)
    go_ret
    exact ⟨⟨1, .inr rfl, rfl⟩, ((Below.refl _ w).alloc (Nat.le_refl _) _).trans (hb.mono (by simp))⟩
/-- Operations one behind another, some more behind them. -/
theorem evPre_ok {P : Program} {K : Kn} (hK : KOk P K) {w0 : Base} {lo : Pr} {nt : Nat} {ops : Array Oper} {Q : Exit → Act → World → Prop} (l2 : List Oper) : ∀ (l : List Oper) {pl : Pl} {st st' : St} {a : Act} {w : World}, At P w0 pl nt st a w → lo.1 ≤ st.n → evSeq P K lo nt ops l st = some st' →
    (∀ (q : Pl) (a' : Act) (w' : World), At P w0 (pl ++ q) nt st' a' w' → wpList P ops Q l2 a' w') → wpList P ops Q (l ++ l2) a w
  | [], pl, st, st', a, w, hat, _, h, hQ => by
    simp [evSeq] at h
    subst h
    exact hQ [] a w (by rw [List.append_nil]; exact hat)
  | o :: l, pl, st, st', a, w, hat, hlo, h, hQ => by
    unfold evSeq at h
    split at h
    · rename_i st1 h1
      have := step_ok (Q := Q) hK hat hlo h1 (wpList P ops Q (l ++ l2)) (fun q a' w' hat' hag _ => evPre_ok hK l2 l hat' (Nat.le_trans hlo (hat.mono_n hat')) h (fun q2 a2 w2 hat2 => hQ (q ++ q2) a2 w2 (app_assoc hat2)))
      rw [List.cons_append]
      unfold wpList
      split
      · rename_i hw
        rw [if_pos hw] at this
        exact .inl this
      · rename_i hw
        rw [if_neg hw] at this
        exact this
    · cases h
/-- What is known, works() too. -/
def known1 : Kn := fun lo g args n H => bif Nat.beq g 16 then (match args with | [] => some (.bool true, n, H) | _ => none) else known lo g args n H
theorem known1_ok : KOk Tryz.prog known1 := by
  intro lo g args n H v n' H' h w0 pl args' w hn hlo hs hp
  unfold known1 at h
  cases hg : Nat.beq g 16 with
  | true =>
    have hg' := Nat.eq_of_beq_eq_true hg
    subst hg'
    rw [hg, cond_true] at h
    split at h
    · injection h with h
      injection h with e1 h
      injection h with e2 e3
      subst e1 e2 e3
      have ha : args' = #[] := by
        cases hl : args'.toList with
        | nil => exact Array.toList_inj.1 hl
        | cons _ _ => rw [hl] at hp; exact hp.elim
      rw [ha]
      refine (works_calls w).mono ?_
      rintro e w' ⟨rfl, hb⟩
      refine ⟨[], .bool true, rfl, rfl, ?_, by simpa using hn, Agree.refl _ _⟩
      rw [List.append_nil]
      exact hs.below_ hb
    · cases h
  | false =>
    rw [hg, cond_false] at h
    exact known_ok lo g args n H v n' H' h w0 pl args' w hn hlo hs hp
noncomputable def K1 : Kn := evFn Tryz.prog known1 (planOf []) 20
theorem K1_ok : KOk Tryz.prog K1 := evFn_ok known1_ok (by kernel_rfl) (planOf []) (plans_ok (by simp)) 20
/-! The body, in parts. -/
def cl : Code → Code
  | .seq a _ => a
  | c => c
def cr : Code → Code
  | .seq _ b => b
  | c => c
def opsOf : Code → Array Oper
  | .region _ ops _ => ops
  | _ => #[]
noncomputable def c5 : Code := Tryz.f5.body.getD .skip
noncomputable def ops0 : Array Oper := opsOf (cl c5)
noncomputable def ops1 : Array Oper := opsOf (cl (cl (cr c5)))
noncomputable def c5c : Code := cr (cl (cr c5))
noncomputable def c5r : Code := cr (cr c5)
set_option maxRecDepth 100000 in
theorem c5_eq : Tryz.f5.body = some (.seq (.region 0 ops0 false) (.seq (.seq (.region 1 ops1 false) c5c) c5r)) := by kernel_rfl
noncomputable def o2 : Oper := ops1.toList.getD 2 default
noncomputable def o3 : Oper := ops1.toList.getD 3 default
set_option maxRecDepth 100000 in
theorem ops1_eq : ops1.toList = ops1.toList.take 2 ++ (o2 :: o3 :: []) := by kernel_rfl
def sv (t : Nat) (A : Option Addr) (n c : Nat) : Value := match A with
  | none => .slice none n c
  | some a => .slice (some ⟨t, a.off, a.spot⟩) n (2 * c)
def bk : Option Addr → Nat
  | some a => a.block
  | none => 0
theorem sv_VC {pl : Pl} {t n c : Nat} {A : Option Addr} (h : pl[t]? = some (bk A, 0)) : VC pl (sv t A n c) (.slice A n c) := by
  cases A with
  | none => exact rfl
  | some a => exact ⟨a, c, ⟨pb_of h, rfl, rfl⟩, CapR.exact pl t c, rfl⟩
theorem sv_inv {pl : Pl} {t n c : Nat} {A : Option Addr} {x : Value} (h : VC pl (sv t A n c) x) : ∃ A' c', x = .slice A' n c' := by
  cases A with
  | none => exact ⟨_, _, h⟩
  | some a => obtain ⟨a', c', _, _, h3⟩ := h; exact ⟨_, _, h3⟩
section
variable (r0 r1 r2 r3 : Int) (r4 : Bool) (k0 k1 k2 r6 r7 k o p : Int) (V1 V2 V3 : Value) (s f t q : Int) (y0 y1 y2 : Int)
def recA : Value := .agg #[.int .u8 r0, .int .u32 r1, .int .u32 r2, .int .u8 r3, .bool r4, .int .u8 k0, .int .u8 k1, .int .u8 k2, .int .i64 r6, .int .u8 r7, .int .u8 k, .int .u32 o, .int .u8 p, V1, V2, V3, .int .u8 s, .int .u8 f, .int .u8 t, .int .i64 q]
def keyA : Value := .agg #[.int .u8 y0, .int .u8 y1, .int .u8 y2]
def stA : St := ⟨3, .nil, iniT [recA r0 r1 r2 r3 r4 k0 k1 k2 r6 r7 k o p V1 V2 V3 s f t q, keyA y0 y1 y2] 0 .nil⟩
noncomputable def stB : St := (evSeq Tryz.prog K1 (0, []) 86 ops0 ops0.toList (stA r0 r1 r2 r3 r4 k0 k1 k2 r6 r7 k o p V1 V2 V3 s f t q y0 y1 y2)).getD ⟨0, .nil, .nil⟩
set_option maxRecDepth 100000 in
theorem stB_eq : evSeq Tryz.prog K1 (0, []) 86 ops0 ops0.toList (stA r0 r1 r2 r3 r4 k0 k1 k2 r6 r7 k o p V1 V2 V3 s f t q y0 y1 y2) = some (stB r0 r1 r2 r3 r4 k0 k1 k2 r6 r7 k o p V1 V2 V3 s f t q y0 y1 y2) := by kernel_rfl
noncomputable def stC : St := (evSeq Tryz.prog K1 (0, []) 86 ops1 (ops1.toList.take 2) (stB r0 r1 r2 r3 r4 k0 k1 k2 r6 r7 k o p V1 V2 V3 s f t q y0 y1 y2)).getD ⟨0, .nil, .nil⟩
set_option maxRecDepth 100000 in
theorem stC_eq : evSeq Tryz.prog K1 (0, []) 86 ops1 (ops1.toList.take 2) (stB r0 r1 r2 r3 r4 k0 k1 k2 r6 r7 k o p V1 V2 V3 s f t q y0 y1 y2) = some (stC r0 r1 r2 r3 r4 k0 k1 k2 r6 r7 k o p V1 V2 V3 s f t q y0 y1 y2) := by kernel_rfl
set_option maxRecDepth 100000 in
theorem call_eq : evEff Tryz.prog (stC r0 r1 r2 r3 r4 k0 k1 k2 r6 r7 k o p V1 V2 V3 s f t q y0 y1 y2).n (stC r0 r1 r2 r3 r4 k0 k1 k2 r6 r7 k o p V1 V2 V3 s f t q y0 y1 y2).H (stC r0 r1 r2 r3 r4 k0 k1 k2 r6 r7 k o p V1 V2 V3 s f t q y0 y1 y2).tm o2 = some (.call 15 [.agg #[.int .u8 k, .int .u32 o, .int .u8 p, V1, V2, V3, .int .u8 s, .int .u8 f, .int .u8 t, .int .i64 q]]) := by kernel_rfl
/-- Behind the call: b is what it gave. -/
noncomputable def stD (b : Int) : St := ⟨(stC r0 r1 r2 r3 r4 k0 k1 k2 r6 r7 k o p V1 V2 V3 s f t q y0 y1 y2).n, (stC r0 r1 r2 r3 r4 k0 k1 k2 r6 r7 k o p V1 V2 V3 s f t q y0 y1 y2).H, T.set TD (stC r0 r1 r2 r3 r4 k0 k1 k2 r6 r7 k o p V1 V2 V3 s f t q y0 y1 y2).tm 15 (.int .i64 b)⟩
noncomputable def stE (b : Int) : St := (evSeq Tryz.prog K1 (0, []) 86 ops1 [o3] (stD r0 r1 r2 r3 r4 k0 k1 k2 r6 r7 k o p V1 V2 V3 s f t q y0 y1 y2 b)).getD ⟨0, .nil, .nil⟩
set_option maxRecDepth 100000 in
theorem stE_eq (b : Int) : evSeq Tryz.prog K1 (0, []) 86 ops1 [o3] (stD r0 r1 r2 r3 r4 k0 k1 k2 r6 r7 k o p V1 V2 V3 s f t q y0 y1 y2 b) = some (stE r0 r1 r2 r3 r4 k0 k1 k2 r6 r7 k o p V1 V2 V3 s f t q y0 y1 y2 b) := by kernel_rfl
noncomputable def fin (b : Int) : Bool := match evCode Tryz.prog K1 (fun _ => none) (0, []) 86 4000 false (.seq c5c c5r) (stE r0 r1 r2 r3 r4 k0 k1 k2 r6 r7 k o p V1 V2 V3 s f t q y0 y1 y2 b) with
  | some (.rt, st) => (match evRes Tryz.prog st.H st.tm Tryz.f5.results.toList with
    | some [.bool true] => true
    | _ => false)
  | _ => false
set_option maxRecDepth 100000 in
theorem fin_0 : fin r0 r1 r2 r3 r4 k0 k1 k2 r6 r7 k o p V1 V2 V3 s f t q y0 y1 y2 0 = true := by kernel_rfl
set_option maxRecDepth 100000 in
theorem fin_1 : fin r0 r1 r2 r3 r4 k0 k1 k2 r6 r7 k o p V1 V2 V3 s f t q y0 y1 y2 1 = true := by kernel_rfl
end
theorem Pw_cons_inv {R : Value → Value → Prop} {a : Value} {l m : List Value} (h : Pw R (a :: l) m) : ∃ b m', m = b :: m' ∧ R a b ∧ Pw R l m' := by
  match m, h with
  | b :: m', h => exact ⟨b, m', rfl, h.1, h.2⟩
  | [], h => exact h.elim
theorem Pw_nil_inv {R : Value → Value → Prop} {m : List Value} (h : Pw R [] m) : m = [] := by
  match m, h with
  | [], _ => rfl
  | _ :: _, h => exact h.elim
theorem At.after {P : Program} {w0 : Base} {pl : Pl} {nt : Nat} {C : St} {a : Act} {w w3 : World} {d : Tmp} (hat : At P w0 pl nt C a w) (h1 : d < nt) (h2 : d < 2 ^ TD) (hb : Below w.heap.size w w3) (b : Int) : At P w0 pl nt ⟨C.n, C.H, T.set TD C.tm d (.int .i64 b)⟩ (a.put (some d) (.int .i64 b)) w3 := by
  refine ⟨hat.tm.put h2 (by rw [hat.sz]; exact h1) rfl, hat.sim.below_ hb, hat.len, ?_⟩
  show (a.tmps.setIfInBounds d _).size = nt
  rw [Array.size_setIfInBounds, hat.sz]
/-- Two parts, the first one's end told apart. -/
theorem evTwo_ok {P : Program} {K : Kn} (hK : KOk P K) (hm : P.follows .mixedOrders = true) {w0 : Base} {plan : Plan} {lo : Pr} {nt f : Nat} {x y : Code} (hk : codeOk plan (.seq x y) = true) {pl : Pl} {st : St} {ex : Ex} {st' : St} {a : Act} {w : World} (hat : At P w0 pl nt st a w) (hlo : lo.1 ≤ st.n) (h : evCode P K plan lo nt (f + 1) false (.seq x y) st = some (ex, st'))
    {Q : Exit → Act → World → Prop} (hQ : ∀ e a w, Post P w0 pl lo nt st ex st' e a w → Q e a w) : x.wp P (Exit.then (y.wp P Q) Q) a w := by
  have hk : (codeOk plan x && codeOk plan y) = true := hk
  rw [Bool.and_eq_true] at hk
  simp only [evCode] at h
  split at h
  · rename_i st1 h1
    have ih := evCode_ok hK hm f false x hk.1 hat hlo h1
    rw [if_neg (by simp)] at ih
    refine wp_mono ih (fun e a1 w1 hp => ?_)
    obtain ⟨he, q, hq, hag⟩ := hp
    subst he
    have ih2 := evCode_ok hK hm f false y hk.2 hq (Nat.le_trans hlo (hat.mono_n hq)) h
    rw [if_neg (by simp)] at ih2
    exact wp_mono ih2 (fun e a w he => hQ _ _ _ (Post.trans hag he))
  · rename_i hne
    have ih := evCode_ok hK hm f false x hk.1 hat hlo h
    rw [if_neg (by simp)] at ih
    refine wp_mono ih (fun e a1 w1 hp => ?_)
    cases e with
    | normal =>
      have := not_nrm hp
      subst this
      exact absurd h (hne _)
    | _ => exact hQ _ _ _ hp
theorem c5c_ok : codeOk (fun _ => none) (.seq c5c c5r) = true := codeOk_none _
theorem nil_law (r0 r1 r2 r3 : Int) (r4 : Bool) (k0 k1 k2 r6 r7 k o p : Int) (A1 A2 A3 : Option Addr) (n1 n2 n3 e1 e2 e3 : Nat) (s f t q : Int) (y0 y1 y2 : Int) (w : World) :
    Calls Tryz.prog 5 #[.agg #[.int .u8 r0, .int .u32 r1, .int .u32 r2, .int .u8 r3, .bool r4, .int .u8 k0, .int .u8 k1, .int .u8 k2, .int .i64 r6, .int .u8 r7, .int .u8 k, .int .u32 o, .int .u8 p, .slice A1 n1 e1, .slice A2 n2 e2, .slice A3 n3 e3, .int .u8 s, .int .u8 f, .int .u8 t, .int .i64 q], .agg #[.int .u8 y0, .int .u8 y1, .int .u8 y2]] w fun e w' => e = .returned (.bool true) ∧ Below w.heap.size w w' := by
  obtain ⟨V1, hV1⟩ : ∃ V, sv 0 A1 n1 e1 = V := ⟨_, rfl⟩
  obtain ⟨V2, hV2⟩ : ∃ V, sv 1 A2 n2 e2 = V := ⟨_, rfl⟩
  obtain ⟨V3, hV3⟩ : ∃ V, sv 2 A3 n3 e3 = V := ⟨_, rfl⟩
  obtain ⟨pl0, hpl⟩ : ∃ pl : Pl, [(bk A1, 0), (bk A2, 0), (bk A3, 0)] = pl := ⟨_, rfl⟩
  have v1 : VC pl0 V1 (.slice A1 n1 e1) := by rw [← hV1, ← hpl]; exact sv_VC rfl
  have v2 : VC pl0 V2 (.slice A2 n2 e2) := by rw [← hV2, ← hpl]; exact sv_VC rfl
  have v3 : VC pl0 V3 (.slice A3 n3 e3) := by rw [← hV3, ← hpl]; exact sv_VC rfl
  have hl0 : pl0.length = 3 := by rw [← hpl]; rfl
  obtain ⟨args', hargs⟩ : ∃ az : Array Value, #[Value.agg #[.int .u8 r0, .int .u32 r1, .int .u32 r2, .int .u8 r3, .bool r4, .int .u8 k0, .int .u8 k1, .int .u8 k2, .int .i64 r6, .int .u8 r7, .int .u8 k, .int .u32 o, .int .u8 p, .slice A1 n1 e1, .slice A2 n2 e2, .slice A3 n3 e3, .int .u8 s, .int .u8 f, .int .u8 t, .int .i64 q], .agg #[.int .u8 y0, .int .u8 y1, .int .u8 y2]] = az := ⟨_, rfl⟩
  have hp : Pw (VT pl0) [recA r0 r1 r2 r3 r4 k0 k1 k2 r6 r7 k o p V1 V2 V3 s f t q, keyA y0 y1 y2] args'.toList := by
    rw [← hargs]
    refine ⟨⟨_, rfl, rfl, rfl, rfl, rfl, rfl, rfl, rfl, rfl, rfl, rfl, rfl, rfl, rfl, v1, v2, v3, rfl, rfl, rfl, rfl, trivial⟩, ⟨_, rfl, rfl, rfl, rfl, trivial⟩, trivial⟩
  rw [hargs]
  have hs0 : Sim Tryz.prog (Base.of w) pl0 .nil w := ⟨Stay.refl _, (fun t o h => by rw [get_nil] at h; cases h), (fun s t o o' b h => by rw [get_nil] at h; cases h)⟩
  have hsz : Tryz.f5.ntmps = 86 := by kernel_rfl
  obtain ⟨hT, hz⟩ := iniT_ok (nt := 86) hp (by simp) (by decide)
  have hat : At Tryz.prog (Base.of w) pl0 86 (stA r0 r1 r2 r3 r4 k0 k1 k2 r6 r7 k o p V1 V2 V3 s f t q y0 y1 y2) { tmps := args' ++ Array.replicate (86 - args'.size) undef, defers := [] } w := ⟨hT, hs0, hl0, hz⟩
  refine calls_of_wp Tryz.func5 c5_eq ?_
  rw [hsz]
  refine wp_seq (wp_region_list (evSeq_ok K1_ok ops0.toList hat (Nat.zero_le _) (stB_eq r0 r1 r2 r3 r4 k0 k1 k2 r6 r7 k o p V1 V2 V3 s f t q y0 y1 y2) (fun q1 a1 w1 hat1 _ => ?_)))
  refine wp_seq (wp_seq (wp_region_list ?_))
  rw [ops1_eq]
  refine evPre_ok K1_ok _ _ hat1 (Nat.zero_le _) (stC_eq r0 r1 r2 r3 r4 k0 k1 k2 r6 r7 k o p V1 V2 V3 s f t q y0 y1 y2) (fun q2 a2 w2 hat2 => ?_)
  obtain ⟨args2, hrun, hp2⟩ := evEff_ok hat2.len hat2.tm hat2.sim (call_eq r0 r1 r2 r3 r4 k0 k1 k2 r6 r7 k o p V1 V2 V3 s f t q y0 y1 y2)
  obtain ⟨u, hu1, hu2⟩ := Pw_one_inv hp2
  obtain ⟨cs, rfl, h⟩ : ∃ cs : List Value, u = .agg cs.toArray ∧ Pw (VC (pl0 ++ q1 ++ q2)) [.int .u8 k, .int .u32 o, .int .u8 p, V1, V2, V3, .int .u8 s, .int .u8 f, .int .u8 t, .int .i64 q] cs := by
    obtain ⟨cs', rfl, h⟩ := hu2
    exact ⟨cs'.toList, by simp, h⟩
  obtain ⟨x0, m0, rfl, g0, h⟩ := Pw_cons_inv h
  obtain ⟨x1, m1, rfl, g1, h⟩ := Pw_cons_inv h
  obtain ⟨x2, m2, rfl, g2, h⟩ := Pw_cons_inv h
  obtain ⟨x3, m3, rfl, g3, h⟩ := Pw_cons_inv h
  obtain ⟨x4, m4, rfl, g4, h⟩ := Pw_cons_inv h
  obtain ⟨x5, m5, rfl, g5, h⟩ := Pw_cons_inv h
  obtain ⟨x6, m6, rfl, g6, h⟩ := Pw_cons_inv h
  obtain ⟨x7, m7, rfl, g7, h⟩ := Pw_cons_inv h
  obtain ⟨x8, m8, rfl, g8, h⟩ := Pw_cons_inv h
  obtain ⟨x9, m9, rfl, g9, h⟩ := Pw_cons_inv h
  obtain rfl := Pw_nil_inv h
  have g0 : x0 = .int .u8 k := g0
  have g1 : x1 = .int .u32 o := g1
  have g2 : x2 = .int .u8 p := g2
  have g6 : x6 = .int .u8 s := g6
  have g7 : x7 = .int .u8 f := g7
  have g8 : x8 = .int .u8 t := g8
  have g9 : x9 = .int .i64 q := g9
  rw [← hV1] at g3
  rw [← hV2] at g4
  rw [← hV3] at g5
  obtain ⟨B1, d1, g3⟩ := sv_inv g3
  obtain ⟨B2, d2, g4⟩ := sv_inv g4
  obtain ⟨B3, d3, g5⟩ := sv_inv g5
  subst g0 g1 g2 g3 g4 g5 g6 g7 g8 g9
  have ha2 : args2 = #[.agg #[.int .u8 k, .int .u32 o, .int .u8 p, .slice B1 n1 d1, .slice B2 n2 d2, .slice B3 n3 d3, .int .u8 s, .int .u8 f, .int .u8 t, .int .i64 q]] := Array.toList_inj.1 hu1
  subst ha2
  have hg2 : o2.guard = none := by kernel_rfl
  have hd2 : o2.dst = some 15 := by kernel_rfl
  refine wpList_plain hg2 (fun Kc hKc => ?_)
  unfold Oper.wp
  rw [hrun, Oper.upon_enter]
  refine (few_calls k o p s f t B1 B2 B3 n1 n2 n3 d1 d2 d3 q w2).mono ?_
  rintro e w3 ⟨⟨b, hb, rfl⟩, hbel⟩
  have hat3 : At Tryz.prog (Base.of w) (pl0 ++ q1 ++ q2) 86 (stD r0 r1 r2 r3 r4 k0 k1 k2 r6 r7 k o p V1 V2 V3 s f t q y0 y1 y2 b) (a2.put o2.dst (.int .i64 b)) w3 := by
    rw [hd2]
    unfold stD
    exact hat2.after (by decide) (by decide) hbel b
  refine hKc _ _ ?_
  have hfin : fin r0 r1 r2 r3 r4 k0 k1 k2 r6 r7 k o p V1 V2 V3 s f t q y0 y1 y2 b = true := by
    rcases hb with rfl | rfl
    · exact fin_0 ..
    · exact fin_1 ..
  refine evSeq_ok K1_ok [o3] hat3 (Nat.zero_le _) (stE_eq r0 r1 r2 r3 r4 k0 k1 k2 r6 r7 k o p V1 V2 V3 s f t q y0 y1 y2 b) (fun q3 a3 w4 hat4 _ => ?_)
  unfold fin at hfin
  split at hfin
  · rename_i st he
    split at hfin
    · rename_i hres
      refine evTwo_ok (f := 3999) K1_ok (by kernel_rfl) c5c_ok hat4 (Nat.zero_le _) he (fun e a5 w5 hpost => ?_)
      obtain ⟨he5, q5, hat5, _⟩ := hpost
      subst he5
      obtain ⟨v', h5, h6⟩ := evOut_ok hat5 hres
      have : v' = .bool true := h6
      subst this
      exact ⟨hat5.tm.defers, _, h5, rfl, hat5.sim.below.os, hat5.sim.below.tape, hat5.sim.below.output, hat5.sim.below.size, fun k hk => hat5.sim.below.block k hk⟩
    · cases hfin
  · cases hfin
end Go.Proofs.YteeclengpnjlgaaGreat.Ev
