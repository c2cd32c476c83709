import Derived.Test.YteeclengpnjlgaaGreatImg
import Derived.IntWalk
/- image.Split and the document's Split. -/
namespace Go.Proofs.YteeclengpnjlgaaGreat.I
open Go.RowKit Go.Proofs.YteeclengpnjlgaaGreatW.PrintWords Go.Proofs.YteeclengpnjlgaaGreatW.PrintLast Go.Proofs.YteeclengpnjlgaaGreatW.PrintMore Go.Proofs.YteeclengpnjlgaaGreat
set_option linter.unusedVariables false
set_option linter.unusedSimpArgs false
/-- Bytes in pieces of s. -/
def cut (s : Nat) : Nat → List Int → List (List Int)
  | 0, _ => []
  | k + 1, l => if l.isEmpty then [] else l.take s :: cut s k (l.drop s)
theorem cut_nil (s k : Nat) : cut s k [] = [] := by cases k <;> rfl
theorem cut_fuel {s : Nat} (hs : 1 ≤ s) : ∀ (k : Nat) (l : List Int), l.length ≤ k → cut s k l = cut s l.length l
  | 0, l, h => by rw [List.eq_nil_of_length_eq_zero (Nat.le_zero.1 h)]; rfl
  | k + 1, [], _ => rfl
  | k + 1, x :: l, h => by
    have h1 : ((x :: l).drop s).length ≤ l.length := by rw [List.length_drop]; simp; omega
    simp only [cut, List.length_cons, List.isEmpty_cons, Bool.false_eq_true, if_false]
    rw [cut_fuel hs k _ (by simp at h; omega), cut_fuel hs l.length _ h1]
theorem cut_step {s : Nat} (hs : 1 ≤ s) {d : List Int} (hd : 0 < d.length) : cut s d.length d = d.take s :: cut s (d.drop s).length (d.drop s) := by
  rcases d with _ | ⟨x, l⟩
  · exact absurd hd (by simp)
  · have h1 : ((x :: l).drop s).length ≤ l.length := by rw [List.length_drop]; simp; omega
    simp only [List.length_cons]
    simp only [cut, List.isEmpty_cons, Bool.false_eq_true, if_false]
    rw [cut_fuel hs l.length _ h1]
def stepOf (size : Int) (n : Nat) : Nat := if size < 1 then max n 1 else size.toNat
def cutS (size : Int) (l : List Int) : List (List Int) := cut (stepOf size l.length) l.length l
theorem infS : (Tryz.prog.info? 22).map (fun i => (i.zero, i.size, i.bytes)) = some (some (.slice none 0 0), 1, 24) := by kernel_rfl
theorem C_some {α : Type} {d : Kd α} {w : World} {A : Option Addr} {n : Nat} {xs : List α} (h : d.C w A n xs) (hn : 0 < n) : ∃ ad, A = some ad := by
  obtain ⟨ad, e, _⟩ := h.2.2 hn
  exact ⟨ad, e⟩
abbrev kS : Kd (List Int) := Kd.slice 5 (Kd.int .u8)
theorem C_pre {α : Type} {d : Kd α} {w : World} {A : Option Addr} {xs : List α} {m : Nat} (h : d.C w A xs.length xs) (hm : m ≤ xs.length) : d.C w A m (xs.take m) := by
  have := Kd.C_take h hm
  rwa [List.length_take, Nat.min_eq_left hm] at this
theorem C_cutb {w : World} {A A1 : Option Addr} {d : List Int} {n c : Nat} (h : ∀ (w : World) (k : IntKind) (xs : List Int), d.length ≤ c → ReadsInt w k A d.length xs → ReadsInt w k A1 (d.length - n) (xs.drop n)) (hc : d.length ≤ c) (hC : Kd.C (Kd.int .u8) w A d.length d) : Kd.C (Kd.int .u8) w A1 (d.drop n).length (d.drop n) := by
  rw [List.length_drop]
  exact Kd.C_of_reads (readsInt_of.1 (h w .u8 d hc (readsInt_of.2 (Kd.reads_of_C hC))))
def lenOf : Value → Nat | .slice _ n _ => n | _ => 0
set_option maxHeartbeats 8000000 in
set_option maxRecDepth 100000 in
theorem split_calls (A : Option Addr) (c : Nat) (bs : List Int) (hl : bs.length ≤ 2000) (hc : bs.length ≤ c) (size : Int) (w : World) (hC : Kd.C (Kd.int .u8) w A bs.length bs) :
    Calls Tryz.prog 6 #[.slice A bs.length c, .int .i64 size] w fun e w' => ∃ v, e = .returned v ∧ kS.R 22 w' w.heap.size (fun _ => True) v (cutS size bs) ∧ Below w.heap.size w w' := by
  obtain ⟨s, hs1, hsc, hcode⟩ : ∃ s : Nat, 1 ≤ s ∧ cutS size bs = cut s bs.length bs ∧ ((size < 1 ∧ (bs.length : Int) < 1 ∧ (s : Int) = 1) ∨ (size < 1 ∧ ¬ (bs.length : Int) < 1 ∧ (s : Int) = bs.length) ∨ (¬ size < 1 ∧ (s : Int) = size)) := by
    refine ⟨stepOf size bs.length, ?_, rfl, ?_⟩
    · unfold stepOf; split <;> omega
    · unfold stepOf; split <;> omega
  obtain ⟨A0, hA0⟩ : ∃ A0, A0 = A := ⟨_, rfl⟩
  have HSC := Aside0.mk hsc
  have HC := Aside0.mk hC
  have HL := Aside0.mk hl
  have HS := Aside0.mk hs1
  have HCC := Aside0.mk hc
  have HI := infoU8
  obtain ⟨i0, hi, hz0, hz1, hz2⟩ := info_parts infoU8
  have HZ := Aside0.mk (And.intro hi hz1)
  clear hsc hC hl hs1 hc hi hz0 hz1 hz2 HI
  rcases hcode with ⟨h1, h2, h3⟩ | ⟨h1, h2, h3⟩ | ⟨h1, h3⟩
  · obtain rfl : bs = [] := List.eq_nil_of_length_eq_zero (by omega)
    clear h3
    go_enter Tryz.func6, Tryz.ntmps6
    go_wp2_with (first | fail)
    refine wp_loop_rounds 1 ?_
    rw [rounds_succ]
    go_wp2_with (first | fail)
    go_ret
    rw [HSC.out]
    exact ⟨_, rfl, Kd.R_nil _ _ _ _ _, Below.refl _ _⟩
  all_goals
    have HZS := Aside0.mk h3
    clear h3
    go_enter Tryz.func6, Tryz.ntmps6
    go_wp2_with (first | fail)
    rw [← HZS.out]
    go_loopw [0, 5] (fun v0 v5 wr => ∃ (A' : Option Addr) (c' : Nat) (d : List Int) (pre : List (List Int)), v0 = .slice A' d.length c' ∧ d.length ≤ c' ∧ pre.length + d.length ≤ bs.length ∧ Aside0 (pre ++ cut s d.length d = cut s bs.length bs) ∧ Aside0 (Kd.C (Kd.int .u8) w A' d.length d) ∧ Aside0 (kS.R 22 wr w.heap.size (fun _ => True) v5 pre) ∧ Aside0 (Below w.heap.size w wr)) (fun v0 _ _ => lenOf v0)
    case atStart => exact ⟨A, c, bs, [], rfl, HCC.out, by simp, Aside0.mk rfl, HC, Aside0.mk (Kd.R_nil _ _ _ _ _), Aside0.mk (Below.refl _ _)⟩
    case round =>
      obtain ⟨A', c', d, pre, rfl, hd1, hd2, HQ, HD, HR, HB⟩ := hrel
      by_cases hlt : 0 < d.length
      · obtain ⟨ad, rfl⟩ := C_some HD.out hlt
        obtain ⟨n, hn1, hn2, hn3, hn4, hn5⟩ : ∃ n : Nat, 1 ≤ n ∧ n ≤ d.length ∧ d.take s = d.take n ∧ d.drop s = d.drop n ∧ ((d.length : Int) < (s : Int) ∧ n = d.length ∨ ¬ (d.length : Int) < (s : Int) ∧ n = s) := by
          by_cases hq : d.length < s
          · exact ⟨d.length, hlt, Nat.le_refl _, by rw [List.take_of_length_le (by omega), List.take_of_length_le (by omega)], by rw [List.drop_of_length_le (by omega), List.drop_of_length_le (by omega)], Or.inl ⟨by omega, rfl⟩⟩
          · exact ⟨s, HS.out, by omega, rfl, rfl, Or.inr ⟨by omega, rfl⟩⟩
        have HST := Aside0.mk (cut_step HS.out hlt)
        rw [hn3, hn4] at HST
        obtain ⟨A1, hcut, hA1⟩ := print_cut (P := Tryz.prog) 22 5 .i64 (i := i0) Tryz.underlying22 HZ.out.1 HZ.out.2 (some ad) d.length c' n hn2
        have HA1 := Aside0.mk hA1
        have hn6 : (n : Int) ≤ (c' : Int) := by omega
        have hn7 : (n : Int) ≤ (d.length : Int) := by omega
        have hn8 : (0 : Int) ≤ (n : Int) := by omega
        have HLT := Aside0.mk (And.intro hlt (And.intro hd1 (And.intro hd2 (And.intro hn1 hn2))))
        clear hn3 hn4 hA1 hd1 hd2 hn1 hn2
        have HB0 := Aside0.mk HB.out.size
        have HU := Aside0.mk (Kd.R_lt HR.out)
        rcases hn5 with ⟨hq, rfl⟩ | ⟨hq, rfl⟩
        · go_wp2_with (first | ((with_reducible refine gate_dst (N := 20) rfl ?_); refine Kd.R_lit (Kd.int .u8) (w0 := wr) wr.heap.size 5 ?hg (N := 20) ?hd (xs := ([] : List Int)) (inner := []) (ok := fun _ => True) (okp := fun _ => False) ?hr ?hp (fun _ _ => trivial) trivial (Below.refl _ _) (Nat.le_refl _) (by simp) ?_; (case hd => rfl); (case hg => rfl); (case hr => first | (go_simp; done) | (go_simp; rfl)); (case hp => exact (Reps.none _ _)); intro v1 w1 h1 hb1 _ _; have N1 := Aside0.mk h1; have B1 := Aside0.mk hb1; clear h1 hb1) | ((with_reducible refine gate_builtin (b := .append) (xs := #[.tmp 20, .tmp 23]) rfl ?_); at_builtin; refine Kd.R_append_rows (Kd.int .u8) (Rr := (Kd.int .u8).K w1) (w0 := wr) wr.heap.size rfl (.tmp 20) (.tmp 23) 22 5 (.int .u8 0) 1 rfl Tryz.underlying22 infoU8 rfl (by decide) (by omega) v1 ([] : List Int) (d.take d.length) (some ad) d.length c' (fun _ => True) (fun _ => False) rfl rfl ?aO ?aR ?aK (fun _ hk => hk.elim) (fun _ _ => trivial) ?aB ?aS ?aL ?_; (case aO => exact N1.out); (case aR => exact Kd.C_below (C_pre (Kd.C_below HD.out HB.out) HLT.out.2.2.2.2) B1.out); (case aK => intro x cs hx; obtain rfl := hx; rfl); (case aB => exact B1.out); (case aS => exact B1.out.size); (case aL => have := HLT.out.2.2; have := HL.out; simp; omega); intro v2 w2 h2 hb2 _ _; rw [List.nil_append] at h2; obtain ⟨A2, c2, hv2⟩ := Kd.R_slice h2; obtain ⟨L2, hL2⟩ : ∃ L2, L2 = (List.take d.length d).length := ⟨_, rfl⟩; rw [← hL2] at hv2; subst hv2; have N2 := Aside0.mk h2; have B2 := Aside0.mk hb2; clear h2 hb2 hL2; replace HR := Aside0.mk (Kd.R_below HR.out B2.out); replace HB := Aside0.mk (below_step HB.out B2.out)) | ((with_reducible refine gate_builtin (b := .append) (xs := #[.tmp 19, .tmp 25]) rfl ?_); at_builtin; refine Kd.R_append kS (w0 := w) w.heap.size rfl (.tmp 19) (.tmp 25) 23 22 (.slice none 0 0) 24 rfl Tryz.underlying23 infS rfl (by decide) (by omega) u5 pre (d.take d.length) [.slice A2 L2 c2] (fun _ => True) (fun k => wr.heap.size ≤ k) rfl rfl ⟨.slice A2 L2 c2, rfl, Kd.R_lower (Kd.R_mono (Kd.R_bound N2.out) (fun k hk => hk.2.1)) HB0.out⟩ ?aN (fun _ _ => trivial) HR.out HB.out HB.out.size ?aL ?_; (case aN => intro k hk; exact ⟨trivial, fun e => Nat.lt_irrefl k (Nat.lt_of_lt_of_le (HU.out k e.symm) hk)⟩); (case aL => have := HLT.out.2.2; have := HL.out; omega); intro v3 w3 h3 hb3 _ _; replace HR := Aside0.mk h3; replace HB := Aside0.mk hb3; clear h3 hb3) | fail)
          go_roundw
          case measure => have := HLT.out; simp only [lenOf, List.length_drop]; omega
          case rel => exact ⟨A1, c' - d.length, d.drop d.length, pre ++ [d.take d.length], by rw [List.length_drop, Nat.sub_self], by have := HLT.out; rw [List.length_drop]; omega, by have := HLT.out; rw [List.length_drop, List.length_append, List.length_singleton]; omega, Aside0.mk (by rw [← HQ.out, HST.out, List.append_assoc]; rfl), Aside0.mk (C_cutb HA1.out HLT.out.2.1 HD.out), HR, HB⟩
        · go_wp2_with (first | ((with_reducible refine gate_dst (N := 20) rfl ?_); refine Kd.R_lit (Kd.int .u8) (w0 := wr) wr.heap.size 5 ?hg (N := 20) ?hd (xs := ([] : List Int)) (inner := []) (ok := fun _ => True) (okp := fun _ => False) ?hr ?hp (fun _ _ => trivial) trivial (Below.refl _ _) (Nat.le_refl _) (by simp) ?_; (case hd => rfl); (case hg => rfl); (case hr => first | (go_simp; done) | (go_simp; rfl)); (case hp => exact (Reps.none _ _)); intro v1 w1 h1 hb1 _ _; have N1 := Aside0.mk h1; have B1 := Aside0.mk hb1; clear h1 hb1) | ((with_reducible refine gate_builtin (b := .append) (xs := #[.tmp 20, .tmp 23]) rfl ?_); at_builtin; refine Kd.R_append_rows (Kd.int .u8) (Rr := (Kd.int .u8).K w1) (w0 := wr) wr.heap.size rfl (.tmp 20) (.tmp 23) 22 5 (.int .u8 0) 1 rfl Tryz.underlying22 infoU8 rfl (by decide) (by omega) v1 ([] : List Int) (d.take n) (some ad) n c' (fun _ => True) (fun _ => False) rfl rfl ?aO ?aR ?aK (fun _ hk => hk.elim) (fun _ _ => trivial) ?aB ?aS ?aL ?_; (case aO => exact N1.out); (case aR => exact Kd.C_below (C_pre (Kd.C_below HD.out HB.out) HLT.out.2.2.2.2) B1.out); (case aK => intro x cs hx; obtain rfl := hx; rfl); (case aB => exact B1.out); (case aS => exact B1.out.size); (case aL => have := HLT.out.2.2; have := HL.out; simp; omega); intro v2 w2 h2 hb2 _ _; rw [List.nil_append] at h2; obtain ⟨A2, c2, hv2⟩ := Kd.R_slice h2; obtain ⟨L2, hL2⟩ : ∃ L2, L2 = (List.take n d).length := ⟨_, rfl⟩; rw [← hL2] at hv2; subst hv2; have N2 := Aside0.mk h2; have B2 := Aside0.mk hb2; clear h2 hb2 hL2; replace HR := Aside0.mk (Kd.R_below HR.out B2.out); replace HB := Aside0.mk (below_step HB.out B2.out)) | ((with_reducible refine gate_builtin (b := .append) (xs := #[.tmp 19, .tmp 25]) rfl ?_); at_builtin; refine Kd.R_append kS (w0 := w) w.heap.size rfl (.tmp 19) (.tmp 25) 23 22 (.slice none 0 0) 24 rfl Tryz.underlying23 infS rfl (by decide) (by omega) u5 pre (d.take n) [.slice A2 L2 c2] (fun _ => True) (fun k => wr.heap.size ≤ k) rfl rfl ⟨.slice A2 L2 c2, rfl, Kd.R_lower (Kd.R_mono (Kd.R_bound N2.out) (fun k hk => hk.2.1)) HB0.out⟩ ?aN (fun _ _ => trivial) HR.out HB.out HB.out.size ?aL ?_; (case aN => intro k hk; exact ⟨trivial, fun e => Nat.lt_irrefl k (Nat.lt_of_lt_of_le (HU.out k e.symm) hk)⟩); (case aL => have := HLT.out.2.2; have := HL.out; omega); intro v3 w3 h3 hb3 _ _; replace HR := Aside0.mk h3; replace HB := Aside0.mk hb3; clear h3 hb3) | fail)
          go_roundw
          case measure => have := HLT.out; simp only [lenOf, List.length_drop]; omega
          case rel => exact ⟨A1, c' - n, d.drop n, pre ++ [d.take n], by rw [List.length_drop], by have := HLT.out; rw [List.length_drop]; omega, by have := HLT.out; rw [List.length_drop, List.length_append, List.length_singleton]; omega, Aside0.mk (by rw [← HQ.out, HST.out, List.append_assoc]; rfl), Aside0.mk (C_cutb HA1.out HLT.out.2.1 HD.out), HR, HB⟩
      · obtain rfl : d = [] := List.eq_nil_of_length_eq_zero (by omega)
        clear hlt
        go_wp2_with (first | fail)
        go_ret
        rw [HSC.out, ← HQ.out]
        exact ⟨_, rfl, by simpa [cut_nil] using HR.out, HB.out⟩
/-! The document's pieces are cut out of what came in: a row of headers, each with its bytes beside it. -/
theorem w64 {x : Int} (h : -9223372036854775808 ≤ x ∧ x ≤ 9223372036854775807) : wrap64 x = x := by unfold wrap64; omega
abbrev HB1 := (Option Addr × Nat) × List Int
abbrev kP : Kd HB1 := Kd.scalar (fun p => Value.slice p.1.1 p.2.length p.1.2) (fun _ => rfl)
def Fine (w : World) (ps : List HB1) : Prop := ∀ p ∈ ps, p.2.length ≤ p.1.2 ∧ Kd.C (Kd.int .u8) w p.1.1 p.2.length p.2
theorem Fine.snoc {w : World} {ps : List HB1} (h : Fine w ps) {A : Option Addr} {c : Nat} {x : List Int} (hc : x.length ≤ c) (hC : Kd.C (Kd.int .u8) w A x.length x) : Fine w (ps ++ [((A, c), x)]) := by
  intro p hp
  rcases List.mem_append.1 hp with hp | hp
  · exact h p hp
  · rw [List.mem_singleton.1 hp]
    exact ⟨hc, hC⟩
theorem Fine.nil (w : World) : Fine w [] := fun p hp => by cases hp
set_option maxHeartbeats 8000000 in
set_option maxRecDepth 100000 in
theorem rsplit_loop (A : Option Addr) (c : Nat) (bs : List Int) (hl : bs.length ≤ 2000) (hc : bs.length ≤ c) (size : Int) (h63 : size ≤ 9223372036854775807) (w : World) (hC : Kd.C (Kd.int .u8) w A bs.length bs) (hb : 0 < bs.length) (hs : ¬ size < 1) :
    Calls Tryz.prog 7 #[.slice A bs.length c, .int .i64 size] w fun e w' => ∃ v ps, e = .returned v ∧ kP.R 22 w' w.heap.size (fun _ => True) v ps ∧ Fine w ps ∧ ps.map (·.2) = cutS size bs ∧ Below w.heap.size w w' := by
  have HC := Aside0.mk hC
  have HL := Aside0.mk hl
  have HCC := Aside0.mk hc
  have H63 := Aside0.mk h63
  obtain ⟨i0, hi, hz0, hz1, hz2⟩ := info_parts infoU8
  have HZ := Aside0.mk (And.intro hi hz1)
  clear hC hl hc hi hz0 hz1 hz2
  obtain ⟨s, rfl⟩ := Int.eq_ofNat_of_zero_le (show 0 ≤ size by omega)
  have HS := Aside0.mk (show 1 ≤ s by omega)
  have HSC := Aside0.mk (show cutS (s : Int) bs = cut s bs.length bs by unfold cutS stepOf; rw [if_neg hs]; rfl)
  obtain ⟨ad, rfl⟩ := C_some HC.out hb
  have hs' : decide ((s : Int) < 1) = false := by simp; omega
  have hs0 : ¬ s = 0 := by omega
  clear hs
  go_enter Tryz.func7, Tryz.ntmps7
  go_wp2_with (first | fail)
  go_loopw [5, 6] (fun v5 v6 wr => ∃ (k : Nat) (ps : List HB1), v6 = .int .i64 (k : Int) ∧ k ≤ bs.length ∧ ps.length ≤ k ∧ Aside0 (ps.map (·.2) ++ cut s (bs.drop k).length (bs.drop k) = cut s bs.length bs) ∧ Aside0 (Fine w ps) ∧ Aside0 (kP.R 22 wr w.heap.size (fun _ => True) v5 ps) ∧ Aside0 (Below w.heap.size w wr)) (fun _ v6 _ => bs.length - (RowKit.intOf v6).toNat)
  case atStart => exact ⟨0, [], rfl, Nat.zero_le _, Nat.le_refl _, Aside0.mk rfl, Aside0.mk (Fine.nil _), Aside0.mk (Kd.R_nil _ _ _ _ _), Aside0.mk (Below.refl _ _)⟩
  case round =>
    obtain ⟨k, ps, rfl, hk, hps, HQ, HF, HR, HB⟩ := hrel
    by_cases hlt : k < bs.length
    · have HLT := Aside0.mk (And.intro hlt hps)
      have hd : 0 < (bs.drop k).length := by rw [List.length_drop]; omega
      have HST := Aside0.mk (cut_step HS.out hd)
      by_cases hq : (bs.length : Int) - (k : Int) < (s : Int)
      · obtain ⟨A1, hcut, hA1⟩ := print_cut (P := Tryz.prog) 22 5 .i64 (i := i0) Tryz.underlying22 HZ.out.1 HZ.out.2 (some ad) bs.length c k (Nat.le_of_lt hlt)
        have HA1 := Aside0.mk (C_cutb hA1 HCC.out HC.out)
        obtain ⟨D, hD⟩ : ∃ D, D = bs.drop k := ⟨_, rfl⟩
        have HD := Aside0.mk hD
        rw [← List.length_drop, ← hD] at hcut
        clear hA1 hd hps hk hD
        go_wp2_with (first | ((with_reducible refine gate_builtin (b := .append) (xs := #[.tmp 31, .tmp 35]) rfl ?_); at_builtin; refine Kd.R_append kP (w0 := w) w.heap.size rfl (.tmp 31) (.tmp 35) 23 22 (.slice none 0 0) 24 rfl Tryz.underlying23 infS rfl (by decide) (by omega) u5 ps ((A1, c - k), D) [.slice A1 D.length (c - k)] (fun _ => True) (fun _ => False) rfl rfl rfl (fun _ hk => hk.elim) (fun _ _ => trivial) HR.out HB.out HB.out.size ?aL ?_; (case aL => have := HLT.out; have := HL.out; omega); intro v3 w3 h3 hb3 _ _; replace HR := Aside0.mk h3; replace HB := Aside0.mk hb3; clear h3 hb3) | fail)
        go_ret
        rw [HD.out] at HR
        refine ⟨_, ps ++ [((A1, c - k), bs.drop k)], rfl, HR.out, HF.out.snoc (by have := HCC.out; rw [List.length_drop]; omega) HA1.out, ?_, HB.out⟩
        rw [HSC.out, ← HQ.out, HST.out, List.map_append]
        have t1 : (bs.drop k).take s = bs.drop k := List.take_of_length_le (by rw [List.length_drop]; omega)
        have t2 : (bs.drop k).drop s = [] := List.drop_of_length_le (by rw [List.length_drop]; omega)
        rw [t1, t2, cut_nil]
        rfl
      · obtain ⟨A1, hcut, hA1, hA2⟩ := print_mid_int (P := Tryz.prog) (k := .u8) 22 5 (i := i0) Tryz.underlying22 HZ.out.1 HZ.out.2 (some ad) c bs (k : Int) ((k : Int) + (s : Int)) (by omega) (by omega) (by omega) HCC.out
        have e1 : ((k : Int) + (s : Int)).toNat = k + s := by omega
        have e2 : (k : Int).toNat = k := by omega
        rw [e1, e2] at hcut hA1 hA2
        have e3 : (bs.take (k + s)).drop k = (bs.drop k).take s := by rw [List.drop_take]; congr 1; omega
        rw [e3] at hcut hA1 hA2
        obtain ⟨CH, hCH⟩ : ∃ CH, CH = (bs.drop k).take s := ⟨_, rfl⟩
        have HCH := Aside0.mk hCH
        have hCl : CH.length = s := by rw [hCH, List.length_take, List.length_drop]; omega
        have HCL := Aside0.mk hCl
        rw [← hCH] at hcut hA1 hA2
        have HA1 := Aside0.mk (show Kd.C (Kd.int .u8) w A1 CH.length CH from Kd.C_of_reads (readsInt_of.1 (hA1 w (readsInt_of.2 (Kd.reads_of_C HC.out)))))
        have HA2 := Aside0.mk hA2
        have hs3 : (0 : Int) ≤ (bs.length : Int) - (k : Int) := by omega
        have hs4 : (bs.length : Int) - (k : Int) ≤ 2000 := by have := HL.out; omega
        have hq' : decide ((bs.length : Int) - (k : Int) < (s : Int)) = false := by simp; omega
        have hs1 : (0 : Int) ≤ (k : Int) + (s : Int) := by omega
        have hs2 : (k : Int) + (s : Int) ≤ 2000 := by have := HL.out; omega
        have HKS := Aside0.mk (show k + s ≤ bs.length by omega)
        clear e1 e2 e3 hCH hCl hA1 hA2 hd hps hk
        go_wp2_with (first | ((with_reducible refine gate_builtin (b := .append) (xs := #[.tmp 37, .tmp 44]) rfl ?_); at_builtin; refine Kd.R_append kP (w0 := w) w.heap.size rfl (.tmp 37) (.tmp 44) 23 22 (.slice none 0 0) 24 rfl Tryz.underlying23 infS rfl (by decide) (by omega) u5 ps ((A1, c - k), CH) [.slice A1 CH.length (c - k)] (fun _ => True) (fun _ => False) rfl rfl rfl (fun _ hk => hk.elim) (fun _ _ => trivial) HR.out HB.out HB.out.size ?aL ?_; (case aL => have := HLT.out; have := HL.out; omega); intro v3 w3 h3 hb3 _ _; replace HR := Aside0.mk h3; replace HB := Aside0.mk hb3; clear h3 hb3) | fail)
        go_roundw
        case measure => have := HLT.out; have := HS.out; simp only [RowKit.intOf]; omega
        case rel =>
          refine ⟨k + s, ps ++ [((A1, c - k), CH)], by rw [Int.natCast_add], HKS.out, by have := HLT.out; have := HS.out; rw [List.length_append, List.length_singleton]; omega, Aside0.mk ?_, Aside0.mk (HF.out.snoc HA2.out HA1.out), HR, HB⟩
          rw [← HQ.out, HST.out, List.map_append, List.append_assoc, HCH.out, List.drop_drop]
          rfl
    · obtain rfl : k = bs.length := by omega
      clear hlt hk
      go_wp2_with (first | fail)
      go_ret
      refine ⟨_, ps, rfl, HR.out, HF.out, ?_, HB.out⟩
      rw [HSC.out, ← HQ.out, List.drop_length, cut_nil, List.append_nil]
set_option maxHeartbeats 8000000 in
set_option maxRecDepth 100000 in
theorem rsplit_calls (A : Option Addr) (c : Nat) (bs : List Int) (hl : bs.length ≤ 2000) (hc : bs.length ≤ c) (size : Int) (h63 : size ≤ 9223372036854775807) (w : World) (hC : Kd.C (Kd.int .u8) w A bs.length bs) :
    Calls Tryz.prog 7 #[.slice A bs.length c, .int .i64 size] w fun e w' => ∃ v ps, e = .returned v ∧ kP.R 22 w' w.heap.size (fun _ => True) v ps ∧ Fine w ps ∧ ps.map (·.2) = cutS size bs ∧ Below w.heap.size w w' := by
  have HC := Aside0.mk hC
  have HL := Aside0.mk hl
  have HCC := Aside0.mk hc
  have H63 := Aside0.mk h63
  obtain ⟨i0, hi, hz0, hz1, hz2⟩ := info_parts infoU8
  have HZ := Aside0.mk (And.intro hi hz1)
  clear hC hl hc hi hz0 hz1 hz2
  by_cases hb : 0 < bs.length
  · by_cases hs : size < 1
    · have hb1 : ¬ bs.length = 0 := by omega
      go_enter Tryz.func7, Tryz.ntmps7
      go_wp2_with (first | ((with_reducible refine gate_builtin (b := .append) (xs := #[.tmp 14, .tmp 16]) rfl ?_); at_builtin; refine Kd.R_append kP (w0 := w) w.heap.size rfl (.tmp 14) (.tmp 16) 23 22 (.slice none 0 0) 24 rfl Tryz.underlying23 infS rfl (by decide) (by omega) (.slice none 0 0) ([] : List HB1) (p := ((A, c), bs)) [.slice A bs.length c] (fun _ => True) (fun _ => False) rfl rfl rfl (fun _ hk => hk.elim) (fun _ _ => trivial) ?aR ?aB ?aS ?aL ?_; (case aR => exact Kd.R_nil _ _ _ _ _); (case aB => exact Below.refl _ _); (case aS => exact Nat.le_refl _); (case aL => simp); intro v3 w3 h3 hb3 _ _; have HR := Aside0.mk h3; have HB := Aside0.mk hb3; clear h3 hb3) | fail)
      go_ret
      refine ⟨_, [((A, c), bs)], rfl, HR.out, (Fine.nil w).snoc HCC.out HC.out, ?_, HB.out⟩
      unfold cutS stepOf
      rw [if_pos hs, cut_step (by omega) hb]
      rw [List.take_of_length_le (by omega), List.drop_of_length_le (by omega), cut_nil]
      rfl
    · exact rsplit_loop A c bs HL.out HCC.out size H63.out w HC.out hb hs
  · obtain rfl : bs = [] := List.eq_nil_of_length_eq_zero (by omega)
    clear hb
    go_enter Tryz.func7, Tryz.ntmps7
    go_wp2_with (first | fail)
    refine wp_loop_rounds 1 ?_
    rw [rounds_succ]
    go_wp2_with (first | fail)
    go_ret
    exact ⟨_, [], rfl, Kd.R_nil _ _ _ _ _, Fine.nil _, rfl, Below.refl _ _⟩
end Go.Proofs.YteeclengpnjlgaaGreat.I
