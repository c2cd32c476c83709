import Derived.Test.YtpnehgajhpejjaaGreatDoorSq
import Derived.Test.YtpnehgajhpejjaaGreatDoorW0
namespace Go.Proofs.YtpnehgajhpejjaaGreatDoor.W
open Go.RowKit Go.Proofs.YtpnehgajhpejjaaGreatDoorW.PrintWords Go.Proofs.YtpnehgajhpejjaaGreatDoorW.PrintLast Go.Proofs.YtpnehgajhpejjaaGreatDoorW.PrintMore
attribute [local go_sem] max2_int min2_int max_two min_two max_three min_three max_four min_four
set_option linter.unusedVariables false
set_option linter.unusedSimpArgs false
theorem qW13x1 {p : Prop} (h : p := by exact Aside0.mk (show RAt (((w.alloc (.cells #[.int .u8 0, .int .u32 0, .int .u8 0, .slice none 0 0, .int .u8 0, .int .u8 0, .int .u8 0, .int .i64 0] 51)).alloc (.cells #[.slice A0 bs.length c0, .int .i64 0] 97)).alloc (.cells #[.int .u8 0, .int .u32 0, .int .u8 0, .slice none 0 0, .int .u8 0, .int .u8 0, .int .u8 0, .int .i64 0] 51)) (w.heap.size + 1) 0 bs from ⟨A0, c0, blk_alloc (by have := heap_alloc_new (w.alloc (.cells #[.int .u8 0, .int .u32 0, .int .u8 0, .slice none 0 0, .int .u8 0, .int .u8 0, .int .u8 0, .int .i64 0] 51)) (.cells #[.slice A0 bs.length c0, .int .i64 0] 97); simpa using this) _, hc0, Kd.C_alloc (Kd.C_alloc (Kd.C_alloc HCC.out _) _) _, fun a e h0 => by have := HA0.out a e h0; omega⟩)) : p := h
theorem qW13x2 {p : Prop} (h : p := by exact Aside0.mk ((((Below.refl w.heap.size w).alloc (Nat.le_refl _) (.cells #[.int .u8 0, .int .u32 0, .int .u8 0, .slice none 0 0, .int .u8 0, .int .u8 0, .int .u8 0, .int .i64 0] 51)).alloc (by simp) (.cells #[.slice A0 bs.length c0, .int .i64 0] 97)).alloc (by simp; omega) (.cells #[.int .u8 0, .int .u32 0, .int .u8 0, .slice none 0 0, .int .u8 0, .int .u8 0, .int .u8 0, .int .i64 0] 51))) : p := h
theorem qW13x3 {p : Prop} (h : p := by exact Aside0.mk (blk_alloc (blk_alloc (heap_alloc_new w (.cells #[.int .u8 0, .int .u32 0, .int .u8 0, .slice none 0 0, .int .u8 0, .int .u8 0, .int .u8 0, .int .i64 0] 51)) (.cells #[.slice A0 bs.length c0, .int .i64 0] 97)) (.cells #[.int .u8 0, .int .u32 0, .int .u8 0, .slice none 0 0, .int .u8 0, .int .u8 0, .int .u8 0, .int .i64 0] 51))) : p := h
theorem qW13x4 {p : Prop} (h : p := by have h1_ := HGX.out; have h2_ := HG2.out; intro e_; simp only [] at e_; omega) : p := h
theorem qW13x5 {p : Prop} (h : p := by have h1_ := HGX.out; have h2_ := HG2.out; show w.heap.size ≤ gx; omega) : p := h
theorem qW13x6 {p : Prop} (h : p := by exact Aside0.mk (HB.out.trans (hK.1.mono (by have := HG2.out; omega)))) : p := h
theorem qW13x7 {p : Prop} (h : p := by (repeat (refine Below.setCell ?_ (by show w.heap.size ≤ w.heap.size; omega) _)); exact BB.out) : p := h
theorem qW13x8 {p : Prop} (h : p := by exact Aside0.mk (hK.blk BX.out (by have := HGX.out; omega))) : p := h
theorem qW13x9 {p : Prop} (h : p := by exact Aside0.mk (hK.blk B2.out (by have := HG2.out; omega))) : p := h
theorem qW13x10 {p : Prop} (h : p := by refine Below.drew ?_; (repeat (refine Below.setCell ?_ (by show w.heap.size ≤ w.heap.size; omega) _)); exact BB.out) : p := h
theorem qW13x11 {p : Prop} (h : p := by exact Aside0.mk (show w.heap.size < g from by omega)) : p := h
theorem qW13x12 {p : Prop} (h : p := by omega) : p := h
theorem qW13x13 {p : Prop} (h : p := by exact Aside0.mk (show g < gx from by omega)) : p := h
theorem qW13x14 {p : Prop} (h : p := by kernel_rfl) : p := h
theorem qW13x15 {p : Prop} (h : p := by exact Aside0.mk (HB.out.setCell (p := ⟨gx, 4, none⟩) qW13x5 (.int .u8 (p % 256)))) : p := h
theorem qW13x16 {p : Prop} (h : p := by exact Aside0.mk (blk_far B2.out (p := ⟨gx, 4, none⟩) qW13x4 (.int .u8 (p % 256)))) : p := h
theorem qW13x17 {p : Prop} (h : p := by exact Aside0.mk (HR.out.far (p := ⟨gx, 4, none⟩) HGX.out (.int .u8 (p % 256)))) : p := h
theorem qW13x18 {p : Prop} (h : p := by exact Aside0.mk (blk_set BX.out 0 _)) : p := h

/-! ### pledgeref34_Decode: function 28 (by hand) -/
theorem pledgeref34_Decode.r_range {s : Int × List Int} (h : ∀ b ∈ s.2, 0 ≤ b ∧ b < 256) : 0 ≤ (gRead 1 s).1 ∧ (gRead 1 s).1 < 256 := by
  unfold gRead gNum
  split
  · simp
  · split
    · simp
    · have := leN_range (s.2.take 1) (fun b hb => h b (List.mem_of_mem_take hb))
      have hl : (s.2.take 1).length = 1 := by rw [List.length_take]; omega
      rw [hl] at this
      simpa using this
def pledgeref34_Decode.gLines : Nat → Int × List Int → List S90 × (Int × List Int)
  | 0, s => ([], s)
  | n + 1, s => if s.1 ≠ 0 then ([], s) else (⟨(gRead 1 s).1 % 256, wrap64 (gRead 8 (gRead 1 s).2).1⟩ :: (pledgeref34_Decode.gLines n (gRead 8 (gRead 1 s).2).2).1, (pledgeref34_Decode.gLines n (gRead 8 (gRead 1 s).2).2).2)
theorem pledgeref34_Decode.gLines_err (n : Nat) (s : Int × List Int) (h : s.1 ≠ 0) : pledgeref34_Decode.gLines n s = ([], s) := by
  cases n with
  | zero => rfl
  | succ n => simp only [pledgeref34_Decode.gLines]; rw [if_pos h]
theorem pledgeref34_Decode.gLines_len : ∀ (n : Nat) (s : Int × List Int), (pledgeref34_Decode.gLines n s).1.length ≤ n
  | 0, s => Nat.le_refl _
  | n + 1, s => by
    simp only [pledgeref34_Decode.gLines]
    split
    · exact Nat.zero_le _
    · have := pledgeref34_Decode.gLines_len n (gRead 8 (gRead 1 s).2).2
      simp only [List.length_cons]
      omega
theorem pledgeref34_Decode.gCount_wf {s : Int × List Int} (h : ∀ b ∈ s.2, 0 ≤ b ∧ b < 256) : ∀ b ∈ (gCount s).2.2, 0 ≤ b ∧ b < 256 := by
  have hr : ∀ b ∈ (gRead 1 s).2.2, 0 ≤ b ∧ b < 256 := gRead_wf (n := 1) (err := s.1) (bs := s.2) rfl h
  unfold gCount
  split
  · exact hr
  · split
    · exact hr
    · exact hr
theorem pledgeref34_Decode.gCount_range {s : Int × List Int} (h : ∀ b ∈ s.2, 0 ≤ b ∧ b < 256) : 0 ≤ (gCount s).1 ∧ (gCount s).1 ≤ 3 := by
  have hr := pledgeref34_Decode.r_range h
  unfold gCount
  split
  · simp
  · split
    · simp
    · omega
theorem pledgeref34_Decode.kb_of {g : Nat} {w w' : World} (h : Below w.heap.size w w') (hg : g ≤ w.heap.size := by omega) : KeptBut g w w' := ⟨h.mono hg, h.size, fun k hk _ => h.block k hk⟩
theorem pledgeref34_Decode.kb_set {g k : Nat} {w W : World} (h : KeptBut g w W) (hk : w.heap.size ≤ k) (hg : g < k) (j : Nat) (u : Value) : KeptBut g w (W.setCell ⟨k, j, none⟩ u) :=
  ⟨h.1.setCell (p := ⟨k, j, none⟩) (Nat.le_of_lt hg) _, by simpa using h.2.1, fun i hi hn => by rw [heap_setCell_ne W ⟨k, j, none⟩ u i (by show i ≠ k; omega)]; exact h.2.2 i hi hn⟩
theorem pledgeref34_Decode.kb_below {g : Nat} {w W W2 : World} (h : KeptBut g w W) (hb : Below w.heap.size W W2) (hg : g ≤ w.heap.size) : KeptBut g w W2 := ⟨h.1.trans (hb.mono hg), Nat.le_trans h.2.1 hb.size, fun k hk hn => (hb.block k hk).trans (h.2.2 k hk hn)⟩
theorem pledgeref34_Decode.q_kept {ok : Nat → Prop} {w w' : World} {base g : Nat} {v : Value} {xs : List S90} (h : Kd.R k90 90 w base ok v xs) (hK : KeptBut g w w') (hok : ∀ k, ok k → k ≠ g) : Kd.R k90 90 w' base ok v xs := Kd.R_step h (fun k ho hk => hK.2.2 k hk (hok k ho))
set_option maxHeartbeats 8000000 in
set_option maxRecDepth 100000 in
theorem pledgeref34_Decode.lines_calls (g : Nat) (er : Int) (b : List Int) (hall : ∀ x ∈ b, 0 ≤ x ∧ x < 256) (w : World) (h : RAt w g er b) :
    Calls Tryz.prog 59 #[.pointer (some ⟨g, 0, none⟩)] w fun r w' => ∃ v, r = .returned v ∧ Kd.R k90 90 w' w.heap.size (fun _ => True) v (pledgeref34_Decode.gLines (gCount (er, b)).1.toNat (gCount (er, b)).2).1 ∧
      RAt w' g (pledgeref34_Decode.gLines (gCount (er, b)).1.toNat (gCount (er, b)).2).2.1 (pledgeref34_Decode.gLines (gCount (er, b)).1.toNat (gCount (er, b)).2).2.2 ∧ KeptBut g w w' := by
  have hcon := rcount_calls hall (pledgeref34_Decode.r_range (s := (er, b)) hall) h
  have hlt := h.lt
  have hrg := pledgeref34_Decode.gCount_range (s := (er, b)) hall
  have hwf := pledgeref34_Decode.gCount_wf (s := (er, b)) hall
  obtain ⟨n, er2, b2, hq⟩ : ∃ n e l, gCount (er, b) = (n, (e, l)) := ⟨_, _, _, rfl⟩
  rw [hq] at hcon hrg hwf ⊢
  dsimp only at hcon hrg hwf ⊢
  obtain ⟨ls, er9, b9, hres⟩ : ∃ ls e l, pledgeref34_Decode.gLines n.toNat (er2, b2) = (ls, (e, l)) := ⟨_, _, _, rfl⟩
  have hll := pledgeref34_Decode.gLines_len n.toNat (er2, b2)
  rw [hres] at hll ⊢
  dsimp only at hll ⊢
  have HRES := Aside0.mk hres
  have HC := Aside0.mk hcon
  have HW0 := Aside0.mk hlt
  clear hcon h hq hres hall
  go_enter Tryz.func59, Tryz.ntmps59
  go_wp2_with (first | (go_at_call 86; refine HC.out.mono ?_; rintro e w1 ⟨rfl, hR, hG⟩; have HR := Aside0.mk hR; have HG := Aside0.mk hG; clear hR hG HC))
  go_loopw [3, 5] (fun v3 v5 wr => ∃ (m : Nat) (acc : List S90) (er : Int) (b : List Int), m ≤ n.toNat ∧ v5 = .int .i64 (m : Int) ∧ Aside0 (RAt wr g er b ∧ Kd.R k90 90 wr w.heap.size (fun _ => True) v3 acc ∧ KeptBut g w wr ∧ (∀ x ∈ b, 0 ≤ x ∧ x < 256) ∧ acc ++ (pledgeref34_Decode.gLines (n.toNat - m) (er, b)).1 = ls ∧ (pledgeref34_Decode.gLines (n.toNat - m) (er, b)).2 = (er9, b9))) (fun _ v _ => n.toNat - (RowKit.intOf v).toNat)
  case atStart => exact ⟨0, [], er2, b2, Nat.zero_le _, rfl, Aside0.mk ⟨HR.out, Kd.R_nil _ _ _ _ _, HG.out, hwf, by rw [Nat.sub_zero, HRES.out]; rfl, by rw [Nat.sub_zero, HRES.out]⟩⟩
  case round =>
    clear HR HG
    obtain ⟨m, acc, er, b, hm, rfl, HI⟩ := hrel
    obtain ⟨hR, hQ, hG, hwb, hL1, hL2⟩ := HI.out
    clear HI
    have HR := Aside0.mk hR
    have HQ := Aside0.mk hQ
    have HG := Aside0.mk hG
    have HL1 := Aside0.mk hL1
    have HL2 := Aside0.mk hL2
    have hd1 := hR.cells.1
    clear hR hQ hG hL1 hL2
    obtain ⟨Au, cu_, rfl⟩ := Kd.R_slice HQ.out
    by_cases hlt2 : m < n.toNat ∧ er = 0
    rotate_left
    · by_cases hmn : m < n.toNat
      rotate_left
      · obtain rfl : m = n.toNat := by omega
        have p2 : ¬ (((n.toNat : Nat) : Int) < n) := by omega
        have hL1 := HL1.out
        have hL2 := HL2.out
        rw [Nat.sub_self] at hL1 hL2
        simp only [pledgeref34_Decode.gLines, List.append_nil] at hL1 hL2
        obtain rfl := hL1
        cases hL2
        clear HL1 HL2 hlt2
        go_wp2
        go_ret
        exact ⟨_, rfl, HQ.out, HR.out, HG.out⟩
      have he : er ≠ 0 := fun h => hlt2 ⟨hmn, h⟩
      have heb : (er == 0) = false := beq_eq_false_iff_ne.2 he
      have p2 : (m : Int) < n := by omega
      have hL1 := HL1.out
      have hL2 := HL2.out
      rw [pledgeref34_Decode.gLines_err _ _ he] at hL1 hL2
      simp only [List.append_nil] at hL1
      obtain rfl := hL1
      cases hL2
      clear HL1 HL2 hlt2
      go_wp2
      go_ret
      exact ⟨_, rfl, HQ.out, HR.out, HG.out⟩
    obtain ⟨hmn, rfl⟩ := hlt2
    have p2 : (m : Int) < n := by omega
    obtain ⟨k0, hk0⟩ : ∃ k0, n.toNat - m = k0 + 1 := ⟨n.toNat - m - 1, by omega⟩
    obtain ⟨x5, e5, b5, E5⟩ : ∃ x e l, gRead 1 (0, b) = (x, (e, l)) := ⟨_, _, _, rfl⟩
    obtain ⟨x6, e6, b6, E6⟩ : ∃ x e l, gRead 8 (e5, b5) = (x, (e, l)) := ⟨_, _, _, rfl⟩
    have hw5 := gRead_wf E5 hwb
    have hw6 := gRead_wf E6 hw5
    have HKL := Aside0.mk (show acc.length ≤ 3 from by
      have h1 := congrArg List.length HL1.out
      rw [List.length_append] at h1
      omega)
    go_wp2_with (first | fail)
    obtain ⟨gb, hgb⟩ : ∃ gb, gb = wr.heap.size := ⟨_, rfl⟩
    have R_ := Aside0.mk (HR.out.alloc (.cells #[.int .u8 0, .int .i64 0] 90))
    have Q_ := Aside0.mk (Kd.R_alloc (Kd.R_mono (ok' := fun k => w.heap.size ≤ k ∧ k < gb) (Kd.R_bound HQ.out) (fun k hk => ⟨hk.2.1, by have := hk.2.2.1; omega⟩)) (.cells #[.int .u8 0, .int .i64 0] 90))
    have G_ := Aside0.mk (HG.out.trans (pledgeref34_Decode.kb_of (below_alloc (Below.refl _ _) (.cells #[.int .u8 0, .int .i64 0] 90)) (by have := HR.out.lt; omega)))
    have GX := Aside0.mk (heap_alloc_new wr (.cells #[.int .u8 0, .int .i64 0] 90))
    have GL := Aside0.mk (show g < gb ∧ w.heap.size ≤ gb from by have h1_ := HR.out.lt; have h2_ := HG.out.2.1; omega)
    rw [← hgb] at GX ⊢
    clear HR HQ HG hgb hd1
    have HR := R_
    have HQ := Q_
    have HG := G_
    clear R_ Q_ G_
    generalize wr.alloc (.cells #[.int .u8 0, .int .i64 0] 90) = w10 at *
    refine (rnum_calls2 (sz := 1) (size := 1) rfl E5 qW13x12 qW13x12 hwb HR.out).mono ?_
    rintro e w11 ⟨rfl, hR, hK⟩
    have Q_ := Aside0.mk (pledgeref34_Decode.q_kept HQ.out hK (fun k hk => by have h2_ := HW0.out; have h3_ := hk.1; omega))
    have X_ := Aside0.mk (hK.blk GX.out (by have := GL.out.1; omega))
    have G_ := Aside0.mk (HG.out.trans hK)
    clear HR HQ HG GX hK
    have HR := Aside0.mk hR
    have HQ := Q_
    have HG := G_
    have GX := X_
    clear hR Q_ G_ X_
    have hz0 : w11.cell? ⟨gb, 0, none⟩ = some (.int .u8 0) := (blk_cell GX.out 0).trans rfl
    have hf0 := blk_frozen GX.out 0
    go_wp2_with (first | fail)
    have R_ := Aside0.mk (HR.out.far (p := ⟨gb, 0, none⟩) GL.out.1 (.int .u8 (x5 % 256)))
    have Q_ := Aside0.mk (Kd.R_far (p := ⟨gb, 0, none⟩) HQ.out (fun k hk => Nat.ne_of_lt hk.2) (.int .u8 (x5 % 256)))
    have X_ := Aside0.mk (blk_put (cs := #[.int .u8 0, .int .i64 0]) GX.out 0 (.int .u8 (x5 % 256)) rfl)
    have G_ := Aside0.mk (pledgeref34_Decode.kb_set HG.out GL.out.2 GL.out.1 0 (.int .u8 (x5 % 256)))
    clear HR HQ HG GX hz0 hf0
    have HR := R_
    have HQ := Q_
    have HG := G_
    have GX := X_
    clear R_ Q_ G_ X_
    generalize w11.setCell ⟨gb, 0, none⟩ (.int .u8 (x5 % 256)) = w12 at *
    refine (rint_calls E6 hw5 HR.out).mono ?_
    rintro e w13 ⟨rfl, hR, hK⟩
    have Q_ := Aside0.mk (pledgeref34_Decode.q_kept HQ.out hK (fun k hk => by have h2_ := HW0.out; have h3_ := hk.1; omega))
    have X_ := Aside0.mk (hK.blk GX.out (by have := GL.out.1; omega))
    have G_ := Aside0.mk (HG.out.trans hK)
    clear HR HQ HG GX hK
    have HR := Aside0.mk hR
    have HQ := Q_
    have HG := G_
    have GX := X_
    clear hR Q_ G_ X_
    have hz0 : w13.cell? ⟨gb, 0, none⟩ = some (.int .u8 (x5 % 256)) := (blk_cell GX.out 0).trans rfl
    have hz1 : w13.cell? ⟨gb, 1, none⟩ = some (.int .i64 0) := (blk_cell GX.out 1).trans rfl
    have hf1 := blk_frozen GX.out 1
    have Q_ := Aside0.mk (Kd.R_far (p := ⟨gb, 1, none⟩) HQ.out (fun k hk => Nat.ne_of_lt hk.2) (.int .i64 (wrap64 x6)))
    have R_ := Aside0.mk (HR.out.far (p := ⟨gb, 1, none⟩) GL.out.1 (.int .i64 (wrap64 x6)))
    have G_ := Aside0.mk (pledgeref34_Decode.kb_set HG.out GL.out.2 GL.out.1 1 (.int .i64 (wrap64 x6)))
    clear HR HQ HG GX
    have HR := R_
    have HQ := Q_
    have HG := G_
    clear R_ Q_ G_
    go_wp2_with (first | (at_builtin; refine Kd.R_append k90 (w0 := w13.setCell ⟨gb, 1, none⟩ (.int .i64 (wrap64 x6))) w.heap.size rfl (.tmp 29) (.tmp 31) 49 90 (.agg #[(.int .u8 0), (.int .i64 0)]) 16 rfl Tryz.underlying49 info90 rfl (by decide) qW13x12 (.slice Au acc.length cu_) acc (⟨x5 % 256, wrap64 x6⟩ : S90) [.int .u8 (x5 % 256), .int .i64 (wrap64 x6)] (fun _ => True) (fun _ => False) rfl ?aX ?aP (fun _ hk => hk.elim) ?aF ?aO ?aB ?aS ?aL ?_; (case aX => exact (show Value.slice (some ⟨w13.heap.size, 0, none⟩) 1 1 = Value.slice (some ⟨(w13.setCell ⟨gb, 1, none⟩ (.int .i64 (wrap64 x6))).heap.size, 0, none⟩) 1 1 from by simp)); (case aP => exact k90_mkM _ _ _ (⟨x5 % 256, wrap64 x6⟩ : S90)); (case aB => exact Below.refl _ _); (case aF => exact (fun _ _ => trivial)); (case aO => exact Kd.R_mono HQ.out (fun _ _ => trivial)); (case aS => exact HG.out.2.1); (case aL => have := HKL.out; omega); intro v18 w18 ho hb hg hat; have N0 := Aside0.mk ho; have N1 := Aside0.mk hb; clear ho hb hg hat; obtain ⟨Av, cv_, rfl⟩ := Kd.R_slice N0.out))
    have hQ := N0.out
    rw [show (acc ++ [(⟨x5 % 256, wrap64 x6⟩ : S90)]).length = acc.length + 1 from by simp] at hQ
    have hL1 := HL1.out
    have hL2 := HL2.out
    rw [hk0] at hL1 hL2
    simp only [pledgeref34_Decode.gLines] at hL1 hL2
    rw [if_neg (by simp)] at hL1 hL2
    rw [E5] at hL1 hL2
    dsimp only at hL1 hL2
    rw [E6] at hL1 hL2
    dsimp only at hL1 hL2
    refine ⟨⟨m + 1, acc ++ [⟨x5 % 256, wrap64 x6⟩], e6, b6, by omega, by go_num, Aside0.mk ⟨HR.out.under (N1.out.mono (by have := HW0.out; omega)), hQ, pledgeref34_Decode.kb_below HG.out N1.out (by have := HW0.out; omega), hw6, ?_, ?_⟩⟩, ?_⟩
    · rw [show n.toNat - (m + 1) = k0 from by omega, List.append_assoc]
      exact hL1
    · rw [show n.toNat - (m + 1) = k0 from by omega]
      exact hL2
    · simp [RowKit.intOf]; omega
set_option maxHeartbeats 8000000 in
set_option maxRecDepth 100000 in
theorem pledgeref34_Decode.dec_p24 (A0 : Option Addr) (c0 : Nat) (bs : List Int) (hl : bs.length ≤ 1000000) (hc0 : bs.length ≤ c0) (hwf : ∀ b ∈ bs, 0 ≤ b ∧ b < 256) (w : World) (hC : Kd.C (Kd.int .u8) w A0 bs.length bs) {k er1 o er2 : Int} {b1 b2 : List Int} (E1 : gRead 1 (0, bs) = (k, (er1, b1))) (E2 : gRead 4 (er1, b1) = (o, (er2, b2))) (he : er1 = 0) (hk2 : 2 ≤ k) (hk4 : k ≤ 4) :
    Calls Tryz.prog 28 #[.slice A0 bs.length c0] w fun e w' => ∃ v3_ : Value, e = .returned (.tuple #[.agg (if rEnd (er2, b2) = 0 then #[.int .u8 k, .int .u32 (o % 4294967296), .int .u8 0, v3_, .int .u8 0, .int .u8 0, .int .u8 0, .int .i64 0] else #[.int .u8 0, .int .u32 0, .int .u8 0, v3_, .int .u8 0, .int .u8 0, .int .u8 0, .int .i64 0]), .int .i64 (rEnd (er2, b2))]) ∧ Kd.R k90 90 w' w.heap.size (fun _ => True) v3_ [] ∧ Below w.heap.size w w' := by
  have hw1 := gRead_wf E1 hwf
  subst he
  have hku : IntKind.u8.wrap k = k := by rw [IntKind.wrap_u8]; omega
  have hkm : k % 256 = k := by omega
  have k1 : ¬ (k < 1) := by omega
  have k7 : ¬ (7 < k) := by omega
  obtain ⟨ee, hee⟩ : ∃ ee, ee = rEnd (er2, b2) := ⟨_, rfl⟩
  rw [← hee]
  have HE := Aside0.mk hee
  clear hee
  have kp : ¬ (k = 1) := by omega
  have kt : ¬ (k = 6) := by omega
  have k5 : ¬ (k = 5) := by omega
  have kg : ¬ (5 ≤ k) := by omega
  have kpb : (k == 1) = false := beq_eq_false_iff_ne.2 kp
  have ktb : (k == 6) = false := beq_eq_false_iff_ne.2 kt
  have k5b : (k == 5) = false := beq_eq_false_iff_ne.2 k5
  have HCC := Aside0.mk hC
  have HA0 := Aside0.mk (C_lt hC)
  clear hC
  go_enter Tryz.func28, Tryz.ntmps28
  go_wp2_with (first | fail)
  have B2 := qW13x3
  have HR := qW13x1
  have BX := Aside0.mk (show (((w.alloc (.cells #[.int .u8 0, .int .u32 0, .int .u8 0, .slice none 0 0, .int .u8 0, .int .u8 0, .int .u8 0, .int .i64 0] 51)).alloc (.cells #[.slice A0 bs.length c0, .int .i64 0] 97)).alloc (.cells #[.int .u8 0, .int .u32 0, .int .u8 0, .slice none 0 0, .int .u8 0, .int .u8 0, .int .u8 0, .int .i64 0] 51)).heap[w.heap.size + 1 + 1]? = some (.cells #[.int .u8 0, .int .u32 0, .int .u8 0, .slice none 0 0, .int .u8 0, .int .u8 0, .int .u8 0, .int .i64 0] 51 (0, 0)) from by have := heap_alloc_new ((w.alloc (.cells #[.int .u8 0, .int .u32 0, .int .u8 0, .slice none 0 0, .int .u8 0, .int .u8 0, .int .u8 0, .int .i64 0] 51)).alloc (.cells #[.slice A0 bs.length c0, .int .i64 0] 97)) (.cells #[.int .u8 0, .int .u32 0, .int .u8 0, .slice none 0 0, .int .u8 0, .int .u8 0, .int .u8 0, .int .i64 0] 51); simpa using this)
  have HB := qW13x2
  obtain ⟨g, hg⟩ : ∃ g, g = w.heap.size + 1 := ⟨_, rfl⟩
  have HG2 := qW13x11
  rw [← hg] at HR BX ⊢
  obtain ⟨gx, hgx⟩ : ∃ gx, gx = g + 1 := ⟨_, rfl⟩
  have HGX := qW13x13
  rw [← hgx] at BX ⊢
  clear hg hgx HCC HA0
  generalize ((w.alloc (.cells #[.int .u8 0, .int .u32 0, .int .u8 0, .slice none 0 0, .int .u8 0, .int .u8 0, .int .u8 0, .int .i64 0] 51)).alloc (.cells #[.slice A0 bs.length c0, .int .i64 0] 97)).alloc (.cells #[.int .u8 0, .int .u32 0, .int .u8 0, .slice none 0 0, .int .u8 0, .int .u8 0, .int .u8 0, .int .i64 0] 51) = w2 at *
  have r1_ := HR.out.cells.1
  have c0_ := zcf8 BX.out
  refine (rnum_calls2 (sz := 1) (size := 1) rfl E1 qW13x12 qW13x12 hwf HR.out).mono ?_
  rintro e w9 ⟨rfl, hR, hK⟩
  have R_ := Aside0.mk hR
  have X_ : Aside0 (w9.heap[gx]? = some (.cells #[.int .u8 0, .int .u32 0, .int .u8 0, .slice none 0 0, .int .u8 0, .int .u8 0, .int .u8 0, .int .i64 0] 51 (0, 0))) := qW13x8
  have Y_ : Aside0 (w9.heap[w.heap.size]? = some (.cells #[.int .u8 0, .int .u32 0, .int .u8 0, .slice none 0 0, .int .u8 0, .int .u8 0, .int .u8 0, .int .i64 0] 51 (0, 0))) := qW13x9
  have B_ : Aside0 (Below w.heap.size w w9) := qW13x6
  clear HR BX B2 HB hR hK c0_ r1_
  have HR := R_
  have BX := X_
  have B2 := Y_
  have HB := B_
  clear R_ X_ Y_ B_
  have c0_ := zcf8 BX.out
  have r1_ := HR.out.cells.1
  go_wp2_with (first | fail)
  have R_ := Aside0.mk (HR.out.far (p := ⟨gx, 0, none⟩) HGX.out (.int .u8 k))
  have X_ : Aside0 ((w9.setCell ⟨gx, 0, none⟩ (.int .u8 k)).heap[gx]? = some (.cells #[.int .u8 k, .int .u32 0, .int .u8 0, .slice none 0 0, .int .u8 0, .int .u8 0, .int .u8 0, .int .i64 0] 51 (0, 0))) := qW13x18
  have Y_ := Aside0.mk (blk_far B2.out (p := ⟨gx, 0, none⟩) qW13x4 (.int .u8 k))
  have B_ := Aside0.mk (HB.out.setCell (p := ⟨gx, 0, none⟩) qW13x5 (.int .u8 k))
  clear HR BX B2 HB c0_ r1_
  have HR := R_
  have BX := X_
  have B2 := Y_
  have HB := B_
  clear R_ X_ Y_ B_
  generalize w9.setCell ⟨gx, 0, none⟩ (.int .u8 k) = w20 at *
  have c0_ := zcf8 BX.out
  have r1_ := HR.out.cells.1
  refine (rnum_calls2 (sz := 4) (size := 4) rfl E2 qW13x12 qW13x12 hw1 HR.out).mono ?_
  rintro e w9 ⟨rfl, hR, hK⟩
  have R_ := Aside0.mk hR
  have X_ : Aside0 (w9.heap[gx]? = some (.cells #[.int .u8 k, .int .u32 0, .int .u8 0, .slice none 0 0, .int .u8 0, .int .u8 0, .int .u8 0, .int .i64 0] 51 (0, 0))) := qW13x8
  have Y_ : Aside0 (w9.heap[w.heap.size]? = some (.cells #[.int .u8 0, .int .u32 0, .int .u8 0, .slice none 0 0, .int .u8 0, .int .u8 0, .int .u8 0, .int .i64 0] 51 (0, 0))) := qW13x9
  have B_ : Aside0 (Below w.heap.size w w9) := qW13x6
  clear HR BX B2 HB hR hK c0_ r1_
  have HR := R_
  have BX := X_
  have B2 := Y_
  have HB := B_
  clear R_ X_ Y_ B_
  have c0_ := zcf8 BX.out
  have r1_ := HR.out.cells.1
  have hn1 : ¬ (w.heap.size = gx) := by have h1_ := HGX.out; have h2_ := HG2.out; omega
  have hn2 : ¬ (gx = w.heap.size) := by have h1_ := HGX.out; have h2_ := HG2.out; omega
  have hn3 : ¬ (g = gx) := by have h1_ := HGX.out; omega
  have hn4 : ¬ (gx = g) := by have h1_ := HGX.out; omega
  have hn5 : ¬ (w.heap.size = g) := by have h2_ := HG2.out; omega
  have hn6 : ¬ (g = w.heap.size) := by have h2_ := HG2.out; omega
  have d0_ := zcf8 B2.out
  obtain ⟨Ab, cb, hbk, _⟩ := HR.out
  have r0_ : w9.cell? ⟨g, 0, none⟩ = some (.slice Ab b2.length cb) := (blk_cell hbk 0).trans rfl
  clear hbk
  have BB := Aside0.mk (HB.out.setCell (p := ⟨gx, 1, none⟩) qW13x5 (.int .u32 (o % 4294967296)))
  have BQ := Aside0.mk (blk_far B2.out (p := ⟨gx, 1, none⟩) qW13x4 (.int .u32 (o % 4294967296)))
  by_cases hz : er2 = 0
  · subst hz
    by_cases hz : b2.length = 0
    · have hz1 : ¬ ((0 : Int) < (b2.length : Int)) := by omega
      obtain rfl : ee = 0 := by rw [HE.out]; unfold rEnd; rw [if_neg (fun h => by have h2 : 0 < b2.length := h.2; omega)]
      go_wp2_with (first | fail)
      refine bodyPost_ret (results_ct rfl _ _ w.heap.size 51 #[.int .u8 k, .int .u32 (o % 4294967296), .int .u8 0, .slice none 0 0, .int .u8 0, .int .u8 0, .int .u8 0, .int .i64 0] (0, 0) _ rfl (zQ BQ.out) Tryz.underlying51 rfl qW13x14) rfl ?_
      exact ⟨.slice none 0 0, by first | rfl | (simp [hz]; done) | (simp [HZ.out]; done), Kd.R_nil _ _ _ _ _, qW13x7⟩
    have hz1 : (0 : Int) < (b2.length : Int) := by omega
    obtain rfl : ee = 8 := by rw [HE.out]; unfold rEnd; rw [if_pos ⟨rfl, by show 0 < b2.length; omega⟩]
    go_wp2_with (first | fail)
    refine bodyPost_ret (results_ct rfl _ _ w.heap.size 51 #[.int .u8 0, .int .u32 0, .int .u8 0, .slice none 0 0, .int .u8 0, .int .u8 0, .int .u8 0, .int .i64 0] (0, 0) _ rfl (zQ BQ.out) Tryz.underlying51 rfl qW13x14) rfl ?_
    exact ⟨.slice none 0 0, by first | rfl | (simp [hz]; done) | (simp [HZ.out]; done), Kd.R_nil _ _ _ _ _, qW13x7⟩
  have hz1 : (er2 == 0) = false := beq_eq_false_iff_ne.2 hz
  have hz2 : (er2 != 0) = true := bne_iff_ne.2 hz
  obtain rfl : ee = er2 := by rw [HE.out]; unfold rEnd; rw [if_neg (fun h => hz h.1)]
  go_wp2_with (first | fail)
  have RR := Aside0.mk (HR.out.far (p := ⟨gx, 1, none⟩) HGX.out (.int .u32 (o % 4294967296)))
  clear HR BX B2 HB r0_ r1_ c0_ d0_
  generalize w9.setCell ⟨gx, 1, none⟩ (.int .u32 (o % 4294967296)) = w10 at *
  have d0_ := zcf8 BQ.out
  have dd0_ := zcf8 BQ.out
  have r1_ : w10.drew.cell? ⟨g, 1, none⟩ = some (.int .i64 ee) := RR.out.cells.1
  have rr1_ : w10.cell? ⟨g, 1, none⟩ = some (.int .i64 ee) := RR.out.cells.1
  go_region
  go_wp2_with (first | fail)
  refine bodyPost_ret (results_ct rfl _ _ w.heap.size 51 #[.int .u8 0, .int .u32 0, .int .u8 0, .slice none 0 0, .int .u8 0, .int .u8 0, .int .u8 0, .int .i64 0] (0, 0) _ rfl (zQ BQ.out) Tryz.underlying51 rfl qW13x14) rfl ?_
  exact ⟨.slice none 0 0, by first | rfl | (simp [hz]; done), Kd.R_nil _ _ _ _ _, qW13x10⟩
set_option maxHeartbeats 8000000 in
set_option maxRecDepth 100000 in
theorem pledgeref34_Decode.dec_p7 (A0 : Option Addr) (c0 : Nat) (bs : List Int) (hl : bs.length ≤ 1000000) (hc0 : bs.length ≤ c0) (hwf : ∀ b ∈ bs, 0 ≤ b ∧ b < 256) (w : World) (hC : Kd.C (Kd.int .u8) w A0 bs.length bs) {er1 p er2 : Int} {b1 b2 : List Int} (E1 : gRead 1 (0, bs) = (7, (er1, b1))) (E2 : gRead 1 (er1, b1) = (p, (er2, b2))) (he : er1 = 0) :
    Calls Tryz.prog 28 #[.slice A0 bs.length c0] w fun e w' => ∃ v3_ : Value, e = .returned (.tuple #[.agg (if rEnd (er2, b2) = 0 then #[.int .u8 7, .int .u32 0, .int .u8 0, v3_, .int .u8 (p % 256), .int .u8 0, .int .u8 0, .int .i64 0] else #[.int .u8 0, .int .u32 0, .int .u8 0, v3_, .int .u8 0, .int .u8 0, .int .u8 0, .int .i64 0]), .int .i64 (rEnd (er2, b2))]) ∧ Kd.R k90 90 w' w.heap.size (fun _ => True) v3_ [] ∧ Below w.heap.size w w' := by
  have hw1 := gRead_wf E1 hwf
  subst he
  have hkm : (7 : Int) % 256 = 7 := rfl
  obtain ⟨ee, hee⟩ : ∃ ee, ee = rEnd (er2, b2) := ⟨_, rfl⟩
  rw [← hee]
  have HE := Aside0.mk hee
  clear hee
  have HCC := Aside0.mk hC
  have HA0 := Aside0.mk (C_lt hC)
  clear hC
  go_enter Tryz.func28, Tryz.ntmps28
  go_wp2_with (first | fail)
  have B2 := qW13x3
  have HR := qW13x1
  have BX := Aside0.mk (show (((w.alloc (.cells #[.int .u8 0, .int .u32 0, .int .u8 0, .slice none 0 0, .int .u8 0, .int .u8 0, .int .u8 0, .int .i64 0] 51)).alloc (.cells #[.slice A0 bs.length c0, .int .i64 0] 97)).alloc (.cells #[.int .u8 0, .int .u32 0, .int .u8 0, .slice none 0 0, .int .u8 0, .int .u8 0, .int .u8 0, .int .i64 0] 51)).heap[w.heap.size + 1 + 1]? = some (.cells #[.int .u8 0, .int .u32 0, .int .u8 0, .slice none 0 0, .int .u8 0, .int .u8 0, .int .u8 0, .int .i64 0] 51 (0, 0)) from by have := heap_alloc_new ((w.alloc (.cells #[.int .u8 0, .int .u32 0, .int .u8 0, .slice none 0 0, .int .u8 0, .int .u8 0, .int .u8 0, .int .i64 0] 51)).alloc (.cells #[.slice A0 bs.length c0, .int .i64 0] 97)) (.cells #[.int .u8 0, .int .u32 0, .int .u8 0, .slice none 0 0, .int .u8 0, .int .u8 0, .int .u8 0, .int .i64 0] 51); simpa using this)
  have HB := qW13x2
  obtain ⟨g, hg⟩ : ∃ g, g = w.heap.size + 1 := ⟨_, rfl⟩
  have HG2 := qW13x11
  rw [← hg] at HR BX ⊢
  obtain ⟨gx, hgx⟩ : ∃ gx, gx = g + 1 := ⟨_, rfl⟩
  have HGX := qW13x13
  rw [← hgx] at BX ⊢
  clear hg hgx HCC HA0
  generalize ((w.alloc (.cells #[.int .u8 0, .int .u32 0, .int .u8 0, .slice none 0 0, .int .u8 0, .int .u8 0, .int .u8 0, .int .i64 0] 51)).alloc (.cells #[.slice A0 bs.length c0, .int .i64 0] 97)).alloc (.cells #[.int .u8 0, .int .u32 0, .int .u8 0, .slice none 0 0, .int .u8 0, .int .u8 0, .int .u8 0, .int .i64 0] 51) = w2 at *
  have r1_ := HR.out.cells.1
  have c0_ := zcf8 BX.out
  refine (rnum_calls2 (sz := 1) (size := 1) rfl E1 qW13x12 qW13x12 hwf HR.out).mono ?_
  rintro e w9 ⟨rfl, hR, hK⟩
  have R_ := Aside0.mk hR
  have X_ : Aside0 (w9.heap[gx]? = some (.cells #[.int .u8 0, .int .u32 0, .int .u8 0, .slice none 0 0, .int .u8 0, .int .u8 0, .int .u8 0, .int .i64 0] 51 (0, 0))) := qW13x8
  have Y_ : Aside0 (w9.heap[w.heap.size]? = some (.cells #[.int .u8 0, .int .u32 0, .int .u8 0, .slice none 0 0, .int .u8 0, .int .u8 0, .int .u8 0, .int .i64 0] 51 (0, 0))) := qW13x9
  have B_ : Aside0 (Below w.heap.size w w9) := qW13x6
  clear HR BX B2 HB hR hK c0_ r1_
  have HR := R_
  have BX := X_
  have B2 := Y_
  have HB := B_
  clear R_ X_ Y_ B_
  have c0_ := zcf8 BX.out
  have r1_ := HR.out.cells.1
  go_wp2_with (first | fail)
  have R_ := Aside0.mk (HR.out.far (p := ⟨gx, 0, none⟩) HGX.out (.int .u8 7))
  have X_ : Aside0 ((w9.setCell ⟨gx, 0, none⟩ (.int .u8 7)).heap[gx]? = some (.cells #[.int .u8 7, .int .u32 0, .int .u8 0, .slice none 0 0, .int .u8 0, .int .u8 0, .int .u8 0, .int .i64 0] 51 (0, 0))) := qW13x18
  have Y_ := Aside0.mk (blk_far B2.out (p := ⟨gx, 0, none⟩) qW13x4 (.int .u8 7))
  have B_ := Aside0.mk (HB.out.setCell (p := ⟨gx, 0, none⟩) qW13x5 (.int .u8 7))
  clear HR BX B2 HB c0_ r1_
  have HR := R_
  have BX := X_
  have B2 := Y_
  have HB := B_
  clear R_ X_ Y_ B_
  generalize w9.setCell ⟨gx, 0, none⟩ (.int .u8 7) = w20 at *
  have c0_ := zcf8 BX.out
  have r1_ := HR.out.cells.1
  refine (rnum_calls2 (sz := 1) (size := 1) rfl E2 qW13x12 qW13x12 hw1 HR.out).mono ?_
  rintro e w9 ⟨rfl, hR, hK⟩
  have R_ := Aside0.mk hR
  have X_ : Aside0 (w9.heap[gx]? = some (.cells #[.int .u8 7, .int .u32 0, .int .u8 0, .slice none 0 0, .int .u8 0, .int .u8 0, .int .u8 0, .int .i64 0] 51 (0, 0))) := qW13x8
  have Y_ : Aside0 (w9.heap[w.heap.size]? = some (.cells #[.int .u8 0, .int .u32 0, .int .u8 0, .slice none 0 0, .int .u8 0, .int .u8 0, .int .u8 0, .int .i64 0] 51 (0, 0))) := qW13x9
  have B_ : Aside0 (Below w.heap.size w w9) := qW13x6
  clear HR BX B2 HB hR hK c0_ r1_
  have HR := R_
  have BX := X_
  have B2 := Y_
  have HB := B_
  clear R_ X_ Y_ B_
  have c0_ := zcf8 BX.out
  have r1_ := HR.out.cells.1
  have hn1 : ¬ (w.heap.size = gx) := by have h1_ := HGX.out; have h2_ := HG2.out; omega
  have hn2 : ¬ (gx = w.heap.size) := by have h1_ := HGX.out; have h2_ := HG2.out; omega
  have hn3 : ¬ (g = gx) := by have h1_ := HGX.out; omega
  have hn4 : ¬ (gx = g) := by have h1_ := HGX.out; omega
  have hn5 : ¬ (w.heap.size = g) := by have h2_ := HG2.out; omega
  have hn6 : ¬ (g = w.heap.size) := by have h2_ := HG2.out; omega
  have d0_ := zcf8 B2.out
  obtain ⟨Ab, cb, hbk, _⟩ := HR.out
  have r0_ : w9.cell? ⟨g, 0, none⟩ = some (.slice Ab b2.length cb) := (blk_cell hbk 0).trans rfl
  clear hbk
  have BB := qW13x15
  have BQ := qW13x16
  by_cases hz : er2 = 0
  · subst hz
    by_cases hz : b2.length = 0
    · have hz1 : ¬ ((0 : Int) < (b2.length : Int)) := by omega
      obtain rfl : ee = 0 := by rw [HE.out]; unfold rEnd; rw [if_neg (fun h => by have h2 : 0 < b2.length := h.2; omega)]
      go_wp2_with (first | fail)
      refine bodyPost_ret (results_ct rfl _ _ w.heap.size 51 #[.int .u8 7, .int .u32 0, .int .u8 0, .slice none 0 0, .int .u8 (p % 256), .int .u8 0, .int .u8 0, .int .i64 0] (0, 0) _ rfl (zQ BQ.out) Tryz.underlying51 rfl qW13x14) rfl ?_
      exact ⟨.slice none 0 0, by first | rfl | (simp [hz]; done) | (simp [HZ.out]; done), Kd.R_nil _ _ _ _ _, qW13x7⟩
    have hz1 : (0 : Int) < (b2.length : Int) := by omega
    obtain rfl : ee = 8 := by rw [HE.out]; unfold rEnd; rw [if_pos ⟨rfl, by show 0 < b2.length; omega⟩]
    go_wp2_with (first | fail)
    refine bodyPost_ret (results_ct rfl _ _ w.heap.size 51 #[.int .u8 0, .int .u32 0, .int .u8 0, .slice none 0 0, .int .u8 0, .int .u8 0, .int .u8 0, .int .i64 0] (0, 0) _ rfl (zQ BQ.out) Tryz.underlying51 rfl qW13x14) rfl ?_
    exact ⟨.slice none 0 0, by first | rfl | (simp [hz]; done) | (simp [HZ.out]; done), Kd.R_nil _ _ _ _ _, qW13x7⟩
  have hz1 : (er2 == 0) = false := beq_eq_false_iff_ne.2 hz
  have hz2 : (er2 != 0) = true := bne_iff_ne.2 hz
  obtain rfl : ee = er2 := by rw [HE.out]; unfold rEnd; rw [if_neg (fun h => hz h.1)]
  go_wp2_with (first | fail)
  have RR := qW13x17
  clear HR BX B2 HB r0_ r1_ c0_ d0_
  generalize w9.setCell ⟨gx, 4, none⟩ (.int .u8 (p % 256)) = w10 at *
  have d0_ := zcf8 BQ.out
  have dd0_ := zcf8 BQ.out
  have r1_ : w10.drew.cell? ⟨g, 1, none⟩ = some (.int .i64 ee) := RR.out.cells.1
  have rr1_ : w10.cell? ⟨g, 1, none⟩ = some (.int .i64 ee) := RR.out.cells.1
  go_region
  go_wp2_with (first | fail)
  refine bodyPost_ret (results_ct rfl _ _ w.heap.size 51 #[.int .u8 0, .int .u32 0, .int .u8 0, .slice none 0 0, .int .u8 0, .int .u8 0, .int .u8 0, .int .i64 0] (0, 0) _ rfl (zQ BQ.out) Tryz.underlying51 rfl qW13x14) rfl ?_
  exact ⟨.slice none 0 0, by first | rfl | (simp [hz]; done), Kd.R_nil _ _ _ _ _, qW13x10⟩
set_option maxHeartbeats 8000000 in
set_option maxRecDepth 100000 in
theorem pledgeref34_Decode.dec_p5 (A0 : Option Addr) (c0 : Nat) (bs : List Int) (hl : bs.length ≤ 1000000) (hc0 : bs.length ≤ c0) (hwf : ∀ b ∈ bs, 0 ≤ b ∧ b < 256) (w : World) (hC : Kd.C (Kd.int .u8) w A0 bs.length bs) {er1 p er2 q er3 x er4 : Int} {b1 b2 b3 b4 : List Int} (E1 : gRead 1 (0, bs) = (5, (er1, b1))) (E2 : gRead 1 (er1, b1) = (p, (er2, b2))) (E3 : gRead 1 (er2, b2) = (q, (er3, b3))) (E4 : gRead 8 (er3, b3) = (x, (er4, b4))) (he : er1 = 0) :
    Calls Tryz.prog 28 #[.slice A0 bs.length c0] w fun e w' => ∃ v3_ : Value, e = .returned (.tuple #[.agg (if rEnd (er4, b4) = 0 then #[.int .u8 5, .int .u32 0, .int .u8 0, v3_, .int .u8 (p % 256), .int .u8 0, .int .u8 (q % 256), .int .i64 (wrap64 x)] else #[.int .u8 0, .int .u32 0, .int .u8 0, v3_, .int .u8 0, .int .u8 0, .int .u8 0, .int .i64 0]), .int .i64 (rEnd (er4, b4))]) ∧ Kd.R k90 90 w' w.heap.size (fun _ => True) v3_ [] ∧ Below w.heap.size w w' := by
  have hw1 := gRead_wf E1 hwf
  have hw2 := gRead_wf E2 hw1
  have hw3 := gRead_wf E3 hw2
  subst he
  have hkm : (5 : Int) % 256 = 5 := rfl
  obtain ⟨ee, hee⟩ : ∃ ee, ee = rEnd (er4, b4) := ⟨_, rfl⟩
  rw [← hee]
  have HE := Aside0.mk hee
  clear hee
  have HCC := Aside0.mk hC
  have HA0 := Aside0.mk (C_lt hC)
  clear hC
  go_enter Tryz.func28, Tryz.ntmps28
  go_wp2_with (first | fail)
  have B2 := qW13x3
  have HR := qW13x1
  have BX := Aside0.mk (show (((w.alloc (.cells #[.int .u8 0, .int .u32 0, .int .u8 0, .slice none 0 0, .int .u8 0, .int .u8 0, .int .u8 0, .int .i64 0] 51)).alloc (.cells #[.slice A0 bs.length c0, .int .i64 0] 97)).alloc (.cells #[.int .u8 0, .int .u32 0, .int .u8 0, .slice none 0 0, .int .u8 0, .int .u8 0, .int .u8 0, .int .i64 0] 51)).heap[w.heap.size + 1 + 1]? = some (.cells #[.int .u8 0, .int .u32 0, .int .u8 0, .slice none 0 0, .int .u8 0, .int .u8 0, .int .u8 0, .int .i64 0] 51 (0, 0)) from by have := heap_alloc_new ((w.alloc (.cells #[.int .u8 0, .int .u32 0, .int .u8 0, .slice none 0 0, .int .u8 0, .int .u8 0, .int .u8 0, .int .i64 0] 51)).alloc (.cells #[.slice A0 bs.length c0, .int .i64 0] 97)) (.cells #[.int .u8 0, .int .u32 0, .int .u8 0, .slice none 0 0, .int .u8 0, .int .u8 0, .int .u8 0, .int .i64 0] 51); simpa using this)
  have HB := qW13x2
  obtain ⟨g, hg⟩ : ∃ g, g = w.heap.size + 1 := ⟨_, rfl⟩
  have HG2 := qW13x11
  rw [← hg] at HR BX ⊢
  obtain ⟨gx, hgx⟩ : ∃ gx, gx = g + 1 := ⟨_, rfl⟩
  have HGX := qW13x13
  rw [← hgx] at BX ⊢
  clear hg hgx HCC HA0
  generalize ((w.alloc (.cells #[.int .u8 0, .int .u32 0, .int .u8 0, .slice none 0 0, .int .u8 0, .int .u8 0, .int .u8 0, .int .i64 0] 51)).alloc (.cells #[.slice A0 bs.length c0, .int .i64 0] 97)).alloc (.cells #[.int .u8 0, .int .u32 0, .int .u8 0, .slice none 0 0, .int .u8 0, .int .u8 0, .int .u8 0, .int .i64 0] 51) = w2 at *
  have r1_ := HR.out.cells.1
  have c0_ := zcf8 BX.out
  refine (rnum_calls2 (sz := 1) (size := 1) rfl E1 qW13x12 qW13x12 hwf HR.out).mono ?_
  rintro e w9 ⟨rfl, hR, hK⟩
  have R_ := Aside0.mk hR
  have X_ : Aside0 (w9.heap[gx]? = some (.cells #[.int .u8 0, .int .u32 0, .int .u8 0, .slice none 0 0, .int .u8 0, .int .u8 0, .int .u8 0, .int .i64 0] 51 (0, 0))) := qW13x8
  have Y_ : Aside0 (w9.heap[w.heap.size]? = some (.cells #[.int .u8 0, .int .u32 0, .int .u8 0, .slice none 0 0, .int .u8 0, .int .u8 0, .int .u8 0, .int .i64 0] 51 (0, 0))) := qW13x9
  have B_ : Aside0 (Below w.heap.size w w9) := qW13x6
  clear HR BX B2 HB hR hK c0_ r1_
  have HR := R_
  have BX := X_
  have B2 := Y_
  have HB := B_
  clear R_ X_ Y_ B_
  have c0_ := zcf8 BX.out
  have r1_ := HR.out.cells.1
  go_wp2_with (first | fail)
  have R_ := Aside0.mk (HR.out.far (p := ⟨gx, 0, none⟩) HGX.out (.int .u8 5))
  have X_ : Aside0 ((w9.setCell ⟨gx, 0, none⟩ (.int .u8 5)).heap[gx]? = some (.cells #[.int .u8 5, .int .u32 0, .int .u8 0, .slice none 0 0, .int .u8 0, .int .u8 0, .int .u8 0, .int .i64 0] 51 (0, 0))) := qW13x18
  have Y_ := Aside0.mk (blk_far B2.out (p := ⟨gx, 0, none⟩) qW13x4 (.int .u8 5))
  have B_ := Aside0.mk (HB.out.setCell (p := ⟨gx, 0, none⟩) qW13x5 (.int .u8 5))
  clear HR BX B2 HB c0_ r1_
  have HR := R_
  have BX := X_
  have B2 := Y_
  have HB := B_
  clear R_ X_ Y_ B_
  generalize w9.setCell ⟨gx, 0, none⟩ (.int .u8 5) = w20 at *
  have c0_ := zcf8 BX.out
  have r1_ := HR.out.cells.1
  refine (rnum_calls2 (sz := 1) (size := 1) rfl E2 qW13x12 qW13x12 hw1 HR.out).mono ?_
  rintro e w9 ⟨rfl, hR, hK⟩
  have R_ := Aside0.mk hR
  have X_ : Aside0 (w9.heap[gx]? = some (.cells #[.int .u8 5, .int .u32 0, .int .u8 0, .slice none 0 0, .int .u8 0, .int .u8 0, .int .u8 0, .int .i64 0] 51 (0, 0))) := qW13x8
  have Y_ : Aside0 (w9.heap[w.heap.size]? = some (.cells #[.int .u8 0, .int .u32 0, .int .u8 0, .slice none 0 0, .int .u8 0, .int .u8 0, .int .u8 0, .int .i64 0] 51 (0, 0))) := qW13x9
  have B_ : Aside0 (Below w.heap.size w w9) := qW13x6
  clear HR BX B2 HB hR hK c0_ r1_
  have HR := R_
  have BX := X_
  have B2 := Y_
  have HB := B_
  clear R_ X_ Y_ B_
  have c0_ := zcf8 BX.out
  have r1_ := HR.out.cells.1
  go_wp2_with (first | fail)
  have R_ := qW13x17
  have X_ : Aside0 ((w9.setCell ⟨gx, 4, none⟩ (.int .u8 (p % 256))).heap[gx]? = some (.cells #[.int .u8 5, .int .u32 0, .int .u8 0, .slice none 0 0, .int .u8 (p % 256), .int .u8 0, .int .u8 0, .int .i64 0] 51 (0, 0))) := Aside0.mk (blk_set BX.out 4 _)
  have Y_ := qW13x16
  have B_ := qW13x15
  clear HR BX B2 HB c0_ r1_
  have HR := R_
  have BX := X_
  have B2 := Y_
  have HB := B_
  clear R_ X_ Y_ B_
  generalize w9.setCell ⟨gx, 4, none⟩ (.int .u8 (p % 256)) = w21 at *
  have c0_ := zcf8 BX.out
  have r1_ := HR.out.cells.1
  refine (rnum_calls2 (sz := 1) (size := 1) rfl E3 qW13x12 qW13x12 hw2 HR.out).mono ?_
  rintro e w9 ⟨rfl, hR, hK⟩
  have R_ := Aside0.mk hR
  have X_ : Aside0 (w9.heap[gx]? = some (.cells #[.int .u8 5, .int .u32 0, .int .u8 0, .slice none 0 0, .int .u8 (p % 256), .int .u8 0, .int .u8 0, .int .i64 0] 51 (0, 0))) := qW13x8
  have Y_ : Aside0 (w9.heap[w.heap.size]? = some (.cells #[.int .u8 0, .int .u32 0, .int .u8 0, .slice none 0 0, .int .u8 0, .int .u8 0, .int .u8 0, .int .i64 0] 51 (0, 0))) := qW13x9
  have B_ : Aside0 (Below w.heap.size w w9) := qW13x6
  clear HR BX B2 HB hR hK c0_ r1_
  have HR := R_
  have BX := X_
  have B2 := Y_
  have HB := B_
  clear R_ X_ Y_ B_
  have c0_ := zcf8 BX.out
  have r1_ := HR.out.cells.1
  go_wp2_with (first | fail)
  have R_ := Aside0.mk (HR.out.far (p := ⟨gx, 6, none⟩) HGX.out (.int .u8 (q % 256)))
  have X_ : Aside0 ((w9.setCell ⟨gx, 6, none⟩ (.int .u8 (q % 256))).heap[gx]? = some (.cells #[.int .u8 5, .int .u32 0, .int .u8 0, .slice none 0 0, .int .u8 (p % 256), .int .u8 0, .int .u8 (q % 256), .int .i64 0] 51 (0, 0))) := Aside0.mk (blk_set BX.out 6 _)
  have Y_ := Aside0.mk (blk_far B2.out (p := ⟨gx, 6, none⟩) qW13x4 (.int .u8 (q % 256)))
  have B_ := Aside0.mk (HB.out.setCell (p := ⟨gx, 6, none⟩) qW13x5 (.int .u8 (q % 256)))
  clear HR BX B2 HB c0_ r1_
  have HR := R_
  have BX := X_
  have B2 := Y_
  have HB := B_
  clear R_ X_ Y_ B_
  generalize w9.setCell ⟨gx, 6, none⟩ (.int .u8 (q % 256)) = w22 at *
  have c0_ := zcf8 BX.out
  have r1_ := HR.out.cells.1
  refine (rint_calls E4 hw3 HR.out).mono ?_
  rintro e w9 ⟨rfl, hR, hK⟩
  have R_ := Aside0.mk hR
  have X_ : Aside0 (w9.heap[gx]? = some (.cells #[.int .u8 5, .int .u32 0, .int .u8 0, .slice none 0 0, .int .u8 (p % 256), .int .u8 0, .int .u8 (q % 256), .int .i64 0] 51 (0, 0))) := qW13x8
  have Y_ : Aside0 (w9.heap[w.heap.size]? = some (.cells #[.int .u8 0, .int .u32 0, .int .u8 0, .slice none 0 0, .int .u8 0, .int .u8 0, .int .u8 0, .int .i64 0] 51 (0, 0))) := qW13x9
  have B_ : Aside0 (Below w.heap.size w w9) := qW13x6
  clear HR BX B2 HB hR hK c0_ r1_
  have HR := R_
  have BX := X_
  have B2 := Y_
  have HB := B_
  clear R_ X_ Y_ B_
  have c0_ := zcf8 BX.out
  have r1_ := HR.out.cells.1
  have hn1 : ¬ (w.heap.size = gx) := by have h1_ := HGX.out; have h2_ := HG2.out; omega
  have hn2 : ¬ (gx = w.heap.size) := by have h1_ := HGX.out; have h2_ := HG2.out; omega
  have hn3 : ¬ (g = gx) := by have h1_ := HGX.out; omega
  have hn4 : ¬ (gx = g) := by have h1_ := HGX.out; omega
  have hn5 : ¬ (w.heap.size = g) := by have h2_ := HG2.out; omega
  have hn6 : ¬ (g = w.heap.size) := by have h2_ := HG2.out; omega
  have d0_ := zcf8 B2.out
  obtain ⟨Ab, cb, hbk, _⟩ := HR.out
  have r0_ : w9.cell? ⟨g, 0, none⟩ = some (.slice Ab b4.length cb) := (blk_cell hbk 0).trans rfl
  clear hbk
  have BB := Aside0.mk (HB.out.setCell (p := ⟨gx, 7, none⟩) qW13x5 (.int .i64 (wrap64 x)))
  have BQ := Aside0.mk (blk_far B2.out (p := ⟨gx, 7, none⟩) qW13x4 (.int .i64 (wrap64 x)))
  by_cases hz : er4 = 0
  · subst hz
    by_cases hz : b4.length = 0
    · have hz1 : ¬ ((0 : Int) < (b4.length : Int)) := by omega
      obtain rfl : ee = 0 := by rw [HE.out]; unfold rEnd; rw [if_neg (fun h => by have h2 : 0 < b4.length := h.2; omega)]
      go_wp2_with (first | fail)
      refine bodyPost_ret (results_ct rfl _ _ w.heap.size 51 #[.int .u8 5, .int .u32 0, .int .u8 0, .slice none 0 0, .int .u8 (p % 256), .int .u8 0, .int .u8 (q % 256), .int .i64 (wrap64 x)] (0, 0) _ rfl (zQ BQ.out) Tryz.underlying51 rfl qW13x14) rfl ?_
      exact ⟨.slice none 0 0, by first | rfl | (simp [hz]; done) | (simp [HZ.out]; done), Kd.R_nil _ _ _ _ _, qW13x7⟩
    have hz1 : (0 : Int) < (b4.length : Int) := by omega
    obtain rfl : ee = 8 := by rw [HE.out]; unfold rEnd; rw [if_pos ⟨rfl, by show 0 < b4.length; omega⟩]
    go_wp2_with (first | fail)
    refine bodyPost_ret (results_ct rfl _ _ w.heap.size 51 #[.int .u8 0, .int .u32 0, .int .u8 0, .slice none 0 0, .int .u8 0, .int .u8 0, .int .u8 0, .int .i64 0] (0, 0) _ rfl (zQ BQ.out) Tryz.underlying51 rfl qW13x14) rfl ?_
    exact ⟨.slice none 0 0, by first | rfl | (simp [hz]; done) | (simp [HZ.out]; done), Kd.R_nil _ _ _ _ _, qW13x7⟩
  have hz1 : (er4 == 0) = false := beq_eq_false_iff_ne.2 hz
  have hz2 : (er4 != 0) = true := bne_iff_ne.2 hz
  obtain rfl : ee = er4 := by rw [HE.out]; unfold rEnd; rw [if_neg (fun h => hz h.1)]
  go_wp2_with (first | fail)
  have RR := Aside0.mk (HR.out.far (p := ⟨gx, 7, none⟩) HGX.out (.int .i64 (wrap64 x)))
  clear HR BX B2 HB r0_ r1_ c0_ d0_
  generalize w9.setCell ⟨gx, 7, none⟩ (.int .i64 (wrap64 x)) = w10 at *
  have d0_ := zcf8 BQ.out
  have dd0_ := zcf8 BQ.out
  have r1_ : w10.drew.cell? ⟨g, 1, none⟩ = some (.int .i64 ee) := RR.out.cells.1
  have rr1_ : w10.cell? ⟨g, 1, none⟩ = some (.int .i64 ee) := RR.out.cells.1
  go_region
  go_wp2_with (first | fail)
  refine bodyPost_ret (results_ct rfl _ _ w.heap.size 51 #[.int .u8 0, .int .u32 0, .int .u8 0, .slice none 0 0, .int .u8 0, .int .u8 0, .int .u8 0, .int .i64 0] (0, 0) _ rfl (zQ BQ.out) Tryz.underlying51 rfl qW13x14) rfl ?_
  exact ⟨.slice none 0 0, by first | rfl | (simp [hz]; done), Kd.R_nil _ _ _ _ _, qW13x10⟩
set_option maxHeartbeats 8000000 in
set_option maxRecDepth 100000 in
theorem pledgeref34_Decode.dec_p6 (A0 : Option Addr) (c0 : Nat) (bs : List Int) (hl : bs.length ≤ 1000000) (hc0 : bs.length ≤ c0) (hwf : ∀ b ∈ bs, 0 ≤ b ∧ b < 256) (w : World) (hC : Kd.C (Kd.int .u8) w A0 bs.length bs) {er1 p er2 q er3 r er4 x er5 : Int} {b1 b2 b3 b4 b5 : List Int} (E1 : gRead 1 (0, bs) = (6, (er1, b1))) (E2 : gRead 1 (er1, b1) = (p, (er2, b2))) (E3 : gRead 1 (er2, b2) = (q, (er3, b3))) (E4 : gRead 1 (er3, b3) = (r, (er4, b4))) (E5 : gRead 8 (er4, b4) = (x, (er5, b5))) (he : er1 = 0) :
    Calls Tryz.prog 28 #[.slice A0 bs.length c0] w fun e w' => ∃ v3_ : Value, e = .returned (.tuple #[.agg (if rEnd (er5, b5) = 0 then #[.int .u8 6, .int .u32 0, .int .u8 0, v3_, .int .u8 (p % 256), .int .u8 (q % 256), .int .u8 (r % 256), .int .i64 (wrap64 x)] else #[.int .u8 0, .int .u32 0, .int .u8 0, v3_, .int .u8 0, .int .u8 0, .int .u8 0, .int .i64 0]), .int .i64 (rEnd (er5, b5))]) ∧ Kd.R k90 90 w' w.heap.size (fun _ => True) v3_ [] ∧ Below w.heap.size w w' := by
  have hw1 := gRead_wf E1 hwf
  have hw2 := gRead_wf E2 hw1
  have hw3 := gRead_wf E3 hw2
  have hw4 := gRead_wf E4 hw3
  subst he
  have hkm : (6 : Int) % 256 = 6 := rfl
  obtain ⟨ee, hee⟩ : ∃ ee, ee = rEnd (er5, b5) := ⟨_, rfl⟩
  rw [← hee]
  have HE := Aside0.mk hee
  clear hee
  have HCC := Aside0.mk hC
  have HA0 := Aside0.mk (C_lt hC)
  clear hC
  go_enter Tryz.func28, Tryz.ntmps28
  go_wp2_with (first | fail)
  have B2 := qW13x3
  have HR := qW13x1
  have BX := Aside0.mk (show (((w.alloc (.cells #[.int .u8 0, .int .u32 0, .int .u8 0, .slice none 0 0, .int .u8 0, .int .u8 0, .int .u8 0, .int .i64 0] 51)).alloc (.cells #[.slice A0 bs.length c0, .int .i64 0] 97)).alloc (.cells #[.int .u8 0, .int .u32 0, .int .u8 0, .slice none 0 0, .int .u8 0, .int .u8 0, .int .u8 0, .int .i64 0] 51)).heap[w.heap.size + 1 + 1]? = some (.cells #[.int .u8 0, .int .u32 0, .int .u8 0, .slice none 0 0, .int .u8 0, .int .u8 0, .int .u8 0, .int .i64 0] 51 (0, 0)) from by have := heap_alloc_new ((w.alloc (.cells #[.int .u8 0, .int .u32 0, .int .u8 0, .slice none 0 0, .int .u8 0, .int .u8 0, .int .u8 0, .int .i64 0] 51)).alloc (.cells #[.slice A0 bs.length c0, .int .i64 0] 97)) (.cells #[.int .u8 0, .int .u32 0, .int .u8 0, .slice none 0 0, .int .u8 0, .int .u8 0, .int .u8 0, .int .i64 0] 51); simpa using this)
  have HB := qW13x2
  obtain ⟨g, hg⟩ : ∃ g, g = w.heap.size + 1 := ⟨_, rfl⟩
  have HG2 := qW13x11
  rw [← hg] at HR BX ⊢
  obtain ⟨gx, hgx⟩ : ∃ gx, gx = g + 1 := ⟨_, rfl⟩
  have HGX := qW13x13
  rw [← hgx] at BX ⊢
  clear hg hgx HCC HA0
  generalize ((w.alloc (.cells #[.int .u8 0, .int .u32 0, .int .u8 0, .slice none 0 0, .int .u8 0, .int .u8 0, .int .u8 0, .int .i64 0] 51)).alloc (.cells #[.slice A0 bs.length c0, .int .i64 0] 97)).alloc (.cells #[.int .u8 0, .int .u32 0, .int .u8 0, .slice none 0 0, .int .u8 0, .int .u8 0, .int .u8 0, .int .i64 0] 51) = w2 at *
  have r1_ := HR.out.cells.1
  have c0_ := zcf8 BX.out
  refine (rnum_calls2 (sz := 1) (size := 1) rfl E1 qW13x12 qW13x12 hwf HR.out).mono ?_
  rintro e w9 ⟨rfl, hR, hK⟩
  have R_ := Aside0.mk hR
  have X_ : Aside0 (w9.heap[gx]? = some (.cells #[.int .u8 0, .int .u32 0, .int .u8 0, .slice none 0 0, .int .u8 0, .int .u8 0, .int .u8 0, .int .i64 0] 51 (0, 0))) := qW13x8
  have Y_ : Aside0 (w9.heap[w.heap.size]? = some (.cells #[.int .u8 0, .int .u32 0, .int .u8 0, .slice none 0 0, .int .u8 0, .int .u8 0, .int .u8 0, .int .i64 0] 51 (0, 0))) := qW13x9
  have B_ : Aside0 (Below w.heap.size w w9) := qW13x6
  clear HR BX B2 HB hR hK c0_ r1_
  have HR := R_
  have BX := X_
  have B2 := Y_
  have HB := B_
  clear R_ X_ Y_ B_
  have c0_ := zcf8 BX.out
  have r1_ := HR.out.cells.1
  go_wp2_with (first | fail)
  have R_ := Aside0.mk (HR.out.far (p := ⟨gx, 0, none⟩) HGX.out (.int .u8 6))
  have X_ : Aside0 ((w9.setCell ⟨gx, 0, none⟩ (.int .u8 6)).heap[gx]? = some (.cells #[.int .u8 6, .int .u32 0, .int .u8 0, .slice none 0 0, .int .u8 0, .int .u8 0, .int .u8 0, .int .i64 0] 51 (0, 0))) := qW13x18
  have Y_ := Aside0.mk (blk_far B2.out (p := ⟨gx, 0, none⟩) qW13x4 (.int .u8 6))
  have B_ := Aside0.mk (HB.out.setCell (p := ⟨gx, 0, none⟩) qW13x5 (.int .u8 6))
  clear HR BX B2 HB c0_ r1_
  have HR := R_
  have BX := X_
  have B2 := Y_
  have HB := B_
  clear R_ X_ Y_ B_
  generalize w9.setCell ⟨gx, 0, none⟩ (.int .u8 6) = w20 at *
  have c0_ := zcf8 BX.out
  have r1_ := HR.out.cells.1
  refine (rnum_calls2 (sz := 1) (size := 1) rfl E2 qW13x12 qW13x12 hw1 HR.out).mono ?_
  rintro e w9 ⟨rfl, hR, hK⟩
  have R_ := Aside0.mk hR
  have X_ : Aside0 (w9.heap[gx]? = some (.cells #[.int .u8 6, .int .u32 0, .int .u8 0, .slice none 0 0, .int .u8 0, .int .u8 0, .int .u8 0, .int .i64 0] 51 (0, 0))) := qW13x8
  have Y_ : Aside0 (w9.heap[w.heap.size]? = some (.cells #[.int .u8 0, .int .u32 0, .int .u8 0, .slice none 0 0, .int .u8 0, .int .u8 0, .int .u8 0, .int .i64 0] 51 (0, 0))) := qW13x9
  have B_ : Aside0 (Below w.heap.size w w9) := qW13x6
  clear HR BX B2 HB hR hK c0_ r1_
  have HR := R_
  have BX := X_
  have B2 := Y_
  have HB := B_
  clear R_ X_ Y_ B_
  have c0_ := zcf8 BX.out
  have r1_ := HR.out.cells.1
  go_wp2_with (first | fail)
  have R_ := qW13x17
  have X_ : Aside0 ((w9.setCell ⟨gx, 4, none⟩ (.int .u8 (p % 256))).heap[gx]? = some (.cells #[.int .u8 6, .int .u32 0, .int .u8 0, .slice none 0 0, .int .u8 (p % 256), .int .u8 0, .int .u8 0, .int .i64 0] 51 (0, 0))) := Aside0.mk (blk_set BX.out 4 _)
  have Y_ := qW13x16
  have B_ := qW13x15
  clear HR BX B2 HB c0_ r1_
  have HR := R_
  have BX := X_
  have B2 := Y_
  have HB := B_
  clear R_ X_ Y_ B_
  generalize w9.setCell ⟨gx, 4, none⟩ (.int .u8 (p % 256)) = w21 at *
  have c0_ := zcf8 BX.out
  have r1_ := HR.out.cells.1
  refine (rnum_calls2 (sz := 1) (size := 1) rfl E3 qW13x12 qW13x12 hw2 HR.out).mono ?_
  rintro e w9 ⟨rfl, hR, hK⟩
  have R_ := Aside0.mk hR
  have X_ : Aside0 (w9.heap[gx]? = some (.cells #[.int .u8 6, .int .u32 0, .int .u8 0, .slice none 0 0, .int .u8 (p % 256), .int .u8 0, .int .u8 0, .int .i64 0] 51 (0, 0))) := qW13x8
  have Y_ : Aside0 (w9.heap[w.heap.size]? = some (.cells #[.int .u8 0, .int .u32 0, .int .u8 0, .slice none 0 0, .int .u8 0, .int .u8 0, .int .u8 0, .int .i64 0] 51 (0, 0))) := qW13x9
  have B_ : Aside0 (Below w.heap.size w w9) := qW13x6
  clear HR BX B2 HB hR hK c0_ r1_
  have HR := R_
  have BX := X_
  have B2 := Y_
  have HB := B_
  clear R_ X_ Y_ B_
  have c0_ := zcf8 BX.out
  have r1_ := HR.out.cells.1
  go_wp2_with (first | fail)
  have R_ := Aside0.mk (HR.out.far (p := ⟨gx, 5, none⟩) HGX.out (.int .u8 (q % 256)))
  have X_ : Aside0 ((w9.setCell ⟨gx, 5, none⟩ (.int .u8 (q % 256))).heap[gx]? = some (.cells #[.int .u8 6, .int .u32 0, .int .u8 0, .slice none 0 0, .int .u8 (p % 256), .int .u8 (q % 256), .int .u8 0, .int .i64 0] 51 (0, 0))) := Aside0.mk (blk_set BX.out 5 _)
  have Y_ := Aside0.mk (blk_far B2.out (p := ⟨gx, 5, none⟩) qW13x4 (.int .u8 (q % 256)))
  have B_ := Aside0.mk (HB.out.setCell (p := ⟨gx, 5, none⟩) qW13x5 (.int .u8 (q % 256)))
  clear HR BX B2 HB c0_ r1_
  have HR := R_
  have BX := X_
  have B2 := Y_
  have HB := B_
  clear R_ X_ Y_ B_
  generalize w9.setCell ⟨gx, 5, none⟩ (.int .u8 (q % 256)) = w22 at *
  have c0_ := zcf8 BX.out
  have r1_ := HR.out.cells.1
  refine (rnum_calls2 (sz := 1) (size := 1) rfl E4 qW13x12 qW13x12 hw3 HR.out).mono ?_
  rintro e w9 ⟨rfl, hR, hK⟩
  have R_ := Aside0.mk hR
  have X_ : Aside0 (w9.heap[gx]? = some (.cells #[.int .u8 6, .int .u32 0, .int .u8 0, .slice none 0 0, .int .u8 (p % 256), .int .u8 (q % 256), .int .u8 0, .int .i64 0] 51 (0, 0))) := qW13x8
  have Y_ : Aside0 (w9.heap[w.heap.size]? = some (.cells #[.int .u8 0, .int .u32 0, .int .u8 0, .slice none 0 0, .int .u8 0, .int .u8 0, .int .u8 0, .int .i64 0] 51 (0, 0))) := qW13x9
  have B_ : Aside0 (Below w.heap.size w w9) := qW13x6
  clear HR BX B2 HB hR hK c0_ r1_
  have HR := R_
  have BX := X_
  have B2 := Y_
  have HB := B_
  clear R_ X_ Y_ B_
  have c0_ := zcf8 BX.out
  have r1_ := HR.out.cells.1
  go_wp2_with (first | fail)
  have R_ := Aside0.mk (HR.out.far (p := ⟨gx, 6, none⟩) HGX.out (.int .u8 (r % 256)))
  have X_ : Aside0 ((w9.setCell ⟨gx, 6, none⟩ (.int .u8 (r % 256))).heap[gx]? = some (.cells #[.int .u8 6, .int .u32 0, .int .u8 0, .slice none 0 0, .int .u8 (p % 256), .int .u8 (q % 256), .int .u8 (r % 256), .int .i64 0] 51 (0, 0))) := Aside0.mk (blk_set BX.out 6 _)
  have Y_ := Aside0.mk (blk_far B2.out (p := ⟨gx, 6, none⟩) qW13x4 (.int .u8 (r % 256)))
  have B_ := Aside0.mk (HB.out.setCell (p := ⟨gx, 6, none⟩) qW13x5 (.int .u8 (r % 256)))
  clear HR BX B2 HB c0_ r1_
  have HR := R_
  have BX := X_
  have B2 := Y_
  have HB := B_
  clear R_ X_ Y_ B_
  generalize w9.setCell ⟨gx, 6, none⟩ (.int .u8 (r % 256)) = w23 at *
  have c0_ := zcf8 BX.out
  have r1_ := HR.out.cells.1
  refine (rint_calls E5 hw4 HR.out).mono ?_
  rintro e w9 ⟨rfl, hR, hK⟩
  have R_ := Aside0.mk hR
  have X_ : Aside0 (w9.heap[gx]? = some (.cells #[.int .u8 6, .int .u32 0, .int .u8 0, .slice none 0 0, .int .u8 (p % 256), .int .u8 (q % 256), .int .u8 (r % 256), .int .i64 0] 51 (0, 0))) := qW13x8
  have Y_ : Aside0 (w9.heap[w.heap.size]? = some (.cells #[.int .u8 0, .int .u32 0, .int .u8 0, .slice none 0 0, .int .u8 0, .int .u8 0, .int .u8 0, .int .i64 0] 51 (0, 0))) := qW13x9
  have B_ : Aside0 (Below w.heap.size w w9) := qW13x6
  clear HR BX B2 HB hR hK c0_ r1_
  have HR := R_
  have BX := X_
  have B2 := Y_
  have HB := B_
  clear R_ X_ Y_ B_
  have c0_ := zcf8 BX.out
  have r1_ := HR.out.cells.1
  have hn1 : ¬ (w.heap.size = gx) := by have h1_ := HGX.out; have h2_ := HG2.out; omega
  have hn2 : ¬ (gx = w.heap.size) := by have h1_ := HGX.out; have h2_ := HG2.out; omega
  have hn3 : ¬ (g = gx) := by have h1_ := HGX.out; omega
  have hn4 : ¬ (gx = g) := by have h1_ := HGX.out; omega
  have hn5 : ¬ (w.heap.size = g) := by have h2_ := HG2.out; omega
  have hn6 : ¬ (g = w.heap.size) := by have h2_ := HG2.out; omega
  have d0_ := zcf8 B2.out
  obtain ⟨Ab, cb, hbk, _⟩ := HR.out
  have r0_ : w9.cell? ⟨g, 0, none⟩ = some (.slice Ab b5.length cb) := (blk_cell hbk 0).trans rfl
  clear hbk
  have BB := Aside0.mk (HB.out.setCell (p := ⟨gx, 7, none⟩) qW13x5 (.int .i64 (wrap64 x)))
  have BQ := Aside0.mk (blk_far B2.out (p := ⟨gx, 7, none⟩) qW13x4 (.int .i64 (wrap64 x)))
  by_cases hz : er5 = 0
  · subst hz
    by_cases hz : b5.length = 0
    · have hz1 : ¬ ((0 : Int) < (b5.length : Int)) := by omega
      obtain rfl : ee = 0 := by rw [HE.out]; unfold rEnd; rw [if_neg (fun h => by have h2 : 0 < b5.length := h.2; omega)]
      go_wp2_with (first | fail)
      refine bodyPost_ret (results_ct rfl _ _ w.heap.size 51 #[.int .u8 6, .int .u32 0, .int .u8 0, .slice none 0 0, .int .u8 (p % 256), .int .u8 (q % 256), .int .u8 (r % 256), .int .i64 (wrap64 x)] (0, 0) _ rfl (zQ BQ.out) Tryz.underlying51 rfl qW13x14) rfl ?_
      exact ⟨.slice none 0 0, by first | rfl | (simp [hz]; done) | (simp [HZ.out]; done), Kd.R_nil _ _ _ _ _, qW13x7⟩
    have hz1 : (0 : Int) < (b5.length : Int) := by omega
    obtain rfl : ee = 8 := by rw [HE.out]; unfold rEnd; rw [if_pos ⟨rfl, by show 0 < b5.length; omega⟩]
    go_wp2_with (first | fail)
    refine bodyPost_ret (results_ct rfl _ _ w.heap.size 51 #[.int .u8 0, .int .u32 0, .int .u8 0, .slice none 0 0, .int .u8 0, .int .u8 0, .int .u8 0, .int .i64 0] (0, 0) _ rfl (zQ BQ.out) Tryz.underlying51 rfl qW13x14) rfl ?_
    exact ⟨.slice none 0 0, by first | rfl | (simp [hz]; done) | (simp [HZ.out]; done), Kd.R_nil _ _ _ _ _, qW13x7⟩
  have hz1 : (er5 == 0) = false := beq_eq_false_iff_ne.2 hz
  have hz2 : (er5 != 0) = true := bne_iff_ne.2 hz
  obtain rfl : ee = er5 := by rw [HE.out]; unfold rEnd; rw [if_neg (fun h => hz h.1)]
  go_wp2_with (first | fail)
  have RR := Aside0.mk (HR.out.far (p := ⟨gx, 7, none⟩) HGX.out (.int .i64 (wrap64 x)))
  clear HR BX B2 HB r0_ r1_ c0_ d0_
  generalize w9.setCell ⟨gx, 7, none⟩ (.int .i64 (wrap64 x)) = w10 at *
  have d0_ := zcf8 BQ.out
  have dd0_ := zcf8 BQ.out
  have r1_ : w10.drew.cell? ⟨g, 1, none⟩ = some (.int .i64 ee) := RR.out.cells.1
  have rr1_ : w10.cell? ⟨g, 1, none⟩ = some (.int .i64 ee) := RR.out.cells.1
  go_region
  go_wp2_with (first | fail)
  refine bodyPost_ret (results_ct rfl _ _ w.heap.size 51 #[.int .u8 0, .int .u32 0, .int .u8 0, .slice none 0 0, .int .u8 0, .int .u8 0, .int .u8 0, .int .i64 0] (0, 0) _ rfl (zQ BQ.out) Tryz.underlying51 rfl qW13x14) rfl ?_
  exact ⟨.slice none 0 0, by first | rfl | (simp [hz]; done), Kd.R_nil _ _ _ _ _, qW13x10⟩
set_option maxHeartbeats 8000000 in
set_option maxRecDepth 100000 in
theorem pledgeref34_Decode.dec_p0 (A0 : Option Addr) (c0 : Nat) (bs : List Int) (hl : bs.length ≤ 1000000) (hc0 : bs.length ≤ c0) (hwf : ∀ b ∈ bs, 0 ≤ b ∧ b < 256) (w : World) (hC : Kd.C (Kd.int .u8) w A0 bs.length bs) {er1 : Int} {b1 : List Int} (E1 : gRead 1 (0, bs) = (0, (er1, b1))) (he : er1 ≠ 0) :
    Calls Tryz.prog 28 #[.slice A0 bs.length c0] w fun e w' => ∃ v3_ : Value, e = .returned (.tuple #[.agg (#[.int .u8 0, .int .u32 0, .int .u8 0, v3_, .int .u8 0, .int .u8 0, .int .u8 0, .int .i64 0]), .int .i64 er1]) ∧ Kd.R k90 90 w' w.heap.size (fun _ => True) v3_ [] ∧ Below w.heap.size w w' := by
  have hw1 := gRead_wf E1 hwf
  have E2 : gRead 4 (er1, b1) = (0, (er1, b1)) := by simp [gRead, he]
  have heb : (er1 == 0) = false := beq_eq_false_iff_ne.2 he
  have hz := he
  have hz2 : (er1 != 0) = true := bne_iff_ne.2 hz
  have HCC := Aside0.mk hC
  have HA0 := Aside0.mk (C_lt hC)
  clear hC
  go_enter Tryz.func28, Tryz.ntmps28
  go_wp2_with (first | fail)
  have B2 := qW13x3
  have HR := qW13x1
  have BX := Aside0.mk (show (((w.alloc (.cells #[.int .u8 0, .int .u32 0, .int .u8 0, .slice none 0 0, .int .u8 0, .int .u8 0, .int .u8 0, .int .i64 0] 51)).alloc (.cells #[.slice A0 bs.length c0, .int .i64 0] 97)).alloc (.cells #[.int .u8 0, .int .u32 0, .int .u8 0, .slice none 0 0, .int .u8 0, .int .u8 0, .int .u8 0, .int .i64 0] 51)).heap[w.heap.size + 1 + 1]? = some (.cells #[.int .u8 0, .int .u32 0, .int .u8 0, .slice none 0 0, .int .u8 0, .int .u8 0, .int .u8 0, .int .i64 0] 51 (0, 0)) from by have := heap_alloc_new ((w.alloc (.cells #[.int .u8 0, .int .u32 0, .int .u8 0, .slice none 0 0, .int .u8 0, .int .u8 0, .int .u8 0, .int .i64 0] 51)).alloc (.cells #[.slice A0 bs.length c0, .int .i64 0] 97)) (.cells #[.int .u8 0, .int .u32 0, .int .u8 0, .slice none 0 0, .int .u8 0, .int .u8 0, .int .u8 0, .int .i64 0] 51); simpa using this)
  have HB := qW13x2
  obtain ⟨g, hg⟩ : ∃ g, g = w.heap.size + 1 := ⟨_, rfl⟩
  have HG2 := qW13x11
  rw [← hg] at HR BX ⊢
  obtain ⟨gx, hgx⟩ : ∃ gx, gx = g + 1 := ⟨_, rfl⟩
  have HGX := qW13x13
  rw [← hgx] at BX ⊢
  clear hg hgx HCC HA0
  generalize ((w.alloc (.cells #[.int .u8 0, .int .u32 0, .int .u8 0, .slice none 0 0, .int .u8 0, .int .u8 0, .int .u8 0, .int .i64 0] 51)).alloc (.cells #[.slice A0 bs.length c0, .int .i64 0] 97)).alloc (.cells #[.int .u8 0, .int .u32 0, .int .u8 0, .slice none 0 0, .int .u8 0, .int .u8 0, .int .u8 0, .int .i64 0] 51) = w2 at *
  have r1_ := HR.out.cells.1
  have c0_ := zcf8 BX.out
  refine (rnum_calls2 (sz := 1) (size := 1) rfl E1 qW13x12 qW13x12 hwf HR.out).mono ?_
  rintro e w9 ⟨rfl, hR, hK⟩
  have R_ := Aside0.mk hR
  have X_ : Aside0 (w9.heap[gx]? = some (.cells #[.int .u8 0, .int .u32 0, .int .u8 0, .slice none 0 0, .int .u8 0, .int .u8 0, .int .u8 0, .int .i64 0] 51 (0, 0))) := qW13x8
  have Y_ : Aside0 (w9.heap[w.heap.size]? = some (.cells #[.int .u8 0, .int .u32 0, .int .u8 0, .slice none 0 0, .int .u8 0, .int .u8 0, .int .u8 0, .int .i64 0] 51 (0, 0))) := qW13x9
  have B_ : Aside0 (Below w.heap.size w w9) := qW13x6
  clear HR BX B2 HB hR hK c0_ r1_
  have HR := R_
  have BX := X_
  have B2 := Y_
  have HB := B_
  clear R_ X_ Y_ B_
  have c0_ := zcf8 BX.out
  have r1_ := HR.out.cells.1
  go_wp2_with (first | fail)
  have R_ := Aside0.mk (HR.out.far (p := ⟨gx, 0, none⟩) HGX.out (.int .u8 0))
  have X_ : Aside0 ((w9.setCell ⟨gx, 0, none⟩ (.int .u8 0)).heap[gx]? = some (.cells #[.int .u8 0, .int .u32 0, .int .u8 0, .slice none 0 0, .int .u8 0, .int .u8 0, .int .u8 0, .int .i64 0] 51 (0, 0))) := qW13x18
  have Y_ := Aside0.mk (blk_far B2.out (p := ⟨gx, 0, none⟩) qW13x4 (.int .u8 0))
  have B_ := Aside0.mk (HB.out.setCell (p := ⟨gx, 0, none⟩) qW13x5 (.int .u8 0))
  clear HR BX B2 HB c0_ r1_
  have HR := R_
  have BX := X_
  have B2 := Y_
  have HB := B_
  clear R_ X_ Y_ B_
  generalize w9.setCell ⟨gx, 0, none⟩ (.int .u8 0) = w20 at *
  have c0_ := zcf8 BX.out
  have r1_ := HR.out.cells.1
  refine (rnum_calls2 (sz := 4) (size := 4) rfl E2 qW13x12 qW13x12 hw1 HR.out).mono ?_
  rintro e w9 ⟨rfl, hR, hK⟩
  have R_ := Aside0.mk hR
  have X_ : Aside0 (w9.heap[gx]? = some (.cells #[.int .u8 0, .int .u32 0, .int .u8 0, .slice none 0 0, .int .u8 0, .int .u8 0, .int .u8 0, .int .i64 0] 51 (0, 0))) := qW13x8
  have Y_ : Aside0 (w9.heap[w.heap.size]? = some (.cells #[.int .u8 0, .int .u32 0, .int .u8 0, .slice none 0 0, .int .u8 0, .int .u8 0, .int .u8 0, .int .i64 0] 51 (0, 0))) := qW13x9
  have B_ : Aside0 (Below w.heap.size w w9) := qW13x6
  clear HR BX B2 HB hR hK c0_ r1_
  have HR := R_
  have BX := X_
  have B2 := Y_
  have HB := B_
  clear R_ X_ Y_ B_
  have c0_ := zcf8 BX.out
  have r1_ := HR.out.cells.1
  have hn1 : ¬ (w.heap.size = gx) := by have h1_ := HGX.out; have h2_ := HG2.out; omega
  have hn2 : ¬ (gx = w.heap.size) := by have h1_ := HGX.out; have h2_ := HG2.out; omega
  have hn3 : ¬ (g = gx) := by have h1_ := HGX.out; omega
  have hn4 : ¬ (gx = g) := by have h1_ := HGX.out; omega
  have hn5 : ¬ (w.heap.size = g) := by have h2_ := HG2.out; omega
  have hn6 : ¬ (g = w.heap.size) := by have h2_ := HG2.out; omega
  have d0_ := zcf8 B2.out
  obtain ⟨Ab, cb, hbk, _⟩ := HR.out
  have r0_ : w9.cell? ⟨g, 0, none⟩ = some (.slice Ab b1.length cb) := (blk_cell hbk 0).trans rfl
  clear hbk
  have BB := Aside0.mk (HB.out.setCell (p := ⟨gx, 1, none⟩) qW13x5 (.int .u32 0))
  have BQ := Aside0.mk (blk_far B2.out (p := ⟨gx, 1, none⟩) qW13x4 (.int .u32 0))
  go_wp2_with (first | fail)
  have RR := Aside0.mk (HR.out.far (p := ⟨gx, 1, none⟩) HGX.out (.int .u32 0))
  clear HR BX B2 HB r0_ r1_ c0_ d0_
  generalize w9.setCell ⟨gx, 1, none⟩ (.int .u32 0) = w10 at *
  have d0_ := zcf8 BQ.out
  have dd0_ := zcf8 BQ.out
  have r1_ : w10.drew.cell? ⟨g, 1, none⟩ = some (.int .i64 er1) := RR.out.cells.1
  have rr1_ : w10.cell? ⟨g, 1, none⟩ = some (.int .i64 er1) := RR.out.cells.1
  go_region
  go_wp2_with (first | fail)
  refine bodyPost_ret (results_ct rfl _ _ w.heap.size 51 #[.int .u8 0, .int .u32 0, .int .u8 0, .slice none 0 0, .int .u8 0, .int .u8 0, .int .u8 0, .int .i64 0] (0, 0) _ rfl (zQ BQ.out) Tryz.underlying51 rfl qW13x14) rfl ?_
  exact ⟨.slice none 0 0, by first | rfl | (simp [hz]; done), Kd.R_nil _ _ _ _ _, qW13x10⟩
set_option maxHeartbeats 8000000 in
set_option maxRecDepth 100000 in
theorem pledgeref34_Decode.dec_pbad (A0 : Option Addr) (c0 : Nat) (bs : List Int) (hl : bs.length ≤ 1000000) (hc0 : bs.length ≤ c0) (hwf : ∀ b ∈ bs, 0 ≤ b ∧ b < 256) (w : World) (hC : Kd.C (Kd.int .u8) w A0 bs.length bs) {k er1 : Int} {b1 : List Int} (E1 : gRead 1 (0, bs) = (k, (er1, b1))) (he : er1 = 0) (hk0 : 0 ≤ k) (hk1 : k < 256) (hk : k < 1 ∨ 7 < k) :
    Calls Tryz.prog 28 #[.slice A0 bs.length c0] w fun e w' => ∃ v3_ : Value, e = .returned (.tuple #[.agg (#[.int .u8 0, .int .u32 0, .int .u8 0, v3_, .int .u8 0, .int .u8 0, .int .u8 0, .int .i64 0]), .int .i64 8]) ∧ Kd.R k90 90 w' w.heap.size (fun _ => True) v3_ [] ∧ Below w.heap.size w w' := by
  subst he
  have hku : IntKind.u8.wrap k = k := by rw [IntKind.wrap_u8]; omega
  have hkm : k % 256 = k := by omega
  have HCC := Aside0.mk hC
  have HA0 := Aside0.mk (C_lt hC)
  clear hC
  go_enter Tryz.func28, Tryz.ntmps28
  go_wp2_with (first | fail)
  have B2 := qW13x3
  have HR := qW13x1
  have BX := Aside0.mk (show (((w.alloc (.cells #[.int .u8 0, .int .u32 0, .int .u8 0, .slice none 0 0, .int .u8 0, .int .u8 0, .int .u8 0, .int .i64 0] 51)).alloc (.cells #[.slice A0 bs.length c0, .int .i64 0] 97)).alloc (.cells #[.int .u8 0, .int .u32 0, .int .u8 0, .slice none 0 0, .int .u8 0, .int .u8 0, .int .u8 0, .int .i64 0] 51)).heap[w.heap.size + 1 + 1]? = some (.cells #[.int .u8 0, .int .u32 0, .int .u8 0, .slice none 0 0, .int .u8 0, .int .u8 0, .int .u8 0, .int .i64 0] 51 (0, 0)) from by have := heap_alloc_new ((w.alloc (.cells #[.int .u8 0, .int .u32 0, .int .u8 0, .slice none 0 0, .int .u8 0, .int .u8 0, .int .u8 0, .int .i64 0] 51)).alloc (.cells #[.slice A0 bs.length c0, .int .i64 0] 97)) (.cells #[.int .u8 0, .int .u32 0, .int .u8 0, .slice none 0 0, .int .u8 0, .int .u8 0, .int .u8 0, .int .i64 0] 51); simpa using this)
  have HB := qW13x2
  obtain ⟨g, hg⟩ : ∃ g, g = w.heap.size + 1 := ⟨_, rfl⟩
  have HG2 := qW13x11
  rw [← hg] at HR BX ⊢
  obtain ⟨gx, hgx⟩ : ∃ gx, gx = g + 1 := ⟨_, rfl⟩
  have HGX := qW13x13
  rw [← hgx] at BX ⊢
  clear hg hgx HCC HA0
  generalize ((w.alloc (.cells #[.int .u8 0, .int .u32 0, .int .u8 0, .slice none 0 0, .int .u8 0, .int .u8 0, .int .u8 0, .int .i64 0] 51)).alloc (.cells #[.slice A0 bs.length c0, .int .i64 0] 97)).alloc (.cells #[.int .u8 0, .int .u32 0, .int .u8 0, .slice none 0 0, .int .u8 0, .int .u8 0, .int .u8 0, .int .i64 0] 51) = w2 at *
  have r1_ := HR.out.cells.1
  have c0_ := zcf8 BX.out
  refine (rnum_calls2 (sz := 1) (size := 1) rfl E1 qW13x12 qW13x12 hwf HR.out).mono ?_
  rintro e w9 ⟨rfl, hR, hK⟩
  have R_ := Aside0.mk hR
  have X_ : Aside0 (w9.heap[gx]? = some (.cells #[.int .u8 0, .int .u32 0, .int .u8 0, .slice none 0 0, .int .u8 0, .int .u8 0, .int .u8 0, .int .i64 0] 51 (0, 0))) := qW13x8
  have Y_ : Aside0 (w9.heap[w.heap.size]? = some (.cells #[.int .u8 0, .int .u32 0, .int .u8 0, .slice none 0 0, .int .u8 0, .int .u8 0, .int .u8 0, .int .i64 0] 51 (0, 0))) := qW13x9
  have B_ : Aside0 (Below w.heap.size w w9) := qW13x6
  clear HR BX B2 HB hR hK c0_ r1_
  have HR := R_
  have BX := X_
  have B2 := Y_
  have HB := B_
  clear R_ X_ Y_ B_
  have c0_ := zcf8 BX.out
  have r1_ := HR.out.cells.1
  have hn1 : ¬ (w.heap.size = gx) := by have h1_ := HGX.out; have h2_ := HG2.out; omega
  have hn2 : ¬ (gx = w.heap.size) := by have h1_ := HGX.out; have h2_ := HG2.out; omega
  have hn3 : ¬ (g = gx) := by have h1_ := HGX.out; omega
  have hn4 : ¬ (gx = g) := by have h1_ := HGX.out; omega
  have hn5 : ¬ (w.heap.size = g) := by have h2_ := HG2.out; omega
  have hn6 : ¬ (g = w.heap.size) := by have h2_ := HG2.out; omega
  have d0_ := zcf8 B2.out
  obtain ⟨Ab, cb, hbk, _⟩ := HR.out
  have r0_ : w9.cell? ⟨g, 0, none⟩ = some (.slice Ab b1.length cb) := (blk_cell hbk 0).trans rfl
  clear hbk
  have BB := Aside0.mk (HB.out.setCell (p := ⟨gx, 0, none⟩) qW13x5 (.int .u8 k))
  have BQ := Aside0.mk (blk_far B2.out (p := ⟨gx, 0, none⟩) qW13x4 (.int .u8 k))
  by_cases k1 : k < 1
  · have k7 : ¬ (7 < k) := by omega
    go_wp2_with (first | fail)
    refine bodyPost_ret (results_ct rfl _ _ w.heap.size 51 #[.int .u8 0, .int .u32 0, .int .u8 0, .slice none 0 0, .int .u8 0, .int .u8 0, .int .u8 0, .int .i64 0] (0, 0) _ rfl (zQ BQ.out) Tryz.underlying51 rfl qW13x14) rfl ?_
    exact ⟨.slice none 0 0, by first | rfl | (simp [hz]; done) | (simp [HZ.out]; done), Kd.R_nil _ _ _ _ _, qW13x7⟩
  have k7 : 7 < k := by omega
  go_wp2_with (first | fail)
  refine bodyPost_ret (results_ct rfl _ _ w.heap.size 51 #[.int .u8 0, .int .u32 0, .int .u8 0, .slice none 0 0, .int .u8 0, .int .u8 0, .int .u8 0, .int .i64 0] (0, 0) _ rfl (zQ BQ.out) Tryz.underlying51 rfl qW13x14) rfl ?_
  exact ⟨.slice none 0 0, by first | rfl | (simp [hz]; done) | (simp [HZ.out]; done), Kd.R_nil _ _ _ _ _, qW13x7⟩
theorem pledgeref34_Decode.lines_calls2 {g : Nat} {er : Int} {b : List Int} {ls : List S90} {e : Int} {l : List Int} (hq : pledgeref34_Decode.gLines (gCount (er, b)).1.toNat (gCount (er, b)).2 = (ls, (e, l))) (hall : ∀ x ∈ b, 0 ≤ x ∧ x < 256) {w : World} (h : RAt w g er b) :
    Calls Tryz.prog 59 #[.pointer (some ⟨g, 0, none⟩)] w fun r w' => ∃ v, r = .returned v ∧ Kd.R k90 90 w' w.heap.size (fun _ => True) v ls ∧ RAt w' g e l ∧ KeptBut g w w' := by
  have := pledgeref34_Decode.lines_calls g er b hall w h
  rw [hq] at this
  exact this
set_option maxHeartbeats 8000000 in
set_option maxRecDepth 100000 in
theorem pledgeref34_Decode.dec_p1 (A0 : Option Addr) (c0 : Nat) (bs : List Int) (hl : bs.length ≤ 1000000) (hc0 : bs.length ≤ c0) (hwf : ∀ b ∈ bs, 0 ≤ b ∧ b < 256) (w : World) (hC : Kd.C (Kd.int .u8) w A0 bs.length bs) {er1 o er2 p er3 er4 : Int} {b1 b2 b3 b4 : List Int} {ls : List S90} (E1 : gRead 1 (0, bs) = (1, (er1, b1))) (E2 : gRead 4 (er1, b1) = (o, (er2, b2))) (E3 : gRead 1 (er2, b2) = (p, (er3, b3))) (hL : pledgeref34_Decode.gLines (gCount (er3, b3)).1.toNat (gCount (er3, b3)).2 = (ls, (er4, b4))) (he : er1 = 0) :
    Calls Tryz.prog 28 #[.slice A0 bs.length c0] w fun e w' => ∃ v3_ : Value, e = .returned (.tuple #[.agg (if rEnd (er4, b4) = 0 then #[.int .u8 1, .int .u32 (o % 4294967296), .int .u8 (p % 256), v3_, .int .u8 0, .int .u8 0, .int .u8 0, .int .i64 0] else #[.int .u8 0, .int .u32 0, .int .u8 0, v3_, .int .u8 0, .int .u8 0, .int .u8 0, .int .i64 0]), .int .i64 (rEnd (er4, b4))]) ∧ Kd.R k90 90 w' w.heap.size (fun _ => True) v3_ (if rEnd (er4, b4) = 0 then ls else []) ∧ Below w.heap.size w w' := by
  have hw1 := gRead_wf E1 hwf
  have hw2 := gRead_wf E2 hw1
  have hw3 := gRead_wf E3 hw2
  subst he
  have hkm : (1 : Int) % 256 = 1 := rfl
  obtain ⟨ee, hee⟩ : ∃ ee, ee = rEnd (er4, b4) := ⟨_, rfl⟩
  rw [← hee]
  have HE := Aside0.mk hee
  clear hee
  have HLA := Aside0.mk hL
  clear hL
  have HCC := Aside0.mk hC
  have HA0 := Aside0.mk (C_lt hC)
  clear hC
  go_enter Tryz.func28, Tryz.ntmps28
  go_wp2_with (first | fail)
  have B2 := qW13x3
  have HR := qW13x1
  have BX := Aside0.mk (show (((w.alloc (.cells #[.int .u8 0, .int .u32 0, .int .u8 0, .slice none 0 0, .int .u8 0, .int .u8 0, .int .u8 0, .int .i64 0] 51)).alloc (.cells #[.slice A0 bs.length c0, .int .i64 0] 97)).alloc (.cells #[.int .u8 0, .int .u32 0, .int .u8 0, .slice none 0 0, .int .u8 0, .int .u8 0, .int .u8 0, .int .i64 0] 51)).heap[w.heap.size + 1 + 1]? = some (.cells #[.int .u8 0, .int .u32 0, .int .u8 0, .slice none 0 0, .int .u8 0, .int .u8 0, .int .u8 0, .int .i64 0] 51 (0, 0)) from by have := heap_alloc_new ((w.alloc (.cells #[.int .u8 0, .int .u32 0, .int .u8 0, .slice none 0 0, .int .u8 0, .int .u8 0, .int .u8 0, .int .i64 0] 51)).alloc (.cells #[.slice A0 bs.length c0, .int .i64 0] 97)) (.cells #[.int .u8 0, .int .u32 0, .int .u8 0, .slice none 0 0, .int .u8 0, .int .u8 0, .int .u8 0, .int .i64 0] 51); simpa using this)
  have HB := qW13x2
  obtain ⟨g, hg⟩ : ∃ g, g = w.heap.size + 1 := ⟨_, rfl⟩
  have HG2 := qW13x11
  rw [← hg] at HR BX ⊢
  obtain ⟨gx, hgx⟩ : ∃ gx, gx = g + 1 := ⟨_, rfl⟩
  have HGX := qW13x13
  rw [← hgx] at BX ⊢
  clear hg hgx HCC HA0
  generalize ((w.alloc (.cells #[.int .u8 0, .int .u32 0, .int .u8 0, .slice none 0 0, .int .u8 0, .int .u8 0, .int .u8 0, .int .i64 0] 51)).alloc (.cells #[.slice A0 bs.length c0, .int .i64 0] 97)).alloc (.cells #[.int .u8 0, .int .u32 0, .int .u8 0, .slice none 0 0, .int .u8 0, .int .u8 0, .int .u8 0, .int .i64 0] 51) = w2 at *
  have r1_ := HR.out.cells.1
  have c0_ := zcf8 BX.out
  refine (rnum_calls2 (sz := 1) (size := 1) rfl E1 qW13x12 qW13x12 hwf HR.out).mono ?_
  rintro e w9 ⟨rfl, hR, hK⟩
  have R_ := Aside0.mk hR
  have X_ : Aside0 (w9.heap[gx]? = some (.cells #[.int .u8 0, .int .u32 0, .int .u8 0, .slice none 0 0, .int .u8 0, .int .u8 0, .int .u8 0, .int .i64 0] 51 (0, 0))) := qW13x8
  have Y_ : Aside0 (w9.heap[w.heap.size]? = some (.cells #[.int .u8 0, .int .u32 0, .int .u8 0, .slice none 0 0, .int .u8 0, .int .u8 0, .int .u8 0, .int .i64 0] 51 (0, 0))) := qW13x9
  have B_ : Aside0 (Below w.heap.size w w9) := qW13x6
  clear HR BX B2 HB hR hK c0_ r1_
  have HR := R_
  have BX := X_
  have B2 := Y_
  have HB := B_
  clear R_ X_ Y_ B_
  have c0_ := zcf8 BX.out
  have r1_ := HR.out.cells.1
  go_wp2_with (first | fail)
  have R_ := Aside0.mk (HR.out.far (p := ⟨gx, 0, none⟩) HGX.out (.int .u8 1))
  have X_ : Aside0 ((w9.setCell ⟨gx, 0, none⟩ (.int .u8 1)).heap[gx]? = some (.cells #[.int .u8 1, .int .u32 0, .int .u8 0, .slice none 0 0, .int .u8 0, .int .u8 0, .int .u8 0, .int .i64 0] 51 (0, 0))) := qW13x18
  have Y_ := Aside0.mk (blk_far B2.out (p := ⟨gx, 0, none⟩) qW13x4 (.int .u8 1))
  have B_ := Aside0.mk (HB.out.setCell (p := ⟨gx, 0, none⟩) qW13x5 (.int .u8 1))
  clear HR BX B2 HB c0_ r1_
  have HR := R_
  have BX := X_
  have B2 := Y_
  have HB := B_
  clear R_ X_ Y_ B_
  generalize w9.setCell ⟨gx, 0, none⟩ (.int .u8 1) = w20 at *
  have c0_ := zcf8 BX.out
  have r1_ := HR.out.cells.1
  refine (rnum_calls2 (sz := 4) (size := 4) rfl E2 qW13x12 qW13x12 hw1 HR.out).mono ?_
  rintro e w9 ⟨rfl, hR, hK⟩
  have R_ := Aside0.mk hR
  have X_ : Aside0 (w9.heap[gx]? = some (.cells #[.int .u8 1, .int .u32 0, .int .u8 0, .slice none 0 0, .int .u8 0, .int .u8 0, .int .u8 0, .int .i64 0] 51 (0, 0))) := qW13x8
  have Y_ : Aside0 (w9.heap[w.heap.size]? = some (.cells #[.int .u8 0, .int .u32 0, .int .u8 0, .slice none 0 0, .int .u8 0, .int .u8 0, .int .u8 0, .int .i64 0] 51 (0, 0))) := qW13x9
  have B_ : Aside0 (Below w.heap.size w w9) := qW13x6
  clear HR BX B2 HB hR hK c0_ r1_
  have HR := R_
  have BX := X_
  have B2 := Y_
  have HB := B_
  clear R_ X_ Y_ B_
  have c0_ := zcf8 BX.out
  have r1_ := HR.out.cells.1
  go_wp2_with (first | fail)
  have R_ := Aside0.mk (HR.out.far (p := ⟨gx, 1, none⟩) HGX.out (.int .u32 (o % 4294967296)))
  have X_ : Aside0 ((w9.setCell ⟨gx, 1, none⟩ (.int .u32 (o % 4294967296))).heap[gx]? = some (.cells #[.int .u8 1, .int .u32 (o % 4294967296), .int .u8 0, .slice none 0 0, .int .u8 0, .int .u8 0, .int .u8 0, .int .i64 0] 51 (0, 0))) := Aside0.mk (blk_set BX.out 1 _)
  have Y_ := Aside0.mk (blk_far B2.out (p := ⟨gx, 1, none⟩) qW13x4 (.int .u32 (o % 4294967296)))
  have B_ := Aside0.mk (HB.out.setCell (p := ⟨gx, 1, none⟩) qW13x5 (.int .u32 (o % 4294967296)))
  clear HR BX B2 HB c0_ r1_
  have HR := R_
  have BX := X_
  have B2 := Y_
  have HB := B_
  clear R_ X_ Y_ B_
  generalize w9.setCell ⟨gx, 1, none⟩ (.int .u32 (o % 4294967296)) = w21 at *
  have c0_ := zcf8 BX.out
  have r1_ := HR.out.cells.1
  refine (rnum_calls2 (sz := 1) (size := 1) rfl E3 qW13x12 qW13x12 hw2 HR.out).mono ?_
  rintro e w9 ⟨rfl, hR, hK⟩
  have R_ := Aside0.mk hR
  have X_ : Aside0 (w9.heap[gx]? = some (.cells #[.int .u8 1, .int .u32 (o % 4294967296), .int .u8 0, .slice none 0 0, .int .u8 0, .int .u8 0, .int .u8 0, .int .i64 0] 51 (0, 0))) := qW13x8
  have Y_ : Aside0 (w9.heap[w.heap.size]? = some (.cells #[.int .u8 0, .int .u32 0, .int .u8 0, .slice none 0 0, .int .u8 0, .int .u8 0, .int .u8 0, .int .i64 0] 51 (0, 0))) := qW13x9
  have B_ : Aside0 (Below w.heap.size w w9) := qW13x6
  clear HR BX B2 HB hR hK c0_ r1_
  have HR := R_
  have BX := X_
  have B2 := Y_
  have HB := B_
  clear R_ X_ Y_ B_
  have c0_ := zcf8 BX.out
  have r1_ := HR.out.cells.1
  go_wp2_with (first | fail)
  have R_ := Aside0.mk (HR.out.far (p := ⟨gx, 2, none⟩) HGX.out (.int .u8 (p % 256)))
  have X_ : Aside0 ((w9.setCell ⟨gx, 2, none⟩ (.int .u8 (p % 256))).heap[gx]? = some (.cells #[.int .u8 1, .int .u32 (o % 4294967296), .int .u8 (p % 256), .slice none 0 0, .int .u8 0, .int .u8 0, .int .u8 0, .int .i64 0] 51 (0, 0))) := Aside0.mk (blk_set BX.out 2 _)
  have Y_ := Aside0.mk (blk_far B2.out (p := ⟨gx, 2, none⟩) qW13x4 (.int .u8 (p % 256)))
  have B_ := Aside0.mk (HB.out.setCell (p := ⟨gx, 2, none⟩) qW13x5 (.int .u8 (p % 256)))
  clear HR BX B2 HB c0_ r1_
  have HR := R_
  have BX := X_
  have B2 := Y_
  have HB := B_
  clear R_ X_ Y_ B_
  generalize w9.setCell ⟨gx, 2, none⟩ (.int .u8 (p % 256)) = w22 at *
  have c0_ := zcf8 BX.out
  have r1_ := HR.out.cells.1
  have GXL := Aside0.mk (blk_lt BX.out)
  refine (pledgeref34_Decode.lines_calls2 HLA.out hw3 HR.out).mono ?_
  rintro e w9 ⟨vl, rfl, hQ, hR, hK⟩
  have R_ := Aside0.mk hR
  have X_ : Aside0 (w9.heap[gx]? = some (.cells #[.int .u8 1, .int .u32 (o % 4294967296), .int .u8 (p % 256), .slice none 0 0, .int .u8 0, .int .u8 0, .int .u8 0, .int .i64 0] 51 (0, 0))) := qW13x8
  have Y_ : Aside0 (w9.heap[w.heap.size]? = some (.cells #[.int .u8 0, .int .u32 0, .int .u8 0, .slice none 0 0, .int .u8 0, .int .u8 0, .int .u8 0, .int .i64 0] 51 (0, 0))) := qW13x9
  have B_ : Aside0 (Below w.heap.size w w9) := qW13x6
  clear HR BX B2 HB hR hK c0_ r1_
  have HR := R_
  have BX := X_
  have B2 := Y_
  have HB := B_
  clear R_ X_ Y_ B_
  have c0_ := zcf8 BX.out
  have r1_ := HR.out.cells.1
  obtain ⟨Al, cl, rfl⟩ := Kd.R_slice hQ
  have HQ := Aside0.mk (Kd.R_mono (ok' := fun k => w22.heap.size ≤ k) (Kd.R_bound hQ) (fun k hk => hk.2.1))
  clear hQ
  have hn1 : ¬ (w.heap.size = gx) := by have h1_ := HGX.out; have h2_ := HG2.out; omega
  have hn2 : ¬ (gx = w.heap.size) := by have h1_ := HGX.out; have h2_ := HG2.out; omega
  have hn3 : ¬ (g = gx) := by have h1_ := HGX.out; omega
  have hn4 : ¬ (gx = g) := by have h1_ := HGX.out; omega
  have hn5 : ¬ (w.heap.size = g) := by have h2_ := HG2.out; omega
  have hn6 : ¬ (g = w.heap.size) := by have h2_ := HG2.out; omega
  have d0_ := zcf8 B2.out
  obtain ⟨Ab, cb, hbk, _⟩ := HR.out
  have r0_ : w9.cell? ⟨g, 0, none⟩ = some (.slice Ab b4.length cb) := (blk_cell hbk 0).trans rfl
  clear hbk
  have BB := Aside0.mk (HB.out.setCell (p := ⟨gx, 3, none⟩) qW13x5 (.slice Al ls.length cl))
  have BQ := Aside0.mk (blk_far B2.out (p := ⟨gx, 3, none⟩) qW13x4 (.slice Al ls.length cl))
  by_cases hz : er4 = 0
  · subst hz
    by_cases hz : b4.length = 0
    · have hz1 : ¬ ((0 : Int) < (b4.length : Int)) := by omega
      obtain rfl : ee = 0 := by rw [HE.out]; unfold rEnd; rw [if_neg (fun h => by have h2 : 0 < b4.length := h.2; omega)]
      go_wp2_with (first | fail)
      refine bodyPost_ret (results_ct rfl _ _ w.heap.size 51 #[.int .u8 1, .int .u32 (o % 4294967296), .int .u8 (p % 256), .slice Al ls.length cl, .int .u8 0, .int .u8 0, .int .u8 0, .int .i64 0] (0, 0) _ rfl (zQ BQ.out) Tryz.underlying51 rfl qW13x14) rfl ?_
      exact ⟨.slice Al ls.length cl, by first | rfl | (simp [hz]; done) | (simp [HZ.out]; done), (Kd.R_lower (base := w22.heap.size) (Kd.R_mono (by refine Kd.R_far (p := ⟨w.heap.size, 7, none⟩) ?_ (fun k hk => by have h0_ : w22.heap.size ≤ k := hk; have h1_ := GXL.out; have h2_ := HGX.out; have h3_ := HG2.out; show k ≠ w.heap.size; omega) _; refine Kd.R_far (p := ⟨w.heap.size, 6, none⟩) ?_ (fun k hk => by have h0_ : w22.heap.size ≤ k := hk; have h1_ := GXL.out; have h2_ := HGX.out; have h3_ := HG2.out; show k ≠ w.heap.size; omega) _; refine Kd.R_far (p := ⟨w.heap.size, 5, none⟩) ?_ (fun k hk => by have h0_ : w22.heap.size ≤ k := hk; have h1_ := GXL.out; have h2_ := HGX.out; have h3_ := HG2.out; show k ≠ w.heap.size; omega) _; refine Kd.R_far (p := ⟨w.heap.size, 4, none⟩) ?_ (fun k hk => by have h0_ : w22.heap.size ≤ k := hk; have h1_ := GXL.out; have h2_ := HGX.out; have h3_ := HG2.out; show k ≠ w.heap.size; omega) _; refine Kd.R_far (p := ⟨w.heap.size, 3, none⟩) ?_ (fun k hk => by have h0_ : w22.heap.size ≤ k := hk; have h1_ := GXL.out; have h2_ := HGX.out; have h3_ := HG2.out; show k ≠ w.heap.size; omega) _; refine Kd.R_far (p := ⟨w.heap.size, 2, none⟩) ?_ (fun k hk => by have h0_ : w22.heap.size ≤ k := hk; have h1_ := GXL.out; have h2_ := HGX.out; have h3_ := HG2.out; show k ≠ w.heap.size; omega) _; refine Kd.R_far (p := ⟨w.heap.size, 1, none⟩) ?_ (fun k hk => by have h0_ : w22.heap.size ≤ k := hk; have h1_ := GXL.out; have h2_ := HGX.out; have h3_ := HG2.out; show k ≠ w.heap.size; omega) _; refine Kd.R_far (p := ⟨w.heap.size, 0, none⟩) ?_ (fun k hk => by have h0_ : w22.heap.size ≤ k := hk; have h1_ := GXL.out; have h2_ := HGX.out; have h3_ := HG2.out; show k ≠ w.heap.size; omega) _; refine Kd.R_far (p := ⟨gx, 3, none⟩) ?_ (fun k hk => by have h0_ : w22.heap.size ≤ k := hk; have h1_ := GXL.out; have h2_ := HGX.out; have h3_ := HG2.out; show k ≠ gx; omega) _; exact HQ.out) (fun _ _ => trivial)) (by have h1_ := GXL.out; have h2_ := HGX.out; have h3_ := HG2.out; omega)), qW13x7⟩
    have hz1 : (0 : Int) < (b4.length : Int) := by omega
    obtain rfl : ee = 8 := by rw [HE.out]; unfold rEnd; rw [if_pos ⟨rfl, by show 0 < b4.length; omega⟩]
    go_wp2_with (first | fail)
    refine bodyPost_ret (results_ct rfl _ _ w.heap.size 51 #[.int .u8 0, .int .u32 0, .int .u8 0, .slice none 0 0, .int .u8 0, .int .u8 0, .int .u8 0, .int .i64 0] (0, 0) _ rfl (zQ BQ.out) Tryz.underlying51 rfl qW13x14) rfl ?_
    exact ⟨.slice none 0 0, by first | rfl | (simp [hz]; done) | (simp [HZ.out]; done), Kd.R_nil _ _ _ _ _, qW13x7⟩
  have hz1 : (er4 == 0) = false := beq_eq_false_iff_ne.2 hz
  have hz2 : (er4 != 0) = true := bne_iff_ne.2 hz
  obtain rfl : ee = er4 := by rw [HE.out]; unfold rEnd; rw [if_neg (fun h => hz h.1)]
  go_wp2_with (first | fail)
  have RR := Aside0.mk (HR.out.far (p := ⟨gx, 3, none⟩) HGX.out (.slice Al ls.length cl))
  clear HR BX B2 HB r0_ r1_ c0_ d0_
  generalize w9.setCell ⟨gx, 3, none⟩ (.slice Al ls.length cl) = w10 at *
  have d0_ := zcf8 BQ.out
  have dd0_ := zcf8 BQ.out
  have r1_ : w10.drew.cell? ⟨g, 1, none⟩ = some (.int .i64 ee) := RR.out.cells.1
  have rr1_ : w10.cell? ⟨g, 1, none⟩ = some (.int .i64 ee) := RR.out.cells.1
  go_region
  go_wp2_with (first | fail)
  refine bodyPost_ret (results_ct rfl _ _ w.heap.size 51 #[.int .u8 0, .int .u32 0, .int .u8 0, .slice none 0 0, .int .u8 0, .int .u8 0, .int .u8 0, .int .i64 0] (0, 0) _ rfl (zQ BQ.out) Tryz.underlying51 rfl qW13x14) rfl ?_
  exact ⟨.slice none 0 0, by first | rfl | (simp [hz]; done), Kd.R_nil _ _ _ _ _, qW13x10⟩
def pledgeref34_Decode.fin (s : Int × List Int) (a b c : Int) (l : List S90) (d e f g : Int) : Int × Int × Int × List S90 × Int × Int × Int × Int × Int := if rEnd s = 0 then (a, b, c, l, d, e, f, g, 0) else (0, 0, 0, [], 0, 0, 0, 0, rEnd s)
def pledgeref34_Decode.decF (bs : List Int) : Int × Int × Int × List S90 × Int × Int × Int × Int × Int :=
  if (gRead 1 (0, bs)).2.1 ≠ 0 then (0, 0, 0, [], 0, 0, 0, 0, (gRead 1 (0, bs)).2.1)
  else if (gRead 1 (0, bs)).1 < 1 ∨ 7 < (gRead 1 (0, bs)).1 then (0, 0, 0, [], 0, 0, 0, 0, 8)
  else if (gRead 1 (0, bs)).1 = 1 then pledgeref34_Decode.fin (pledgeref34_Decode.gLines (gCount (gRead 1 (gRead 4 (gRead 1 (0, bs)).2).2).2).1.toNat (gCount (gRead 1 (gRead 4 (gRead 1 (0, bs)).2).2).2).2).2 1 ((gRead 4 (gRead 1 (0, bs)).2).1 % 4294967296) ((gRead 1 (gRead 4 (gRead 1 (0, bs)).2).2).1 % 256) (pledgeref34_Decode.gLines (gCount (gRead 1 (gRead 4 (gRead 1 (0, bs)).2).2).2).1.toNat (gCount (gRead 1 (gRead 4 (gRead 1 (0, bs)).2).2).2).2).1 0 0 0 0
  else if (gRead 1 (0, bs)).1 ≤ 4 then pledgeref34_Decode.fin (gRead 4 (gRead 1 (0, bs)).2).2 (gRead 1 (0, bs)).1 ((gRead 4 (gRead 1 (0, bs)).2).1 % 4294967296) 0 [] 0 0 0 0
  else if (gRead 1 (0, bs)).1 = 5 then pledgeref34_Decode.fin (gRead 8 (gRead 1 (gRead 1 (gRead 1 (0, bs)).2).2).2).2 5 0 0 [] ((gRead 1 (gRead 1 (0, bs)).2).1 % 256) 0 ((gRead 1 (gRead 1 (gRead 1 (0, bs)).2).2).1 % 256) (wrap64 (gRead 8 (gRead 1 (gRead 1 (gRead 1 (0, bs)).2).2).2).1)
  else if (gRead 1 (0, bs)).1 = 6 then pledgeref34_Decode.fin (gRead 8 (gRead 1 (gRead 1 (gRead 1 (gRead 1 (0, bs)).2).2).2).2).2 6 0 0 [] ((gRead 1 (gRead 1 (0, bs)).2).1 % 256) ((gRead 1 (gRead 1 (gRead 1 (0, bs)).2).2).1 % 256) ((gRead 1 (gRead 1 (gRead 1 (gRead 1 (0, bs)).2).2).2).1 % 256) (wrap64 (gRead 8 (gRead 1 (gRead 1 (gRead 1 (gRead 1 (0, bs)).2).2).2).2).1)
  else pledgeref34_Decode.fin (gRead 1 (gRead 1 (0, bs)).2).2 7 0 0 [] ((gRead 1 (gRead 1 (0, bs)).2).1 % 256) 0 0 0
def pledgeref34_Decode.Res (w : World) (q : Int × Int × Int × List S90 × Int × Int × Int × Int × Int) (e : Ending) (w' : World) : Prop :=
  ∃ v3_ : Value, e = .returned (.tuple #[.agg #[.int .u8 q.1, .int .u32 q.2.1, .int .u8 q.2.2.1, v3_, .int .u8 q.2.2.2.2.1, .int .u8 q.2.2.2.2.2.1, .int .u8 q.2.2.2.2.2.2.1, .int .i64 q.2.2.2.2.2.2.2.1], .int .i64 q.2.2.2.2.2.2.2.2]) ∧ Kd.R k90 90 w' w.heap.size (fun _ => True) v3_ q.2.2.2.1 ∧ Below w.heap.size w w'
theorem pledgeref34_Decode.res_fin {w w' : World} {e : Ending} {s : Int × List Int} {a b c : Int} {l : List S90} {d f g h : Int} (hr : ∃ v3_ : Value, e = .returned (.tuple #[.agg (if rEnd s = 0 then #[.int .u8 a, .int .u32 b, .int .u8 c, v3_, .int .u8 d, .int .u8 f, .int .u8 g, .int .i64 h] else #[.int .u8 0, .int .u32 0, .int .u8 0, v3_, .int .u8 0, .int .u8 0, .int .u8 0, .int .i64 0]), .int .i64 (rEnd s)]) ∧ Kd.R k90 90 w' w.heap.size (fun _ => True) v3_ (if rEnd s = 0 then l else []) ∧ Below w.heap.size w w') : pledgeref34_Decode.Res w (pledgeref34_Decode.fin s a b c l d f g h) e w' := by
  obtain ⟨v, he, hR, hB⟩ := hr
  unfold pledgeref34_Decode.fin
  by_cases hz : rEnd s = 0
  rotate_left
  · rw [if_neg hz] at he hR ⊢
    exact ⟨v, he, hR, hB⟩
  rw [if_pos hz] at he hR ⊢
  rw [hz] at he
  exact ⟨v, he, hR, hB⟩
set_option maxHeartbeats 4000000 in
theorem pledgeref34_Decode.dec (A0 : Option Addr) (c0 : Nat) (bs : List Int) (hl : bs.length ≤ 1000000) (hc0 : bs.length ≤ c0) (hwf : ∀ b ∈ bs, 0 ≤ b ∧ b < 256) (w : World) (hC : Kd.C (Kd.int .u8) w A0 bs.length bs) :
    Calls Tryz.prog 28 #[.slice A0 bs.length c0] w fun e w' => pledgeref34_Decode.Res w (pledgeref34_Decode.decF bs) e w' := by
  unfold pledgeref34_Decode.decF
  have hk := pledgeref34_Decode.r_range (s := (0, bs)) hwf
  obtain ⟨k, er1, b1, E1⟩ : ∃ k e l, gRead 1 (0, bs) = (k, (e, l)) := ⟨_, _, _, rfl⟩
  have hw1 := gRead_wf E1 hwf
  have hkz : er1 ≠ 0 → k = 0 := by
    intro h
    have := congrArg (fun z => z) E1
    unfold gRead gNum at this
    split at this
    · rename_i h0; exact absurd rfl h0
    · split at this
      · exact ((Prod.mk.inj this).1).symm
      · exact absurd (Prod.mk.inj (Prod.mk.inj this).2).1.symm h
  rw [E1] at hk ⊢
  dsimp only at hk ⊢
  by_cases he : er1 = 0
  rotate_left
  · rw [if_pos he]
    obtain rfl := hkz he
    refine (pledgeref34_Decode.dec_p0 A0 c0 bs hl hc0 hwf w hC E1 he).mono ?_
    exact fun e w' h => h
  rw [if_neg (fun h => h he)]
  by_cases hb : k < 1 ∨ 7 < k
  · rw [if_pos hb]
    refine (pledgeref34_Decode.dec_pbad A0 c0 bs hl hc0 hwf w hC E1 he hk.1 hk.2 hb).mono ?_
    exact fun e w' h => h
  rw [if_neg hb]
  by_cases h1 : k = 1
  · subst h1
    rw [if_pos rfl]
    obtain ⟨o, er2, b2, E2⟩ : ∃ k e l, gRead 4 (er1, b1) = (k, (e, l)) := ⟨_, _, _, rfl⟩
    have hw2 := gRead_wf E2 hw1
    rw [E2]
    dsimp only
    obtain ⟨p, er3, b3, E3⟩ : ∃ k e l, gRead 1 (er2, b2) = (k, (e, l)) := ⟨_, _, _, rfl⟩
    rw [E3]
    dsimp only
    obtain ⟨ls, er4, b4, hL⟩ : ∃ ls e l, pledgeref34_Decode.gLines (gCount (er3, b3)).1.toNat (gCount (er3, b3)).2 = (ls, (e, l)) := ⟨_, _, _, rfl⟩
    rw [hL]
    dsimp only
    refine (pledgeref34_Decode.dec_p1 A0 c0 bs hl hc0 hwf w hC E1 E2 E3 hL he).mono ?_
    intro e w' h
    exact pledgeref34_Decode.res_fin h
  rw [if_neg h1]
  by_cases h4 : k ≤ 4
  · rw [if_pos h4]
    obtain ⟨o, er2, b2, E2⟩ : ∃ k e l, gRead 4 (er1, b1) = (k, (e, l)) := ⟨_, _, _, rfl⟩
    rw [E2]
    dsimp only
    refine (pledgeref34_Decode.dec_p24 A0 c0 bs hl hc0 hwf w hC E1 E2 he qW13x12 h4).mono ?_
    intro e w' h
    exact pledgeref34_Decode.res_fin (by rw [ite_self]; exact h)
  rw [if_neg h4]
  obtain ⟨p, er2, b2, E2⟩ : ∃ k e l, gRead 1 (er1, b1) = (k, (e, l)) := ⟨_, _, _, rfl⟩
  rw [E2]
  dsimp only
  by_cases h5 : k = 5
  · subst h5
    rw [if_pos rfl]
    obtain ⟨q, er3, b3, E3⟩ : ∃ k e l, gRead 1 (er2, b2) = (k, (e, l)) := ⟨_, _, _, rfl⟩
    rw [E3]
    dsimp only
    obtain ⟨x, er4, b4, E4⟩ : ∃ k e l, gRead 8 (er3, b3) = (k, (e, l)) := ⟨_, _, _, rfl⟩
    rw [E4]
    dsimp only
    refine (pledgeref34_Decode.dec_p5 A0 c0 bs hl hc0 hwf w hC E1 E2 E3 E4 he).mono ?_
    intro e w' h
    exact pledgeref34_Decode.res_fin (by rw [ite_self]; exact h)
  rw [if_neg h5]
  by_cases h6 : k = 6
  rotate_left
  · rw [if_neg h6]
    obtain rfl : k = 7 := by omega
    refine (pledgeref34_Decode.dec_p7 A0 c0 bs hl hc0 hwf w hC E1 E2 he).mono ?_
    intro e w' h
    exact pledgeref34_Decode.res_fin (by rw [ite_self]; exact h)
  subst h6
  rw [if_pos rfl]
  obtain ⟨q, er3, b3, E3⟩ : ∃ k e l, gRead 1 (er2, b2) = (k, (e, l)) := ⟨_, _, _, rfl⟩
  rw [E3]
  dsimp only
  obtain ⟨y, er4, b4, E4⟩ : ∃ k e l, gRead 1 (er3, b3) = (k, (e, l)) := ⟨_, _, _, rfl⟩
  rw [E4]
  dsimp only
  obtain ⟨x, er5, b5, E5⟩ : ∃ k e l, gRead 8 (er4, b4) = (k, (e, l)) := ⟨_, _, _, rfl⟩
  rw [E5]
  dsimp only
  refine (pledgeref34_Decode.dec_p6 A0 c0 bs hl hc0 hwf w hC E1 E2 E3 E4 E5 he).mono ?_
  intro e w' h
  exact pledgeref34_Decode.res_fin (by rw [ite_self]; exact h)
def pledgeref34_Decode.f (l0 : List Int) : Option (Int × Int × Int × List (S90) × Int × Int × Int × Int × Int) := if l0.length ≤ 1000000 ∧ l0.all (fun x => decide (0 ≤ x ∧ x < 256)) = true then some (pledgeref34_Decode.decF l0) else none
theorem pledgeref34_Decode.calls (A0 : Option Addr) (c0 : Nat) (l0 : List Int) (r1 : Int) (r2 : Int) (r3 : Int) (r4 : List (S90)) (r5 : Int) (r6 : Int) (r7 : Int) (r8 : Int) (r9 : Int) (w : World) (hr0 : Kd.C (Kd.int .u8) w A0 l0.length l0) (hc0 : l0.length ≤ c0) (h : pledgeref34_Decode.f l0 = some (r1, r2, r3, r4, r5, r6, r7, r8, r9)) :
    Calls Tryz.prog 28 #[.slice A0 l0.length c0] w fun e w' => ∃ v3_ : Value, e = .returned (.tuple #[.agg #[.int .u8 r1, .int .u32 r2, .int .u8 r3, v3_, .int .u8 r5, .int .u8 r6, .int .u8 r7, .int .i64 r8], .int .i64 r9]) ∧ Kd.R k90 90 w' w.heap.size (fun _ => True) v3_ r4 ∧ Below w.heap.size w w' := by
  unfold pledgeref34_Decode.f at h
  split at h
  · rename_i hb
    have h := Option.some.inj h
    have hd := pledgeref34_Decode.dec A0 c0 l0 hb.1 hc0 (fun x hx => by simpa using List.all_eq_true.1 hb.2 x hx) w hr0
    rw [h] at hd
    exact hd
  · exact absurd h (by simp)

end Go.Proofs.YtpnehgajhpejjaaGreatDoor.W
