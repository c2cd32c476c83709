import Derived.Test.YtpnehgajhpejjaaDoorPut
import Derived.Test.YtpnehgajhpejjaaDoorWCut
import Derived.Lib.SlBytesConst
/- words.raw: bytes as hexadecimal digits, behind a word. -/
set_option linter.unusedVariables false
set_option linter.unusedSimpArgs false
namespace Go.Proofs.YtpnehgajhpejjaaDoor
open Go.RowKit Go.Sort Go.Lib YtpnehgajhpejjaaDoorW.PrintWords YtpnehgajhpejjaaDoorW.PrintLast YtpnehgajhpejjaaDoorW.PrintMore
def hexD : List UInt8 := [48, 49, 50, 51, 52, 53, 54, 55, 56, 57, 97, 98, 99, 100, 101, 102]
def hexL (l : List Int) : List UInt8 := l.flatMap fun c => [hexD.getD (c.toNat / 16) 0, hexD.getD (c.toNat % 16) 0]
def askB : List UInt8 := [97, 115, 107, 32]
theorem hexL_snoc (l : List Int) (j : Nat) (hj : j < l.length) : askB ++ hexL (l.take (j + 1)) = (askB ++ hexL (l.take j)) ++ [hexD.getD (l[j].toNat / 16) 0, hexD.getD (l[j].toNat % 16) 0] := by
  have e : l.take (j + 1) = l.take j ++ [l[j]] := by rw [List.take_append_getElem]
  unfold hexL
  rw [e, List.flatMap_append]
  simp
theorem lit_X (w : World) : (w.alloc (.cells #[.int .u8 97, .int .u8 115, .int .u8 107, .int .u8 32] 5 (4, 5))).ownsX w.heap.size 5 (.slice (some ⟨w.heap.size, 0, none⟩) 4 4) 4 (Lib.byteCells askB) :=
  ⟨by simp [Lib.byteCells, askB], .inr ⟨w.heap.size, 4, _, (4, 5), rfl, Nat.le_refl _, heap_alloc_new w _, .inr (Nat.le_refl _), Nat.le_refl _, by simp [maxLen], rfl, rfl⟩⟩
def rawT : Bool × List (List Nat × List Nat) := (true, [([], []), ([], []), ([1], [1]), ([2], [2]), ([], []), ([4], [4]), ([5], [5]), ([3, 6], [3, 6]), ([0, 7], [0, 7]), ([8, 8, 0, 1, 2, 3, 4, 5, 6, 7, 8], [0, 8])])
def rawB : List Nat := [0, 0, 2, 6, 0, 16, 48, 126, 255, 511]
theorem rawTab : rtab .any (opsOf Tryd.f51 7) = rawT := by kernel_rfl
theorem rawBits : waitsOk rawT.2 rawB = true := by kernel_rfl
theorem exec_append {P : Program} {o : Oper} {a : Act} {w w' : World} {s x : Operand} {t : TypeId} {v u v' : Value} (ho : o.op = .call { callee := .builtin .append, args := #[s, x], argTypes := #[t, t] }) (hs : a.eval s = v) (hx : a.eval x = u)
    (hr : (Builtin.append_ #[t, t] o.type #[v, u]).run P w = .ok v' w') : (execOp a.eval o).run P w = .ok (.value v') w' := by
  unfold execOp
  simp only [ho, resolve, invoke, builtin, Sem.run_bind, Sem.run_pure, Result.andThen_ok, List.map_toArray, List.map_cons, List.map_nil, hs, hx, hr]
theorem and15 (x : Int) (h0 : 0 ≤ x) (h1 : x < 256) : Go.bits .and .u8 x 15 = x % 16 := by
  have h : ∀ n : Fin 256, Go.bits .and .u8 (n.val : Int) 15 = (n.val : Int) % 16 := by decide +kernel
  have := h ⟨x.toNat, by omega⟩
  simpa [Int.toNat_of_nonneg h0] using this
theorem hex1 (x : Int) (h0 : 0 ≤ x) (h1 : x < 256) : bt (⟨#[48, 49, 50, 51, 52, 53, 54, 55, 56, 57, 97, 98, 99, 100, 101, 102]⟩ : ByteArray) (x / 16) = ((hexD.getD (x.toNat / 16) 0).toNat : Int) := by
  have h : ∀ n : Fin 256, bt (⟨#[48, 49, 50, 51, 52, 53, 54, 55, 56, 57, 97, 98, 99, 100, 101, 102]⟩ : ByteArray) ((n.val : Int) / 16) = ((hexD.getD ((n.val : Int).toNat / 16) 0).toNat : Int) := by decide +kernel
  have := h ⟨x.toNat, by omega⟩
  simpa [Int.toNat_of_nonneg h0] using this
theorem hex2 (x : Int) (h0 : 0 ≤ x) (h1 : x < 256) : bt (⟨#[48, 49, 50, 51, 52, 53, 54, 55, 56, 57, 97, 98, 99, 100, 101, 102]⟩ : ByteArray) (x % 16) = ((hexD.getD (x.toNat % 16) 0).toNat : Int) := by
  have h : ∀ n : Fin 256, bt (⟨#[48, 49, 50, 51, 52, 53, 54, 55, 56, 57, 97, 98, 99, 100, 101, 102]⟩ : ByteArray) ((n.val : Int) % 16) = ((hexD.getD ((n.val : Int).toNat % 16) 0).toNat : Int) := by decide +kernel
  have := h ⟨x.toNat, by omega⟩
  simpa [Int.toNat_of_nonneg h0] using this
set_option maxHeartbeats 6400000 in
set_option maxRecDepth 100000 in
theorem rawW (A0 : Option Addr) (c0 : Nat) (l0 : List Int) (w : World) (hl : l0.length ≤ 1000000) (hlc : l0.length ≤ c0) (hall : ∀ x ∈ l0, 0 ≤ x ∧ x < 256)
    (hcells : ∀ j : Nat, j < l0.length → ∃ ad, A0 = some ad ∧ w.cell? (ad.add j) = some (.int .u8 (l0.getD j 0))) :
    Calls Tryd.prog 51 #[.slice A0 l0.length c0] w fun e w' => e = .returned (.string (if l0.length = 0 then ⟨#[97, 115, 107]⟩ else ⟨(askB ++ hexL l0).toArray⟩)) ∧ Below w.heap.size w w' := by
  obtain ⟨i0, hi, hz0, hz1, hz2⟩ := info_parts infoB
  by_cases h0 : l0.length = 0
  · have h0b : ((l0.length : Int) == 0) = true := by simp [h0]
    rw [if_pos h0]
    clear hcells
    go_enter Tryd.func51, Tryd.ntmps51
    go_wp2
    go_ret
    exact ⟨rfl, Below.refl _ _⟩
  · have h0b : ((l0.length : Int) == 0) = false := by simp; intro e; exact h0 (by simp [e])
    rw [if_neg h0]
    have hcv := Lib.run_convert_bytes_const (P := Tryd.prog) w 62 5 #[.int .u8 97, .int .u8 115, .int .u8 107, .int .u8 32] 4 4 Tryd.underlying62 Tryd.underlying5
    have ho0 := lit_X w
    have hb0 : Below w.heap.size w (w.alloc (.cells #[.int .u8 97, .int .u8 115, .int .u8 107, .int .u8 32] 5 (4, 5))) := (Below.refl _ _).alloc (Nat.le_refl _) _
    go_enter Tryd.func51, Tryd.ntmps51
    go_wp2
    have HB0 := Aside0.mk hb0
    have HO0 := Aside0.mk ho0
    clear hb0 ho0 hcv
    generalize (w.alloc (.cells #[.int .u8 97, .int .u8 115, .int .u8 107, .int .u8 32] 5 (4, 5))) = w1 at *
    generalize (Value.slice (some ⟨w.heap.size, 0, none⟩) 4 4) = v0 at *
    go_loopw [3, 13] (fun v3 i wr => ∃ j : Nat, j ≤ l0.length ∧ i = .int .i64 j ∧ Aside0 (wr.ownsX w.heap.size 5 v3 (askB ++ hexL (l0.take j)).length (Lib.byteCells (askB ++ hexL (l0.take j)))) ∧ Aside0 ((askB ++ hexL (l0.take j)).length ≤ 4 + 2 * j) ∧ Aside0 (Below w.heap.size w wr)) (fun _ i _ => l0.length - (RowKit.intOf i).toNat)
    case atStart => exact ⟨0, Nat.zero_le _, rfl, ⟨by simpa [hexL, askB] using HO0.out⟩, ⟨by simp [hexL, askB]⟩, ⟨HB0.out⟩⟩
    case round =>
      clear HB0 HO0
      obtain ⟨j, hj, rfl, HO, HL, HB⟩ := hrel
      by_cases hlt : j < l0.length
      · obtain ⟨ad, e1, hx⟩ := hcells j hlt
        cases e1
        have hn : l0.getD j 0 = l0[j] := by simp [List.getD_eq_getElem?_getD, List.getElem?_eq_getElem hlt]
        obtain ⟨n0, n1⟩ := hall l0[j] (List.getElem_mem hlt)
        have hstep := hexL_snoc l0 j hlt
        rw [hn] at hx
        replace hx := (HB.out.cell (World.block_lt_of_cell? w _ hx)).trans hx
        generalize l0[j] = x at *
        generalize askB ++ hexL (l0.take j) = L at *
        have hand : Go.bits .and .u8 x 15 = x % 16 := and15 x n0 n1
        have hd1 : bt (⟨#[48, 49, 50, 51, 52, 53, 54, 55, 56, 57, 97, 98, 99, 100, 101, 102]⟩ : ByteArray) (x / 16) = ((hexD.getD (x.toNat / 16) 0).toNat : Int) := hex1 x n0 n1
        have hd2 : bt (⟨#[48, 49, 50, 51, 52, 53, 54, 55, 56, 57, 97, 98, 99, 100, 101, 102]⟩ : ByteArray) (x % 16) = ((hexD.getD (x.toNat % 16) 0).toNat : Int) := hex2 x n0 n1
        have HS := Aside0.mk hstep
        clear hstep hn
        have hLl := HL.out
        have hsz := HB.out.size
        have p1 : (0 : Int) ≤ (j : Int) := by omega
        have p2 : (j : Int) < (l0.length : Int) := by omega
        have hx11 := bt_at (⟨#[48, 49, 50, 51, 52, 53, 54, 55, 56, 57, 97, 98, 99, 100, 101, 102]⟩ : ByteArray) (x / 16)
        have hx14 := bt_at (⟨#[48, 49, 50, 51, 52, 53, 54, 55, 56, 57, 97, 98, 99, 100, 101, 102]⟩ : ByteArray) (x % 16)
        have q1 : 0 ≤ x / 16 := by omega
        have q2 : x / 16 < 16 := by omega
        have q3 : 0 ≤ x % 16 := by omega
        have q4 : x % 16 < 16 := by omega
        have e5 : Lib.byteCells [hexD.getD (x.toNat / 16) 0, hexD.getD (x.toNat % 16) 0] = [Value.int .u8 (bt (⟨#[48, 49, 50, 51, 52, 53, 54, 55, 56, 57, 97, 98, 99, 100, 101, 102]⟩ : ByteArray) (x / 16)), Value.int .u8 (bt (⟨#[48, 49, 50, 51, 52, 53, 54, 55, 56, 57, 97, 98, 99, 100, 101, 102]⟩ : ByteArray) (x % 16))] := by rw [hd1, hd2]; rfl
        have HE := Aside0.mk e5
        clear e5 hd1 hd2
        generalize hji : x / 16 = ji at *
        generalize hjk : x % 16 = jk at *
        go_wp2
        have hDo : wr.drew.ownsX w.heap.size 5 u3 L.length (Lib.byteCells L) := HO.out
        generalize hb1 : bt (⟨#[48, 49, 50, 51, 52, 53, 54, 55, 56, 57, 97, 98, 99, 100, 101, 102]⟩ : ByteArray) ji = z1 at *
        generalize hb2 : bt (⟨#[48, 49, 50, 51, 52, 53, 54, 55, 56, 57, 97, 98, 99, 100, 101, 102]⟩ : ByteArray) jk = z2 at *
        have hgw : wr.drew.grownBy (wr.drew.alloc (.cells #[.int .u8 z1, .int .u8 z2] 5)) none := World.grownBy_alloc wr.drew _ none
        obtain ⟨v2, w2, hr, hown2, hgrow⟩ := run_append_X (P := Tryd.prog) (wr.drew.alloc (.cells #[.int .u8 z1, .int .u8 z2] 5)) w.heap.size 62 62 5 i0 Tryd.underlying62 hi hz0 hz1 hz2 u3 L.length (Lib.byteCells L) (hDo.alloc _) ⟨wr.heap.size, 0, none⟩ 2 2 [Value.int .u8 z1, Value.int .u8 z2] rfl (by intro j u' hj; match j, hj with | 0, hj => (simp at hj; subst hj; rw [Lib.add_plain]; exact (blk_cell (heap_alloc_new wr.drew _) 0).trans rfl) | 1, hj => (simp at hj; subst hj; rw [Lib.add_plain]; exact (blk_cell (heap_alloc_new wr.drew _) 1).trans rfl)) (by intro u' hu'; simp at hu'; rcases hu' with rfl | rfl <;> rfl) (by omega) (by omega) (by simp; omega)
        have hnx1 : Below w.heap.size wr w2 := ((Below.refl w.heap.size wr).drew.grown hgw hsz (fun k hk => by cases hk)).grown hgrow (Nat.le_trans hsz hgw.size) (fun k hk => (hDo.lt k hk).1)
        have HW := Aside0.mk hnx1
        have H2 := Aside0.mk hown2
        clear hown2 hnx1 hgrow hgw hDo
        refine start_ (n := 10) (S := fun w' => True) (ds := []) #[false, false, false, false, false, false, false, false, false, false] (by kernel_rfl) rfl rfl trivial (fun hHeld => ?_); refine with_tabW rawTab rawBits (fun HT_ HW_ => ?_)
        generalize hw16 : wr.drew = w16 at hHeld ⊢
        refine pure_ (i := 0) (N := some 17) (v := ?_) (a' := ?_) #[true, false, false, false, false, false, false, false, false, false] rfl rfl (any_of HT_.out (by kernel_rfl)) (fun _ _ _ h => h) (Or.inl ⟨by rfl, ?_⟩) ?_ ?_
        rotate_left
        · intro w'
          go_simp
          with_reducible rfl
        rotate_left
        · simp only [Act.put, List.setIfInBounds_toArray, List.set_cons_zero, List.set_cons_succ, i64_w, i32_w]
          rfl
        refine pure_ (i := 1) (N := some 18) (v := ?_) (a' := ?_) #[true, true, false, false, false, false, false, false, false, false] rfl rfl (any_of HT_.out (by kernel_rfl)) (fun _ _ _ h => h) (Or.inl ⟨by rfl, ?_⟩) ?_ ?_
        rotate_left
        · intro w'
          go_simp
          with_reducible rfl
        rotate_left
        · simp only [Act.put, List.setIfInBounds_toArray, List.set_cons_zero, List.set_cons_succ, i64_w, i32_w]
          rfl
        refine pure_ (i := 2) (N := some 19) (v := ?_) (a' := ?_) #[true, true, true, false, false, false, false, false, false, false] rfl rfl (any_of HT_.out (by kernel_rfl)) (fun _ _ _ h => h) (Or.inl ⟨by rfl, ?_⟩) ?_ ?_
        rotate_left
        · intro w'
          go_simp
          with_reducible rfl
        rotate_left
        · simp only [Act.put, List.setIfInBounds_toArray, List.set_cons_zero, List.set_cons_succ, i64_w, i32_w]
          rfl
        refine pure_ (i := 4) (N := some 21) (v := ?_) (a' := ?_) #[true, true, true, false, true, false, false, false, false, false] rfl rfl (any_of HT_.out (by kernel_rfl)) (fun _ _ _ h => h) (Or.inl ⟨by rfl, ?_⟩) ?_ ?_
        rotate_left
        · intro w'
          go_simp
          with_reducible rfl
        rotate_left
        · simp only [Act.put, List.setIfInBounds_toArray, List.set_cons_zero, List.set_cons_succ, i64_w, i32_w]
          rfl
        refine pure_ (i := 5) (N := some 22) (v := ?_) (a' := ?_) #[true, true, true, false, true, true, false, false, false, false] rfl rfl (any_of HT_.out (by kernel_rfl)) (fun _ _ _ h => h) (Or.inl ⟨by rfl, ?_⟩) ?_ ?_
        rotate_left
        · intro w'
          go_simp
          with_reducible rfl
        rotate_left
        · simp only [Act.put, List.setIfInBounds_toArray, List.set_cons_zero, List.set_cons_succ, i64_w, i32_w]
          rfl
        refine take_ (i := 3) (N := some 20) (v := ?_) (a' := ?_) #[true, true, true, true, true, true, false, false, false, false] rfl rfl (take_ofW HT_.out HW_.out (by kernel_rfl)) (fun _ _ _ h => h) (Or.inl ⟨by rfl, ?_⟩) hHeld ?_ ?_
        rotate_left
        · intro w' _
          go_simp
          with_reducible rfl
        rotate_left
        · simp only [Act.put, List.setIfInBounds_toArray, List.set_cons_zero, List.set_cons_succ, i64_w, i32_w]
          rfl
        refine take_ (i := 6) (N := some 23) (v := ?_) (a' := ?_) #[true, true, true, true, true, true, true, false, false, false] rfl rfl (take_ofW HT_.out HW_.out (by kernel_rfl)) (fun _ _ _ h => h) (Or.inl ⟨by rfl, ?_⟩) hHeld ?_ ?_
        rotate_left
        · intro w' _
          go_simp
          with_reducible rfl
        rotate_left
        · simp only [Act.put, List.setIfInBounds_toArray, List.set_cons_zero, List.set_cons_succ, i64_w, i32_w]
          rfl
        refine one_ (i := 7) (N := some 24) #[true, true, true, true, true, true, true, true, false, false] rfl rfl (one_of HT_.out (by kernel_rfl)) (by decide) (fun K hK => ?_)
        refine value_ (w1 := w16.alloc (.cells #[.int .u8 z1, .int .u8 z2] 5)) (v := .slice (some ⟨w16.heap.size, 0, none⟩) 2 2) (by rfl) rfl ?_ ?_
        · go_simp
          try rfl
        refine hK.out _ _ trivial (fun hHeld => ?_)
        clear hK K
        refine norm_ (a' := ?_) ?_ ?_
        rotate_left
        · show Act.put _ (some 24) _ = _
          simp only [Act.put, List.setIfInBounds_toArray, List.set_cons_zero, List.set_cons_succ, i64_w, i32_w]
          rfl
        refine one_ (i := 8) (N := some 25) #[true, true, true, true, true, true, true, true, true, false] rfl rfl (one_of HT_.out (by kernel_rfl)) (by decide) (fun K hK => ?_)
        have hsz16 : w16.heap.size = wr.heap.size := by rw [← hw16]; rfl
        rw [← hw16]
        refine value_ (w1 := w2) (v := v2) (by rfl) rfl ?_ ?_
        · exact exec_append rfl rfl rfl hr
        refine hK.out _ _ trivial (fun hHeld => ?_)
        clear hK K
        refine norm_ (a' := ?_) ?_ ?_
        rotate_left
        · show Act.put _ (some 25) _ = _
          simp only [Act.put, List.setIfInBounds_toArray, List.set_cons_zero, List.set_cons_succ, i64_w, i32_w]
          rfl
        refine pure_ (i := 9) (N := some 3) (v := ?_) (a' := ?_) #[true, true, true, true, true, true, true, true, true, true] rfl rfl (any_of HT_.out (by kernel_rfl)) (fun _ _ _ h => h) (Or.inl ⟨by rfl, ?_⟩) ?_ ?_
        rotate_left
        · intro w'
          go_simp
          with_reducible rfl
        rotate_left
        · simp only [Act.put, List.setIfInBounds_toArray, List.set_cons_zero, List.set_cons_succ, i64_w, i32_w]
          rfl
        refine done_ (done_of HT_.out (by kernel_rfl)) ?_
        go_wp2
        go_roundw
        all_goals first
          | (have e3 : (L ++ [hexD.getD (x.toNat / 16) 0, hexD.getD (x.toNat % 16) 0]).length = L.length + 2 := by simp
             refine ⟨j + 1, by omega, by go_num, ⟨?_⟩, ⟨?_⟩, ⟨HB.out.trans HW.out⟩⟩
             · rw [HS.out, byteCells_append, HE.out, e3]
               exact H2.out
             · rw [HS.out, e3]
               omega)
          | (simp [RowKit.intOf]; omega)
      · obtain rfl : j = l0.length := by omega
        have p2 : ¬ ((l0.length : Int) < (l0.length : Int)) := by omega
        have hcv := conv_own HO.out
        rw [List.take_length] at hcv
        go_wp2
        go_ret
        exact ⟨rfl, HB.out⟩
end Go.Proofs.YtpnehgajhpejjaaDoor
