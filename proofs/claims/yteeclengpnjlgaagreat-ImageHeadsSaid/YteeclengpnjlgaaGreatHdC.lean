import Derived.Test.YteeclengpnjlgaaGreatHdB
import Derived.Test.YteeclengpnjlgaaGreatSpt
import Derived.Test.YteeclengpnjlgaaGreatGnum
/- image.Values, the document's Values. -/
namespace Go.Proofs.YteeclengpnjlgaaGreat.I
open Go.RowKit Go.Proofs.YteeclengpnjlgaaGreatW.PrintWords Go.Proofs.YteeclengpnjlgaaGreatW.PrintLast Go.Proofs.YteeclengpnjlgaaGreatW.PrintMore Go.Proofs.YteeclengpnjlgaaGreat
set_option linter.unusedVariables false
set_option linter.unusedSimpArgs false
/-- Entry j of a head's bytes: a value and a place. -/
def entR (b : List Int) (j : Nat) : Option (Int × Int) := if b.length < 16 * j + 16 then none else some (wrap64 (leN ((b.drop (16 * j)).take 8)), wrap64 (leN ((b.drop (16 * j + 8)).take 8)))
def entK (nn : Nat) (hs : List (List Int)) (k : Nat) : Option (Int × Int) := entR (hs.getD (k / nn) []) (k % nn)
def runK (nn : Nat) (hs : List (List Int)) : Nat → Option (List Int × List Int × Bool)
  | 0 => some ([], [], false)
  | k + 1 => (runK nn hs k).bind fun s => (entK nn hs k).map fun e => (s.1 ++ [e.1], s.2.1 ++ [e.2], s.2.2 || decide (e.2 < 0))
theorem runK_none {nn : Nat} {hs : List (List Int)} {k : Nat} (h : runK nn hs k = none) : ∀ m, runK nn hs (k + m) = none
  | 0 => h
  | m + 1 => by rw [← Nat.add_assoc, runK, runK_none h m]; rfl
theorem runK_len {nn : Nat} {hs : List (List Int)} : ∀ {k : Nat} {s : List Int × List Int × Bool}, runK nn hs k = some s → s.1.length = k ∧ s.2.1.length = k
  | 0, s, h => by cases h; exact ⟨rfl, rfl⟩
  | k + 1, s, h => by
    rw [runK] at h
    obtain ⟨s0, h0, h1⟩ := Option.bind_eq_some_iff.mp h
    obtain ⟨e, _, rfl⟩ := Option.map_eq_some_iff.mp h1
    have := runK_len h0
    simp only [List.length_append, List.length_singleton]
    omega
def valF (n nn : Nat) (hd : Int) (hs : List (List Int)) : List Int × List Int × Int :=
  if (hs.length : Int) ≠ hd then ([], [], 1) else match runK nn hs n with
  | none => ([], [], 6)
  | some s => if s.2.2 then ([], [], 8) else (s.1, s.2.1, 0)
theorem rdL_blk {lo : Nat} {w : World} {g : Nat} {err : Int} {bs : List Int} (h : RdAtL lo w g err bs) : ∃ cs, w.heap[g]? = some (.cells cs 173 (0, 0)) := by
  obtain ⟨A, c, h, _⟩ := h
  exact ⟨_, h⟩
theorem RdRow {lo g : Nat} {w w' : World} {err : Int} {bs : List Int} {row : Option Nat} (h : RdAtL lo w g err bs) (hlo : lo ≤ g) (hg : w.grownBy w' row) (hr : ∀ k, row = some k → k < lo ∨ g < k) : RdAtL lo w' g err bs := by
  rcases row with _ | k
  · exact h.below ⟨hg.os, hg.tape, hg.output, hg.size, fun k hk => hg.block k hk (by simp)⟩
  · rcases hr k rfl with hk | hk
    · exact h.under hlo hg hk
    · exact h.grown hg hk
/-- Two rows of one's own and a reader, apart. -/
structure Sep (lo g : Nat) (u v : Value) : Prop where
  uv : ∀ k, u.ownBlock = some k → some k ≠ v.ownBlock
  u : ∀ k, u.ownBlock = some k → k < lo ∨ g < k
  v : ∀ k, v.ownBlock = some k → k < lo ∨ g < k
theorem Sep.swap {lo g : Nat} {u v : Value} (h : Sep lo g u v) : Sep lo g v u := ⟨fun k hk e => h.uv k e.symm hk.symm, h.v, h.u⟩
theorem Sep.step {lo g : Nat} {u v u' : Value} {W : World} (h : Sep lo g u v) (hat : u'.ownBlock = u.ownBlock ∨ ∃ b, u'.ownBlock = some b ∧ W.heap.size ≤ b) (hv : ∀ k, v.ownBlock = some k → k < W.heap.size) (hg : g < W.heap.size) : Sep lo g u' v := by
  rcases hat with e | ⟨b, e, hb⟩
  · exact ⟨fun k hk => h.uv k (e ▸ hk), fun k hk => h.u k (e ▸ hk), h.v⟩
  · refine ⟨fun k hk e1 => ?_, fun k hk => ?_, h.v⟩
    · have := hv k e1.symm
      rw [e] at hk
      injection hk with hk
      omega
    · rw [e] at hk
      injection hk with hk
      omega
/-- Two rows of one's own, apart. -/
def Apart (u v : Value) : Prop := ∀ k, u.ownBlock = some k → some k ≠ v.ownBlock
theorem Sep.of_apart {lo g : Nat} {u v : Value} (h : Apart u v) (hu : ∀ k, u.ownBlock = some k → k < lo) (hv : ∀ k, v.ownBlock = some k → k < lo) : Sep lo g u v := ⟨h, fun k hk => .inl (hu k hk), fun k hk => .inl (hv k hk)⟩
theorem entR_good {b : List Int} {j : Nat} (h : 16 ≤ (b.drop (16 * j)).length) : entR b j = some (wrap64 (leN ((b.drop (16 * j)).take 8)), wrap64 (leN (((b.drop (16 * j)).drop 8).take 8))) := by
  unfold entR
  rw [List.length_drop] at h
  rw [if_neg (by omega), List.drop_drop]
theorem entR_bad {b : List Int} {j : Nat} (h : (b.drop (16 * j)).length < 16) : entR b j = none := by
  unfold entR
  rw [List.length_drop] at h
  rw [if_pos (by omega)]
theorem short_two {d : List Int} (h : d.length < 16) : ∃ (x e1 : Int) (d1 d2 : List Int), rNum 8 (0, d) = (x, (e1, d1)) ∧ rNum 8 (e1, d1) = (0, (6, d2)) ∧ ∀ z ∈ d1, z ∈ d := by
  by_cases h8 : d.length < 8
  · refine ⟨0, 6, d, d, ?_, ?_, fun z hz => hz⟩
    · unfold rNum; rw [if_neg (by simp), if_pos h8]
    · unfold rNum; rw [if_pos (by simp)]
  · refine ⟨leN (d.take 8), 0, d.drop 8, d.drop 8, ?_, ?_, fun z hz => List.mem_of_mem_drop hz⟩
    · unfold rNum; rw [if_neg (by simp), if_neg h8]
    · unfold rNum; rw [if_neg (by simp), if_pos (by show (d.drop 8).length < 8; rw [List.length_drop]; omega)]
set_option maxHeartbeats 8000000 in
set_option maxRecDepth 100000 in
theorem values_bad (cs : Array Value) {sk wa sa od re sg cp bl bs : Int} {A : Option Addr} {n c : Nat} (hc : Cf cs sk wa sa od re sg cp bl bs A n c) (w : World) (h1 : 1 ≤ sk ∧ sk ≤ 3) (h2 : 1 ≤ wa ∧ wa ≤ 3) (h3 : 64 ≤ bl ∧ bl ≤ 575) (Ah : Option Addr) (nh ch : Nat) (hbad : (nh : Int) ≠ hdN (fld sk wa) (bl / 16)) :
    Calls Tryz.prog 12 #[.agg cs, .slice Ah nh ch] w fun e w' => e = .returned (.tuple #[.slice none 0 0, .slice none 0 0, .int .i64 1]) ∧ Below w.heap.size w w' := by
  have BX := Aside0.mk (heap_alloc_new w (.cells cs 37))
  have HB := Aside0.mk (below_alloc (Below.refl w.heap.size w) (.cells cs 37))
  have HC := Aside0.mk hc
  have c24 := cf_at BX.out 24 hc.c24
  have HH := Aside0.mk (And.intro h1 h2)
  have H3 := Aside0.mk h3
  obtain ⟨hd, hdd⟩ : ∃ hd, hd = hdN (fld sk wa) (bl / 16) := ⟨_, rfl⟩
  rw [← hdd] at hbad
  have HDD := Aside0.mk hdd
  have g1 : ((nh : Int) != hd) = true := by rw [bne_iff_ne]; exact hbad
  have g2 : ((nh : Int) == hd) = false := by rw [beq_eq_false_iff_ne]; exact hbad
  clear hc h1 h2 hbad hdd
  go_enter Tryz.func12, Tryz.ntmps12
  go_wp2_with (first | (refine load_cfgG (cs := cs) (g := w.heap.size) (by rfl) (by rfl) (by rfl) HC.out.sz BX.out ?_) | fail)
  refine (cheads_calls cs HC.out _ HH.out.1 HH.out.2 H3.out).mono ?_
  rintro e w2 ⟨rfl, hb⟩
  rw [← HDD.out]
  replace HB := Aside0.mk (below_step HB.out hb)
  clear hb c24
  go_wp2_with (first | fail)
  exact bodyPost_ret (v := .tuple #[.slice none 0 0, .slice none 0 0, .int .i64 1]) (by simp [results, Tryz.results12, go_sem]) rfl ⟨rfl, HB.out⟩
set_option maxHeartbeats 8000000 in
set_option maxRecDepth 100000 in
theorem rvalues_bad (cs : Array Value) {sk wa sa od re sg cp bl bs : Int} {A : Option Addr} {n c : Nat} (hc : Cf cs sk wa sa od re sg cp bl bs A n c) (w : World) (h1 : 1 ≤ sk ∧ sk ≤ 3) (h2 : 1 ≤ wa ∧ wa ≤ 3) (h3 : 64 ≤ bl ∧ bl ≤ 575) (Ah : Option Addr) (nh ch : Nat) (hbad : (nh : Int) ≠ hdN (fld sk wa) (bl / 16)) :
    Calls Tryz.prog 13 #[.agg cs, .slice Ah nh ch] w fun e w' => e = .returned (.tuple #[.slice none 0 0, .slice none 0 0, .int .i64 1]) ∧ Below w.heap.size w w' := by
  have BX := Aside0.mk (heap_alloc_new w (.cells cs 37))
  have HB := Aside0.mk (below_alloc (Below.refl w.heap.size w) (.cells cs 37))
  have HC := Aside0.mk hc
  have c24 := cf_at BX.out 24 hc.c24
  have HH := Aside0.mk (And.intro h1 h2)
  have H3 := Aside0.mk h3
  obtain ⟨hd, hdd⟩ : ∃ hd, hd = hdN (fld sk wa) (bl / 16) := ⟨_, rfl⟩
  rw [← hdd] at hbad
  have HDD := Aside0.mk hdd
  have g1 : ((nh : Int) != hd) = true := by rw [bne_iff_ne]; exact hbad
  have g2 : ((nh : Int) == hd) = false := by rw [beq_eq_false_iff_ne]; exact hbad
  clear hc h1 h2 hbad hdd
  go_enter Tryz.func13, Tryz.ntmps13
  go_wp2_with (first | (refine load_cfgG (cs := cs) (g := w.heap.size) (by rfl) (by rfl) (by rfl) HC.out.sz BX.out ?_) | fail)
  refine (heads_calls cs HC.out _ HH.out.1 HH.out.2 (by have := H3.out; omega)).mono ?_
  rintro e w2 ⟨rfl, hb⟩
  rw [headsN_is HH.out.1 HH.out.2 H3.out, ← HDD.out]
  replace HB := Aside0.mk (below_step HB.out hb)
  clear hb c24
  go_wp2_with (first | fail)
  exact bodyPost_ret (v := .tuple #[.slice none 0 0, .slice none 0 0, .int .i64 1]) (by simp [results, Tryz.results13, go_sem]) rfl ⟨rfl, HB.out⟩
set_option maxHeartbeats 8000000 in
set_option maxRecDepth 100000 in
theorem values_good (cs : Array Value) {sk wa sa od re sg cp bl bs : Int} {A : Option Addr} {n c : Nat} (hc : Cf cs sk wa sa od re sg cp bl bs A n c) (w : World) (h1 : 1 ≤ sk ∧ sk ≤ 3) (h2 : 1 ≤ wa ∧ wa ≤ 3) (h3 : 64 ≤ bl ∧ bl ≤ 575) (hn : (n : Int) = fld sk wa) (Ah : Option Addr) (ch : Nat) (hs : List (List Int)) (hh : kS.C w Ah hs.length hs) (hch : hs.length ≤ ch) (hby : ∀ b ∈ hs, ∀ z ∈ b, (0 : Int) ≤ z ∧ z < 256) (hbl : ∀ b ∈ hs, b.length ≤ 140737488351232) (hd : (hs.length : Int) = hdN (fld sk wa) (bl / 16)) :
    Calls Tryz.prog 12 #[.agg cs, .slice Ah hs.length ch] w fun e w' => ∃ (u v : Value) (lu lv : List Int) (er : Int), valF n (bl / 16).toNat hs.length hs = (lu, lv, er) ∧ e = .returned (.tuple #[u, v, .int .i64 er]) ∧ Kd.R (Kd.int .i64) 2 w' w.heap.size (fun _ => True) u lu ∧ Kd.R (Kd.int .i64) 2 w' w.heap.size (fun _ => True) v lv ∧ Below w.heap.size w w' := by
  have hF := (count_is h1 h2).2
  obtain ⟨nn, hnn⟩ : ∃ nn : Nat, (nn : Int) = bl / 16 := ⟨(bl / 16).toNat, by omega⟩
  have hnn1 : 4 ≤ nn ∧ nn ≤ 35 := by omega
  have hn24 : 4 ≤ n ∧ n ≤ 24 := by omega
  have hin : ∀ i : Nat, i < hs.length → i * nn < n ∧ i < 24 := by
    intro i hi
    have hk : (i : Int) < hdN (n : Int) (nn : Int) := by rw [hn, hnn, ← hd]; omega
    unfold hdN at hk
    have h5 : (i : Int) * (nn : Int) < (n : Int) := by
      have h6 : (i : Int) + 1 ≤ ((n : Int) + (nn : Int) - 1) / (nn : Int) := by omega
      have h7 := (Int.le_ediv_iff_mul_le (by omega)).1 h6
      rw [Int.add_mul] at h7
      omega
    have h8 : i * nn < n := by exact_mod_cast h5
    have : i * 4 ≤ i * nn := Nat.mul_le_mul_left _ hnn1.1
    omega
  have hend : n ≤ hs.length * nn := by
    have hk : (hs.length : Int) = ((n : Int) + (nn : Int) - 1) / (nn : Int) := by rw [hd, ← hn, ← hnn]; rfl
    have h6 : ¬ ((hs.length : Int) + 1 ≤ ((n : Int) + (nn : Int) - 1) / (nn : Int)) := by omega
    rw [Int.le_ediv_iff_mul_le (by omega), Int.add_mul] at h6
    have h7 : (hs.length : Int) * (nn : Int) = ((hs.length * nn : Nat) : Int) := (Int.natCast_mul _ _).symm
    omega
  obtain ⟨hdv, hdd⟩ : ∃ hdv, hdv = hdN (fld sk wa) (nn : Int) := ⟨_, rfl⟩
  have hdl : (hs.length : Int) = hdv := by rw [hdd, hnn]; exact hd
  have g1 : ((hs.length : Int) != hdv) = false := by rw [bne_eq_false_iff_eq]; exact hdl
  have g2 : ((hs.length : Int) == hdv) = true := by rw [beq_iff_eq]; exact hdl
  have g3 : ¬ (nn : Int) < 1 := by omega
  have g4 : (hs.length : Int) ≤ 1000 := by
    have := hin (hs.length - 1)
    omega
  have g5 : decide ((nn : Int) < 1) = false := by simp; omega
  have BX := Aside0.mk (heap_alloc_new w (.cells cs 37))
  have HB := Aside0.mk (below_alloc (Below.refl w.heap.size w) (.cells cs 37))
  have HC := Aside0.mk hc
  have HDD := Aside0.mk hdd
  have HIN := Aside0.mk hin
  have HEND := Aside0.mk hend
  have HBY := Aside0.mk hby
  have HBL := Aside0.mk hbl
  have HHS := Aside0.mk hh
  have HNN := Aside0.mk (And.intro hnn1 hn24)
  have c24 := cf_at BX.out 24 hc.c24
  have HH := Aside0.mk (And.intro h1 h2)
  have H3 := Aside0.mk h3
  have hnn' : bl / 16 = (nn : Int) := hnn.symm
  have HVF := Aside0.mk (show valF n (bl / 16).toNat hs.length hs = match runK nn hs n with
    | none => ([], [], 6)
    | some s => if s.2.2 then ([], [], 8) else (s.1, s.2.1, 0) by unfold valF; rw [if_neg (by simp), hnn', Int.toNat_natCast])
  obtain ⟨VF, hVF⟩ : ∃ VF, VF = valF n (bl / 16).toNat hs.length hs := ⟨_, rfl⟩
  rw [← hVF] at HVF ⊢
  clear hc h1 h2 hdd hdl hF hnn hnn1 hn24 hin hend hh hby hbl hd hn hVF
  go_enter Tryz.func12, Tryz.ntmps12
  go_wp2_with (first | (refine load_cfgG (cs := cs) (g := w.heap.size) (by rfl) (by rfl) (by rfl) HC.out.sz BX.out ?_) | fail)
  refine (cheads_calls cs HC.out _ HH.out.1 HH.out.2 H3.out).mono ?_
  rintro e w2 ⟨rfl, hb⟩
  rw [hnn', ← HDD.out]
  replace BX := Aside0.mk (blk_below BX.out hb)
  replace HB := Aside0.mk (below_step HB.out hb)
  clear hb c24
  go_wp2_with (first | fail)
  go_loopw [8, 9, 10, 30] (fun v8 v9 v10 v30 wr => ∃ (i : Nat) (v a : List Int) (bad : Bool) (eb : Int), v30 = .int .i64 (i : Int) ∧ i ≤ hs.length ∧ v10 = .int .i64 eb ∧ Aside0 (eb = if bad = true then 8 else 0) ∧ Aside0 (runK nn hs (min (i * nn) n) = some (v, a, bad)) ∧ Aside0 (wr.heap[w.heap.size]? = some (.cells cs 37 (0, 0))) ∧ Aside0 (Kd.R (Kd.int .i64) 2 wr w.heap.size (fun _ => True) v8 v) ∧ Aside0 (Kd.R (Kd.int .i64) 2 wr w.heap.size (fun _ => True) v9 a) ∧ Aside0 (Apart v8 v9) ∧ Aside0 (Below w.heap.size w wr)) (fun _ _ _ v30 _ => hs.length - (RowKit.intOf v30).toNat)
  case atStart => exact ⟨0, [], [], false, 0, rfl, Nat.zero_le _, rfl, Aside0.mk rfl, Aside0.mk (by rw [Nat.zero_mul, Nat.zero_min]; rfl), BX, Aside0.mk (Kd.R_nil _ _ _ _ _), Aside0.mk (Kd.R_nil _ _ _ _ _), Aside0.mk (fun k hk => by cases hk), HB⟩
  case round =>
    clear BX HB
    obtain ⟨i, v, a, bad, eb, rfl, hi, rfl, HE, HRK, BX, HV, HA, HAP, HB⟩ := hrel
    by_cases hlt : i < hs.length
    · obtain ⟨hin1, hin2⟩ := HIN.out i hlt
      obtain ⟨q, hq⟩ : ∃ q, q = i * nn := ⟨_, rfl⟩
      obtain ⟨m, hm⟩ : ∃ m, n = q + m := ⟨n - q, by omega⟩
      obtain ⟨cnt, hcnt⟩ : ∃ cnt : Nat, ((m : Int) < (nn : Int) ∧ m = cnt ∨ ¬ (m : Int) < (nn : Int) ∧ nn = cnt) := by
        by_cases hx : m < nn
        · exact ⟨m, Or.inl ⟨by omega, rfl⟩⟩
        · exact ⟨nn, Or.inr ⟨by omega, rfl⟩⟩
      have hmq : 0 < m ∧ q ≤ 24 ∧ m ≤ 24 := by have := HNN.out; omega
      have HM := Aside0.mk (show n = q + m ∧ q = i * nn ∧ 0 < cnt ∧ cnt ≤ nn ∧ cnt ≤ m ∧ (cnt = m ∨ cnt = nn) ∧ i < hs.length by have := HNN.out; omega)
      rw [Nat.min_eq_left (by omega), ← hq] at HRK
      obtain ⟨ad, ce, hAd, hce, ⟨Ab, cb, rfl, hcb, hCb⟩, hcell⟩ := Kd.C_get HHS.out [] (i : Int) (by omega) (by omega)
      obtain ⟨b, hb⟩ : ∃ b, b = hs.getD (i : Int).toNat [] := ⟨_, rfl⟩
      rw [← hb] at hCb hcb hcell
      have hbg : hs.getD i [] = b := by rw [hb, Int.toNat_natCast]
      have hbm : b ∈ hs := by
        rw [← hbg, List.getD_eq_getElem?_getD, List.getElem?_eq_getElem hlt]
        exact List.getElem_mem hlt
      have hk1 : w.cell? (ad.add i) = some (.slice Ab b.length cb) := cell_add (hcell 0 _ rfl)
      have hk2 := pw_cell_below HB.out hk1
      have CB := Aside0.mk hCb
      have HBb := Aside0.mk (And.intro hcb (And.intro (HBL.out b hbm) (HBY.out b hbm)))
      have HBG := Aside0.mk hbg
      have m1 : (i : Int) * (nn : Int) = (q : Int) := by rw [hq]; exact (Int.natCast_mul i nn).symm
      have m2 : (n : Int) - (q : Int) = (m : Int) := by omega
      have m3 : (q : Int) ≤ 1000 := by omega
      have m4 : (m : Int) ≤ 1000 := by omega
      have m5 : (cnt : Int) ≤ 1000 := by have := HM.out; have := HNN.out; omega
      have c2 := cf_at BX.out 2 HC.out.c2
      have hAd' := hAd
      subst hAd'
      clear hce hCb hcb hcell hb hbg hbm hk1 hq hm hmq hin1 hin2 hi c2 hAd
      go_wp2_with (first | fail)
      refine (read_calls Ab cb b HBb.out.2.1 HBb.out.1 _ (Kd.C_below CB.out HB.out)).mono ?_
      rintro e w3 ⟨rd, rfl, hR, hrd, hb3⟩
      have L8 := Kd.R_lt HV.out
      have L9 := Kd.R_lt HA.out
      have HSP := Aside0.mk (Sep.of_apart (g := rd) HAP.out L8 L9)
      have HLO := Aside0.mk hrd
      have GRD := Aside0.mk (show w.heap.size ≤ rd from Nat.le_trans HB.out.size hrd)
      obtain ⟨lo, hlo⟩ : ∃ lo, lo = wr.heap.size := ⟨_, rfl⟩
      rw [← hlo] at hR HSP HLO
      replace BX := Aside0.mk (blk_below BX.out hb3)
      replace HV := Aside0.mk (Kd.R_below HV.out hb3)
      replace HA := Aside0.mk (Kd.R_below HA.out hb3)
      replace HB := Aside0.mk (below_step HB.out hb3)
      have RD := Aside0.mk hR
      clear hR hrd hb3 L8 L9 hlo hk2 HAP
      have c2 := cf_at BX.out 2 HC.out.c2
      rcases hcnt with ⟨hx, rfl⟩ | ⟨hx, rfl⟩
      · go_wp2_with (first | fail)
        go_loopw [8, 9, 10, 46] (fun v8 v9 v10 v46 wi => ∃ (j : Nat) (v a : List Int) (bad : Bool) (eb : Int), v46 = .int .i64 (j : Int) ∧ j ≤ m ∧ v10 = .int .i64 eb ∧ Aside0 (eb = if bad = true then 8 else 0) ∧ Aside0 (runK nn hs (q + j) = some (v, a, bad)) ∧ Aside0 (wi.heap[w.heap.size]? = some (.cells cs 37 (0, 0))) ∧ Aside0 (RdAtL lo wi rd 0 (b.drop (16 * j))) ∧ Aside0 (Kd.R (Kd.int .i64) 2 wi w.heap.size (fun _ => True) v8 v) ∧ Aside0 (Kd.R (Kd.int .i64) 2 wi w.heap.size (fun _ => True) v9 a) ∧ Aside0 (Sep lo rd v8 v9) ∧ Aside0 (Below w.heap.size w wi)) (fun _ _ _ v46 _ => m - (RowKit.intOf v46).toNat)
        case atStart => exact ⟨0, v, a, bad, eb, rfl, Nat.zero_le _, rfl, HE, HRK, BX, Aside0.mk (by rw [Nat.mul_zero, List.drop_zero]; exact RD.out), HV, HA, HSP, HB⟩
        case round =>
          clear HE HRK BX RD HV HA HSP HB c2
          obtain ⟨j, v, a, bad, eb, rfl, hj, rfl, HE, HRK, BX, RD, HV, HA, HSP, HB⟩ := hrel
          by_cases hjl : j < m
          · have hj2 : (j : Int) < (m : Int) := by omega
            have HJ := Aside0.mk hjl
            obtain ⟨d, hd⟩ : ∃ d, d = b.drop (16 * j) := ⟨_, rfl⟩
            have hall : ∀ z ∈ d, (0 : Int) ≤ z ∧ z < 256 := fun z hz => HBb.out.2.2 z (List.mem_of_mem_drop (hd ▸ hz))
            have HAL := Aside0.mk hall
            have hen : entK nn hs (q + j) = entR b j := by
              have h9 := HM.out
              have h10 := HNN.out
              unfold entK
              rw [h9.2.1, Nat.mul_comm i nn, Nat.mul_add_div (by omega), Nat.mul_add_mod, Nat.div_eq_of_lt (by omega), Nat.mod_eq_of_lt (by omega), Nat.add_zero, HBG.out]
            have HEN := Aside0.mk hen
            have HD := Aside0.mk hd
            rw [← hd] at RD
            have HQL := Aside0.mk (show q + j ≤ 24 ∧ v.length = q + j ∧ a.length = q + j by have h9 := HM.out; have h10 := HNN.out; obtain ⟨l1, l2⟩ := runK_len HRK.out; exact ⟨by omega, l1, l2⟩)
            by_cases h16 : 16 ≤ d.length
            · have H16 := Aside0.mk h16
              clear hall hen hd h16
              have q1 : rNum 8 (0, d) = (leN (d.take 8), (0, d.drop 8)) := by
                have := H16.out
                unfold rNum
                rw [if_neg (by simp), if_neg (by simp; omega)]
              have q2 : rNum 8 (0, d.drop 8) = (leN ((d.drop 8).take 8), (0, (d.drop 8).drop 8)) := by
                have := H16.out
                unfold rNum
                rw [if_neg (by simp), if_neg (by rw [List.length_drop]; omega)]
              have Q1 := Aside0.mk q1
              have Q2 := Aside0.mk q2
              clear q1 q2
              go_wp2_with (first | fail)
              refine (int_calls2 Q1.out HAL.out RD.out).mono ?_
              rintro e w4 ⟨rfl, hR, hg⟩
              obtain ⟨x, hx⟩ : ∃ x, x = wrap64 (leN (d.take 8)) := ⟨_, rfl⟩
              rw [← hx]
              have HX := Aside0.mk hx
              clear hx
              obtain ⟨crd, hcrd⟩ := rdL_blk RD.out
              replace BX := Aside0.mk (blk_gr BX.out hg (ne_types BX.out hcrd))
              replace HV := Aside0.mk (Kd.R_mono (Kd.R_grown (Kd.R_types HV.out hcrd (by decide)) hg (fun k hk e => hk.2 (Option.some.inj e))) (fun _ _ => trivial))
              replace HA := Aside0.mk (Kd.R_mono (Kd.R_grown (Kd.R_types HA.out hcrd (by decide)) hg (fun k hk e => hk.2 (Option.some.inj e))) (fun _ _ => trivial))
              replace HB := Aside0.mk (pw_below_grown HB.out (some rd) HB.out.size hg (fun k hk => by cases hk; exact GRD.out))
              replace RD := Aside0.mk hR
              clear hR hg hcrd crd
              go_wp2_with (first | fail)
              refine (int_calls2 Q2.out (fun z hz => HAL.out z (List.mem_of_mem_drop hz)) RD.out).mono ?_
              rintro e w5 ⟨rfl, hR, hg⟩
              obtain ⟨y, hy⟩ : ∃ y, y = wrap64 (leN ((d.drop 8).take 8)) := ⟨_, rfl⟩
              rw [← hy]
              have HY := Aside0.mk hy
              clear hy
              obtain ⟨crd, hcrd⟩ := rdL_blk RD.out
              replace BX := Aside0.mk (blk_gr BX.out hg (ne_types BX.out hcrd))
              replace HV := Aside0.mk (Kd.R_mono (Kd.R_grown (Kd.R_types HV.out hcrd (by decide)) hg (fun k hk e => hk.2 (Option.some.inj e))) (fun _ _ => trivial))
              replace HA := Aside0.mk (Kd.R_mono (Kd.R_grown (Kd.R_types HA.out hcrd (by decide)) hg (fun k hk e => hk.2 (Option.some.inj e))) (fun _ _ => trivial))
              replace HB := Aside0.mk (pw_below_grown HB.out (some rd) HB.out.size hg (fun k hk => by cases hk; exact GRD.out))
              replace RD := Aside0.mk hR
              clear hR hg hcrd crd
              rw [List.drop_drop] at RD
              have HRN := Aside0.mk (show runK nn hs (q + j + 1) = some (v ++ [x], a ++ [y], bad || decide (y < 0)) by
                rw [runK, HRK.out, HEN.out, entR_good (by rw [← HD.out]; exact H16.out), ← HD.out, ← HX.out, ← HY.out]; rfl)
              have HDN := Aside0.mk (show d.drop (8 + 8) = b.drop (16 * (j + 1)) by rw [HD.out, List.drop_drop]; congr 1)
              rw [HDN.out] at RD
              go_wp2_with (first | fail)
              refine (err_calls rd 0 _ _ RD.out).mono ?_
              rintro e w6 ⟨rfl, rfl⟩
              by_cases hyn : y < 0
              case' pos =>
                have HBD := Aside0.mk (show (8 : Int) = if (bad || decide (y < 0)) = true then 8 else 0 by rw [if_pos (by simp [hyn])])
              case' neg =>
                have HBD := Aside0.mk (show eb = if (bad || decide (y < 0)) = true then 8 else 0 by rw [HE.out]; simp [hyn])
              all_goals
                go_wp2_with (first | ((with_reducible refine gate_builtin (b := .append) (xs := #[.tmp 57, .tmp 59]) rfl ?_); at_builtin; refine Kd.R_append (Kd.int .i64) (w0 := w) w.heap.size rfl (.tmp 57) (.tmp 59) 30 2 (.int .i64 0) 8 rfl Tryz.underlying30 infV rfl (by decide) (by omega) u8 v x [.int .i64 x] (fun _ => True) (fun _ => False) rfl rfl rfl (fun _ hk => hk.elim) (fun _ _ => trivial) HV.out HB.out HB.out.size ?aL ?_; (case aL => have := HQL.out; omega); intro v59 w7 h5 hb5 hg5 hat5; obtain ⟨crd, hcrd⟩ := rdL_blk RD.out; have hrl := blk_lt hcrd; have HSN := Aside0.mk (Sep.step (W := w6) HSP.out hat5 (Kd.R_lt HA.out) hrl); replace RD := Aside0.mk (RdRow RD.out HLO.out hg5 HSP.out.u); replace BX := Aside0.mk (blk_gro BX.out hg5 (Kd.R_ne HV.out BX.out (by decide))); replace HA := Aside0.mk (Kd.R_grown2 HA.out rfl hg5 (fun k hk => HSP.out.uv k hk)); replace HV := Aside0.mk h5; replace HB := Aside0.mk hb5; replace HSP := Aside0.mk HSN.out; clear h5 hb5 hg5 hat5 hcrd crd hrl HSN) | ((with_reducible refine gate_builtin (b := .append) (xs := #[.tmp 61, .tmp 63]) rfl ?_); at_builtin; refine Kd.R_append (Kd.int .i64) (w0 := w) w.heap.size rfl (.tmp 61) (.tmp 63) 30 2 (.int .i64 0) 8 rfl Tryz.underlying30 infV rfl (by decide) (by omega) u9 a y [.int .i64 y] (fun _ => True) (fun _ => False) rfl rfl rfl (fun _ hk => hk.elim) (fun _ _ => trivial) HA.out HB.out HB.out.size ?aL ?_; (case aL => have := HQL.out; omega); intro v63 w8 h5 hb5 hg5 hat5; obtain ⟨crd, hcrd⟩ := rdL_blk RD.out; have hrl := blk_lt hcrd; have HSN := Aside0.mk (Sep.step (W := w7) HSP.out.swap hat5 (Kd.R_lt HV.out) hrl); replace RD := Aside0.mk (RdRow RD.out HLO.out hg5 HSP.out.swap.u); replace BX := Aside0.mk (blk_gro BX.out hg5 (Kd.R_ne HA.out BX.out (by decide))); replace HV := Aside0.mk (Kd.R_grown2 HV.out rfl hg5 (fun k hk => HSP.out.swap.uv k hk)); replace HA := Aside0.mk h5; replace HB := Aside0.mk hb5; replace HSP := Aside0.mk HSN.out.swap; clear h5 hb5 hg5 hat5 hcrd crd hrl HSN) | fail)
                go_roundw
                case measure => have := HJ.out; simp only [RowKit.intOf]; omega
                case rel => exact ⟨j + 1, v ++ [x], a ++ [y], _, _, by go_num, HJ.out, rfl, HBD, HRN, BX, RD, HV, HA, HSP, HB⟩
            · obtain ⟨x, e1, d1, d2, q1, q2, hsub⟩ := short_two (d := d) (by omega)
              have Q1 := Aside0.mk q1
              have Q2 := Aside0.mk q2
              have HSU := Aside0.mk hsub
              have hnone : runK nn hs n = none := by
                have h9 := HM.out
                have h1 : runK nn hs (q + j + 1) = none := by rw [runK, HRK.out, HEN.out, entR_bad (by rw [← HD.out]; omega)]; rfl
                have h2 := runK_none h1 (n - (q + j + 1))
                rwa [show q + j + 1 + (n - (q + j + 1)) = n by omega] at h2
              have HV6 := Aside0.mk (show VF = ([], [], 6) by rw [HVF.out, hnone])
              clear q1 q2 hsub hnone hall hen hd h16
              go_wp2_with (first | fail)
              refine (int_calls2 Q1.out HAL.out RD.out).mono ?_
              rintro e w4 ⟨rfl, hR, hg⟩
              replace HB := Aside0.mk (pw_below_grown HB.out (some rd) HB.out.size hg (fun k hk => by cases hk; exact GRD.out))
              replace RD := Aside0.mk hR
              clear hR hg
              go_wp2_with (first | fail)
              refine (int_calls2 Q2.out (fun z hz => HAL.out z (HSU.out z hz)) RD.out).mono ?_
              rintro e w5 ⟨rfl, hR, hg⟩
              replace HB := Aside0.mk (pw_below_grown HB.out (some rd) HB.out.size hg (fun k hk => by cases hk; exact GRD.out))
              replace RD := Aside0.mk hR
              clear hR hg
              go_wp2_with (first | fail)
              refine (err_calls rd 6 _ _ RD.out).mono ?_
              rintro e w6 ⟨rfl, rfl⟩
              go_wp2_with (first | fail)
              exact bodyPost_ret (v := .tuple #[.slice none 0 0, .slice none 0 0, .int .i64 6]) (by simp [results, Tryz.results12, go_sem]) rfl ⟨_, _, [], [], 6, HV6.out, rfl, Kd.R_nil _ _ _ _ _, Kd.R_nil _ _ _ _ _, HB.out⟩
          · obtain rfl : m = j := by omega
            have HRN := Aside0.mk (show runK nn hs (min ((i + 1) * nn) n) = some (v, a, bad) by
              have h9 := HM.out
              rw [show min ((i + 1) * nn) n = q + m by rw [Nat.succ_mul, ← h9.2.1]; omega]
              exact HRK.out)
            have HIL := Aside0.mk (show i < hs.length from HM.out.2.2.2.2.2.2)
            clear hjl hj
            go_wp2_with (first | fail)
            go_roundw
            case measure => have := HIL.out; simp only [RowKit.intOf]; omega
            case rel => exact ⟨i + 1, v, a, bad, _, by go_num, HIL.out, rfl, HE, HRN, BX, HV, HA, Aside0.mk HSP.out.uv, HB⟩
      · go_wp2_with (first | fail)
        go_loopw [8, 9, 10, 46] (fun v8 v9 v10 v46 wi => ∃ (j : Nat) (v a : List Int) (bad : Bool) (eb : Int), v46 = .int .i64 (j : Int) ∧ j ≤ nn ∧ v10 = .int .i64 eb ∧ Aside0 (eb = if bad = true then 8 else 0) ∧ Aside0 (runK nn hs (q + j) = some (v, a, bad)) ∧ Aside0 (wi.heap[w.heap.size]? = some (.cells cs 37 (0, 0))) ∧ Aside0 (RdAtL lo wi rd 0 (b.drop (16 * j))) ∧ Aside0 (Kd.R (Kd.int .i64) 2 wi w.heap.size (fun _ => True) v8 v) ∧ Aside0 (Kd.R (Kd.int .i64) 2 wi w.heap.size (fun _ => True) v9 a) ∧ Aside0 (Sep lo rd v8 v9) ∧ Aside0 (Below w.heap.size w wi)) (fun _ _ _ v46 _ => nn - (RowKit.intOf v46).toNat)
        case atStart => exact ⟨0, v, a, bad, eb, rfl, Nat.zero_le _, rfl, HE, HRK, BX, Aside0.mk (by rw [Nat.mul_zero, List.drop_zero]; exact RD.out), HV, HA, HSP, HB⟩
        case round =>
          clear HE HRK BX RD HV HA HSP HB c2
          obtain ⟨j, v, a, bad, eb, rfl, hj, rfl, HE, HRK, BX, RD, HV, HA, HSP, HB⟩ := hrel
          by_cases hjl : j < nn
          · have hj2 : (j : Int) < (nn : Int) := by omega
            have HJ := Aside0.mk hjl
            obtain ⟨d, hd⟩ : ∃ d, d = b.drop (16 * j) := ⟨_, rfl⟩
            have hall : ∀ z ∈ d, (0 : Int) ≤ z ∧ z < 256 := fun z hz => HBb.out.2.2 z (List.mem_of_mem_drop (hd ▸ hz))
            have HAL := Aside0.mk hall
            have hen : entK nn hs (q + j) = entR b j := by
              have h9 := HM.out
              have h10 := HNN.out
              unfold entK
              rw [h9.2.1, Nat.mul_comm i nn, Nat.mul_add_div (by omega), Nat.mul_add_mod, Nat.div_eq_of_lt (by omega), Nat.mod_eq_of_lt (by omega), Nat.add_zero, HBG.out]
            have HEN := Aside0.mk hen
            have HD := Aside0.mk hd
            rw [← hd] at RD
            have HQL := Aside0.mk (show q + j ≤ 24 ∧ v.length = q + j ∧ a.length = q + j by have h9 := HM.out; have h10 := HNN.out; obtain ⟨l1, l2⟩ := runK_len HRK.out; exact ⟨by omega, l1, l2⟩)
            by_cases h16 : 16 ≤ d.length
            · have H16 := Aside0.mk h16
              clear hall hen hd h16
              have q1 : rNum 8 (0, d) = (leN (d.take 8), (0, d.drop 8)) := by
                have := H16.out
                unfold rNum
                rw [if_neg (by simp), if_neg (by simp; omega)]
              have q2 : rNum 8 (0, d.drop 8) = (leN ((d.drop 8).take 8), (0, (d.drop 8).drop 8)) := by
                have := H16.out
                unfold rNum
                rw [if_neg (by simp), if_neg (by rw [List.length_drop]; omega)]
              have Q1 := Aside0.mk q1
              have Q2 := Aside0.mk q2
              clear q1 q2
              go_wp2_with (first | fail)
              refine (int_calls2 Q1.out HAL.out RD.out).mono ?_
              rintro e w4 ⟨rfl, hR, hg⟩
              obtain ⟨x, hx⟩ : ∃ x, x = wrap64 (leN (d.take 8)) := ⟨_, rfl⟩
              rw [← hx]
              have HX := Aside0.mk hx
              clear hx
              obtain ⟨crd, hcrd⟩ := rdL_blk RD.out
              replace BX := Aside0.mk (blk_gr BX.out hg (ne_types BX.out hcrd))
              replace HV := Aside0.mk (Kd.R_mono (Kd.R_grown (Kd.R_types HV.out hcrd (by decide)) hg (fun k hk e => hk.2 (Option.some.inj e))) (fun _ _ => trivial))
              replace HA := Aside0.mk (Kd.R_mono (Kd.R_grown (Kd.R_types HA.out hcrd (by decide)) hg (fun k hk e => hk.2 (Option.some.inj e))) (fun _ _ => trivial))
              replace HB := Aside0.mk (pw_below_grown HB.out (some rd) HB.out.size hg (fun k hk => by cases hk; exact GRD.out))
              replace RD := Aside0.mk hR
              clear hR hg hcrd crd
              go_wp2_with (first | fail)
              refine (int_calls2 Q2.out (fun z hz => HAL.out z (List.mem_of_mem_drop hz)) RD.out).mono ?_
              rintro e w5 ⟨rfl, hR, hg⟩
              obtain ⟨y, hy⟩ : ∃ y, y = wrap64 (leN ((d.drop 8).take 8)) := ⟨_, rfl⟩
              rw [← hy]
              have HY := Aside0.mk hy
              clear hy
              obtain ⟨crd, hcrd⟩ := rdL_blk RD.out
              replace BX := Aside0.mk (blk_gr BX.out hg (ne_types BX.out hcrd))
              replace HV := Aside0.mk (Kd.R_mono (Kd.R_grown (Kd.R_types HV.out hcrd (by decide)) hg (fun k hk e => hk.2 (Option.some.inj e))) (fun _ _ => trivial))
              replace HA := Aside0.mk (Kd.R_mono (Kd.R_grown (Kd.R_types HA.out hcrd (by decide)) hg (fun k hk e => hk.2 (Option.some.inj e))) (fun _ _ => trivial))
              replace HB := Aside0.mk (pw_below_grown HB.out (some rd) HB.out.size hg (fun k hk => by cases hk; exact GRD.out))
              replace RD := Aside0.mk hR
              clear hR hg hcrd crd
              rw [List.drop_drop] at RD
              have HRN := Aside0.mk (show runK nn hs (q + j + 1) = some (v ++ [x], a ++ [y], bad || decide (y < 0)) by
                rw [runK, HRK.out, HEN.out, entR_good (by rw [← HD.out]; exact H16.out), ← HD.out, ← HX.out, ← HY.out]; rfl)
              have HDN := Aside0.mk (show d.drop (8 + 8) = b.drop (16 * (j + 1)) by rw [HD.out, List.drop_drop]; congr 1)
              rw [HDN.out] at RD
              go_wp2_with (first | fail)
              refine (err_calls rd 0 _ _ RD.out).mono ?_
              rintro e w6 ⟨rfl, rfl⟩
              by_cases hyn : y < 0
              case' pos =>
                have HBD := Aside0.mk (show (8 : Int) = if (bad || decide (y < 0)) = true then 8 else 0 by rw [if_pos (by simp [hyn])])
              case' neg =>
                have HBD := Aside0.mk (show eb = if (bad || decide (y < 0)) = true then 8 else 0 by rw [HE.out]; simp [hyn])
              all_goals
                go_wp2_with (first | ((with_reducible refine gate_builtin (b := .append) (xs := #[.tmp 57, .tmp 59]) rfl ?_); at_builtin; refine Kd.R_append (Kd.int .i64) (w0 := w) w.heap.size rfl (.tmp 57) (.tmp 59) 30 2 (.int .i64 0) 8 rfl Tryz.underlying30 infV rfl (by decide) (by omega) u8 v x [.int .i64 x] (fun _ => True) (fun _ => False) rfl rfl rfl (fun _ hk => hk.elim) (fun _ _ => trivial) HV.out HB.out HB.out.size ?aL ?_; (case aL => have := HQL.out; omega); intro v59 w7 h5 hb5 hg5 hat5; obtain ⟨crd, hcrd⟩ := rdL_blk RD.out; have hrl := blk_lt hcrd; have HSN := Aside0.mk (Sep.step (W := w6) HSP.out hat5 (Kd.R_lt HA.out) hrl); replace RD := Aside0.mk (RdRow RD.out HLO.out hg5 HSP.out.u); replace BX := Aside0.mk (blk_gro BX.out hg5 (Kd.R_ne HV.out BX.out (by decide))); replace HA := Aside0.mk (Kd.R_grown2 HA.out rfl hg5 (fun k hk => HSP.out.uv k hk)); replace HV := Aside0.mk h5; replace HB := Aside0.mk hb5; replace HSP := Aside0.mk HSN.out; clear h5 hb5 hg5 hat5 hcrd crd hrl HSN) | ((with_reducible refine gate_builtin (b := .append) (xs := #[.tmp 61, .tmp 63]) rfl ?_); at_builtin; refine Kd.R_append (Kd.int .i64) (w0 := w) w.heap.size rfl (.tmp 61) (.tmp 63) 30 2 (.int .i64 0) 8 rfl Tryz.underlying30 infV rfl (by decide) (by omega) u9 a y [.int .i64 y] (fun _ => True) (fun _ => False) rfl rfl rfl (fun _ hk => hk.elim) (fun _ _ => trivial) HA.out HB.out HB.out.size ?aL ?_; (case aL => have := HQL.out; omega); intro v63 w8 h5 hb5 hg5 hat5; obtain ⟨crd, hcrd⟩ := rdL_blk RD.out; have hrl := blk_lt hcrd; have HSN := Aside0.mk (Sep.step (W := w7) HSP.out.swap hat5 (Kd.R_lt HV.out) hrl); replace RD := Aside0.mk (RdRow RD.out HLO.out hg5 HSP.out.swap.u); replace BX := Aside0.mk (blk_gro BX.out hg5 (Kd.R_ne HA.out BX.out (by decide))); replace HV := Aside0.mk (Kd.R_grown2 HV.out rfl hg5 (fun k hk => HSP.out.swap.uv k hk)); replace HA := Aside0.mk h5; replace HB := Aside0.mk hb5; replace HSP := Aside0.mk HSN.out.swap; clear h5 hb5 hg5 hat5 hcrd crd hrl HSN) | fail)
                go_roundw
                case measure => have := HJ.out; simp only [RowKit.intOf]; omega
                case rel => exact ⟨j + 1, v ++ [x], a ++ [y], _, _, by go_num, HJ.out, rfl, HBD, HRN, BX, RD, HV, HA, HSP, HB⟩
            · obtain ⟨x, e1, d1, d2, q1, q2, hsub⟩ := short_two (d := d) (by omega)
              have Q1 := Aside0.mk q1
              have Q2 := Aside0.mk q2
              have HSU := Aside0.mk hsub
              have hnone : runK nn hs n = none := by
                have h9 := HM.out
                have h1 : runK nn hs (q + j + 1) = none := by rw [runK, HRK.out, HEN.out, entR_bad (by rw [← HD.out]; omega)]; rfl
                have h2 := runK_none h1 (n - (q + j + 1))
                rwa [show q + j + 1 + (n - (q + j + 1)) = n by omega] at h2
              have HV6 := Aside0.mk (show VF = ([], [], 6) by rw [HVF.out, hnone])
              clear q1 q2 hsub hnone hall hen hd h16
              go_wp2_with (first | fail)
              refine (int_calls2 Q1.out HAL.out RD.out).mono ?_
              rintro e w4 ⟨rfl, hR, hg⟩
              replace HB := Aside0.mk (pw_below_grown HB.out (some rd) HB.out.size hg (fun k hk => by cases hk; exact GRD.out))
              replace RD := Aside0.mk hR
              clear hR hg
              go_wp2_with (first | fail)
              refine (int_calls2 Q2.out (fun z hz => HAL.out z (HSU.out z hz)) RD.out).mono ?_
              rintro e w5 ⟨rfl, hR, hg⟩
              replace HB := Aside0.mk (pw_below_grown HB.out (some rd) HB.out.size hg (fun k hk => by cases hk; exact GRD.out))
              replace RD := Aside0.mk hR
              clear hR hg
              go_wp2_with (first | fail)
              refine (err_calls rd 6 _ _ RD.out).mono ?_
              rintro e w6 ⟨rfl, rfl⟩
              go_wp2_with (first | fail)
              exact bodyPost_ret (v := .tuple #[.slice none 0 0, .slice none 0 0, .int .i64 6]) (by simp [results, Tryz.results12, go_sem]) rfl ⟨_, _, [], [], 6, HV6.out, rfl, Kd.R_nil _ _ _ _ _, Kd.R_nil _ _ _ _ _, HB.out⟩
          · obtain rfl : nn = j := by omega
            have HRN := Aside0.mk (show runK nn hs (min ((i + 1) * nn) n) = some (v, a, bad) by
              have h9 := HM.out
              rw [show min ((i + 1) * nn) n = q + nn by rw [Nat.succ_mul, ← h9.2.1]; omega]
              exact HRK.out)
            have HIL := Aside0.mk (show i < hs.length from HM.out.2.2.2.2.2.2)
            clear hjl hj
            go_wp2_with (first | fail)
            go_roundw
            case measure => have := HIL.out; simp only [RowKit.intOf]; omega
            case rel => exact ⟨i + 1, v, a, bad, _, by go_num, HIL.out, rfl, HE, HRN, BX, HV, HA, Aside0.mk HSP.out.uv, HB⟩
    · obtain rfl : i = hs.length := by omega
      have hmn : min (hs.length * nn) n = n := Nat.min_eq_right HEND.out
      rw [hmn] at HRK
      clear hmn hlt hi
      cases bad
      case' false =>
        obtain rfl : eb = 0 := HE.out
        have HV6 := Aside0.mk (show VF = (v, a, 0) by rw [HVF.out, HRK.out]; rfl)
      case' true =>
        obtain rfl : eb = 8 := HE.out
        have HV6 := Aside0.mk (show VF = ([], [], 8) by rw [HVF.out, HRK.out]; rfl)
      case' false =>
        go_wp2_with (first | fail)
        exact bodyPost_ret (v := .tuple #[_, _, .int .i64 0]) (by simp [results, Tryz.results12, go_sem]) rfl ⟨_, _, v, a, 0, HV6.out, rfl, HV.out, HA.out, HB.out⟩
      case' true =>
        go_wp2_with (first | fail)
        exact bodyPost_ret (v := .tuple #[.slice none 0 0, .slice none 0 0, .int .i64 8]) (by simp [results, Tryz.results12, go_sem]) rfl ⟨_, _, [], [], 8, HV6.out, rfl, Kd.R_nil _ _ _ _ _, Kd.R_nil _ _ _ _ _, HB.out⟩
theorem Apart.step {u v u' : Value} {W : World} (h : Apart u v) (hat : u'.ownBlock = u.ownBlock ∨ ∃ b, u'.ownBlock = some b ∧ W.heap.size ≤ b) (hv : ∀ k, v.ownBlock = some k → k < W.heap.size) : Apart u' v := by
  rcases hat with e | ⟨b, e, hb⟩
  · exact fun k hk => h k (e ▸ hk)
  · intro k hk e1
    have := hv k e1.symm
    rw [e] at hk
    injection hk with hk
    omega
theorem Apart.swap {u v : Value} (h : Apart u v) : Apart v u := fun k hk e => h k e.symm hk.symm
theorem gnum8 {A : Option Addr} {c : Nat} {d : List Int} (h8 : 8 ≤ d.length) (hc : d.length ≤ c) (hall : ∀ b ∈ d, (0 : Int) ≤ b ∧ b < 256) {w : World} (hC : Kd.C (Kd.int .u8) w A d.length d) :
    Calls Tryz.prog 41 #[.slice A d.length c, .int .i64 8] w fun e w' => ∃ A2 c2, e = .returned (.tuple #[.int .u64 (leN (d.take 8)), .slice A2 (d.drop 8).length c2, .int .i64 0]) ∧ (d.drop 8).length ≤ c2 ∧ Kd.C (Kd.int .u8) w' A2 (d.drop 8).length (d.drop 8) ∧ Below w.heap.size w w' := by
  refine (Go.Proofs.YteeclengpnjlgaaGreat.getnum_calls A c d 8 (by omega) (by omega) hc hall w hC).mono ?_
  have hg : Go.Proofs.YteeclengpnjlgaaGreat.gNum 8 d = (leN (d.take 8), d.drop 8, 0) := by unfold Go.Proofs.YteeclengpnjlgaaGreat.gNum; rw [if_neg (by omega)]
  rw [hg]
  rintro e w' ⟨A2, c2, rfl, hww, hc2, hC2, _⟩
  refine ⟨A2, c2, rfl, hc2, ?_, Go.Proofs.YteeclengpnjlgaaGreat.drew_below _ hww⟩
  rcases hww with rfl | rfl
  · exact hC2
  · exact Kd.C_drew hC2
set_option maxHeartbeats 8000000 in
set_option maxRecDepth 100000 in
theorem rvalues_good (cs : Array Value) {sk wa sa od re sg cp bl bs : Int} {A : Option Addr} {n c : Nat} (hc : Cf cs sk wa sa od re sg cp bl bs A n c) (w : World) (h1 : 1 ≤ sk ∧ sk ≤ 3) (h2 : 1 ≤ wa ∧ wa ≤ 3) (h3 : 64 ≤ bl ∧ bl ≤ 575) (hn : (n : Int) = fld sk wa) (Ah : Option Addr) (ch : Nat) (hs : List (List Int)) (hh : kS.C w Ah hs.length hs) (hch : hs.length ≤ ch) (hby : ∀ b ∈ hs, ∀ z ∈ b, (0 : Int) ≤ z ∧ z < 256) (hbl : ∀ b ∈ hs, b.length ≤ 140737488351232) (hd : (hs.length : Int) = hdN (fld sk wa) (bl / 16)) :
    Calls Tryz.prog 13 #[.agg cs, .slice Ah hs.length ch] w fun e w' => ∃ (u v : Value) (lu lv : List Int) (er : Int), valF n (bl / 16).toNat hs.length hs = (lu, lv, er) ∧ e = .returned (.tuple #[u, v, .int .i64 er]) ∧ Kd.R (Kd.int .i64) 2 w' w.heap.size (fun _ => True) u lu ∧ Kd.R (Kd.int .i64) 2 w' w.heap.size (fun _ => True) v lv ∧ Below w.heap.size w w' := by
  have hF := (count_is h1 h2).2
  obtain ⟨nn, hnn⟩ : ∃ nn : Nat, (nn : Int) = bl / 16 := ⟨(bl / 16).toNat, by omega⟩
  have hnn1 : 4 ≤ nn ∧ nn ≤ 35 := by omega
  have hn24 : 4 ≤ n ∧ n ≤ 24 := by omega
  have hin : ∀ i : Nat, i < hs.length → i * nn < n ∧ i < 24 := by
    intro i hi
    have hk : (i : Int) < hdN (n : Int) (nn : Int) := by rw [hn, hnn, ← hd]; omega
    unfold hdN at hk
    have h5 : (i : Int) * (nn : Int) < (n : Int) := by
      have h6 : (i : Int) + 1 ≤ ((n : Int) + (nn : Int) - 1) / (nn : Int) := by omega
      have h7 := (Int.le_ediv_iff_mul_le (by omega)).1 h6
      rw [Int.add_mul] at h7
      omega
    have h8 : i * nn < n := by exact_mod_cast h5
    have : i * 4 ≤ i * nn := Nat.mul_le_mul_left _ hnn1.1
    omega
  have hend : n ≤ hs.length * nn := by
    have hk : (hs.length : Int) = ((n : Int) + (nn : Int) - 1) / (nn : Int) := by rw [hd, ← hn, ← hnn]; rfl
    have h6 : ¬ ((hs.length : Int) + 1 ≤ ((n : Int) + (nn : Int) - 1) / (nn : Int)) := by omega
    rw [Int.le_ediv_iff_mul_le (by omega), Int.add_mul] at h6
    have h7 : (hs.length : Int) * (nn : Int) = ((hs.length * nn : Nat) : Int) := (Int.natCast_mul _ _).symm
    omega
  obtain ⟨hdv, hdd⟩ : ∃ hdv, hdv = hdN (fld sk wa) (nn : Int) := ⟨_, rfl⟩
  have hdl : (hs.length : Int) = hdv := by rw [hdd, hnn]; exact hd
  have g1 : ((hs.length : Int) != hdv) = false := by rw [bne_eq_false_iff_eq]; exact hdl
  have g2 : ((hs.length : Int) == hdv) = true := by rw [beq_iff_eq]; exact hdl
  have g3 : ¬ bl < 16 := by omega
  have g4 : (hs.length : Int) ≤ 1000 := by
    have := hin (hs.length - 1)
    omega
  have g5 : decide (bl < 16) = false := by simp; omega
  have BX := Aside0.mk (heap_alloc_new w (.cells cs 37))
  have HB := Aside0.mk (below_alloc (Below.refl w.heap.size w) (.cells cs 37))
  have HC := Aside0.mk hc
  have HDD := Aside0.mk hdd
  have HIN := Aside0.mk hin
  have HEND := Aside0.mk hend
  have HBY := Aside0.mk hby
  have HBL := Aside0.mk hbl
  have HHS := Aside0.mk hh
  have HNN := Aside0.mk (And.intro hnn1 hn24)
  have c24 := cf_at BX.out 24 hc.c24
  have HH := Aside0.mk (And.intro h1 h2)
  have H3 := Aside0.mk h3
  have hnn' : bl / 16 = (nn : Int) := hnn.symm
  have HVF := Aside0.mk (show valF n (bl / 16).toNat hs.length hs = match runK nn hs n with
    | none => ([], [], 6)
    | some s => if s.2.2 then ([], [], 8) else (s.1, s.2.1, 0) by unfold valF; rw [if_neg (by simp), hnn', Int.toNat_natCast])
  obtain ⟨VF, hVF⟩ : ∃ VF, VF = valF n (bl / 16).toNat hs.length hs := ⟨_, rfl⟩
  rw [← hVF] at HVF ⊢
  clear hc h1 h2 hdd hdl hF hnn hnn1 hn24 hin hend hh hby hbl hd hn hVF
  go_enter Tryz.func13, Tryz.ntmps13
  go_wp2_with (first | (refine load_cfgG (cs := cs) (g := w.heap.size) (by rfl) (by rfl) (by rfl) HC.out.sz BX.out ?_) | fail)
  refine (heads_calls cs HC.out _ HH.out.1 HH.out.2 (by have := H3.out; omega)).mono ?_
  rintro e w2 ⟨rfl, hb⟩
  rw [headsN_is HH.out.1 HH.out.2 H3.out, hnn', ← HDD.out]
  replace BX := Aside0.mk (blk_below BX.out hb)
  replace HB := Aside0.mk (below_step HB.out hb)
  clear hb c24
  have c24 := cf_at BX.out 24 HC.out.c24
  go_wp2_with (first | fail)
  (try rw [hnn'])
  go_loopw [7, 8, 10, 11] (fun v7 v8 v10 v11 wr => ∃ (k : Nat) (v a : List Int) (bad : Bool) (eb : Int), v11 = .int .i64 (k : Int) ∧ k ≤ n ∧ v10 = .int .i64 eb ∧ Aside0 (eb = if bad = true then 8 else 0) ∧ Aside0 (runK nn hs k = some (v, a, bad)) ∧ Aside0 (wr.heap[w.heap.size]? = some (.cells cs 37 (0, 0))) ∧ Aside0 (Kd.R (Kd.int .i64) 2 wr w.heap.size (fun _ => True) v7 v) ∧ Aside0 (Kd.R (Kd.int .i64) 2 wr w.heap.size (fun _ => True) v8 a) ∧ Aside0 (Apart v7 v8) ∧ Aside0 (Below w.heap.size w wr)) (fun _ _ _ v11 _ => n - (RowKit.intOf v11).toNat)
  case atStart => exact ⟨0, [], [], false, 0, rfl, Nat.zero_le _, rfl, Aside0.mk rfl, Aside0.mk rfl, BX, Aside0.mk (Kd.R_nil _ _ _ _ _), Aside0.mk (Kd.R_nil _ _ _ _ _), Aside0.mk (fun k hk => by cases hk), HB⟩
  case round =>
    clear BX HB c24
    obtain ⟨k, v, a, bad, eb, rfl, hk, rfl, HE, HRK, BX, HV, HA, HAP, HB⟩ := hrel
    by_cases hlt : k < n
    · obtain ⟨q, hq⟩ : ∃ q, q = k / nn := ⟨_, rfl⟩
      obtain ⟨r, hr⟩ : ∃ r, r = k % nn := ⟨_, rfl⟩
      have hql : q < hs.length := by rw [hq]; exact (Nat.div_lt_iff_lt_mul (by have := HNN.out; omega)).2 (by have := HEND.out; omega)
      have hrl : r < nn := by rw [hr]; exact Nat.mod_lt _ (by have := HNN.out; omega)
      obtain ⟨fr, hfr⟩ : ∃ fr, fr = 16 * r := ⟨_, rfl⟩
      obtain ⟨ad, ce, hAd, hce, ⟨Ab, cb, rfl, hcb, hCb⟩, hcell⟩ := Kd.C_get HHS.out [] (q : Int) (by omega) (by omega)
      obtain ⟨b, hb⟩ : ∃ b, b = hs.getD (q : Int).toNat [] := ⟨_, rfl⟩
      rw [← hb] at hCb hcb hcell
      have hbg : hs.getD q [] = b := by rw [hb, Int.toNat_natCast]
      have hbm : b ∈ hs := by
        rw [← hbg, List.getD_eq_getElem?_getD, List.getElem?_eq_getElem hql]
        exact List.getElem_mem hql
      have hk1 : w.cell? (ad.add q) = some (.slice Ab b.length cb) := cell_add (hcell 0 _ rfl)
      have hk2 := pw_cell_below HB.out hk1
      have CB := Aside0.mk hCb
      have HBb := Aside0.mk (And.intro hcb (And.intro (HBL.out b hbm) (HBY.out b hbm)))
      have m1 : (k : Int) / (nn : Int) = (q : Int) := by rw [hq]; exact (Int.natCast_ediv k nn).symm
      have m2 : (k : Int) % (nn : Int) = (r : Int) := by rw [hr]; exact (Int.natCast_emod k nn).symm
      have m3 : 16 * (r : Int) = (fr : Int) := by rw [hfr]; omega
      have m4 : (k : Int) ≤ 1000 := by have := HNN.out; omega
      have m5 : (r : Int) ≤ 1000 := by have := HNN.out; omega
      have m6 : (fr : Int) ≤ 1000 := by have := HNN.out; omega
      have m7 : (0 : Int) < (nn : Int) := by have := HNN.out; omega
      have m8 : (q : Int) < (hs.length : Int) := by omega
      have HEN := Aside0.mk (show entK nn hs k = entR b r by unfold entK; rw [← hq, ← hr, hbg])
      have HQL := Aside0.mk (show k < n ∧ k ≤ 24 ∧ v.length = k ∧ a.length = k by have h10 := HNN.out; obtain ⟨l1, l2⟩ := runK_len HRK.out; exact ⟨hlt, by omega, l1, l2⟩)
      have c2 := cf_at BX.out 2 HC.out.c2
      have hAd' := hAd
      subst hAd'
      have HFR := Aside0.mk hfr
      clear hce hCb hcb hcell hb hbg hbm hk1 hq hr hql hrl hk hAd hfr
      by_cases h16 : b.length < fr + 16
      · have hnone : runK nn hs n = none := by
          have h1 : runK nn hs (k + 1) = none := by rw [runK, HRK.out, HEN.out, entR_bad (by rw [← HFR.out, List.length_drop]; omega)]; rfl
          have h2 := runK_none h1 (n - (k + 1))
          rwa [show k + 1 + (n - (k + 1)) = n by omega] at h2
        have HV6 := Aside0.mk (show VF = ([], [], 6) by rw [HVF.out, hnone])
        have t1 : (b.length : Int) < (fr : Int) + 16 := by omega
        clear hnone h16
        go_wp2_with (first | fail)
        exact bodyPost_ret (v := .tuple #[.slice none 0 0, .slice none 0 0, .int .i64 6]) (by simp [results, Tryz.results13, go_sem]) rfl ⟨_, _, [], [], 6, HV6.out, rfl, Kd.R_nil _ _ _ _ _, Kd.R_nil _ _ _ _ _, HB.out⟩
      · have t1 : ¬ (b.length : Int) < (fr : Int) + 16 := by omega
        obtain ⟨i0, hi, hz0, hz1, hz2⟩ := info_parts infoU8
        obtain ⟨A1, hcut, hA1⟩ := print_cut (P := Tryz.prog) 22 5 .i64 (i := i0) Tryz.underlying22 hi hz1 Ab b.length cb fr (by omega)
        obtain ⟨d, hd⟩ : ∃ d, d = b.drop fr := ⟨_, rfl⟩
        have HA1 := Aside0.mk (hd ▸ C_cutb hA1 HBb.out.1 CB.out)
        rw [← List.length_drop, ← hd] at hcut
        have hdl : d.length = b.length - fr := by rw [hd, List.length_drop]
        have HD := Aside0.mk (show 16 ≤ d.length ∧ d.length ≤ cb - fr by have := HBb.out.1; omega)
        have HAL := Aside0.mk (show ∀ z ∈ d, (0 : Int) ≤ z ∧ z < 256 from fun z hz => HBb.out.2.2 z (List.mem_of_mem_drop (hd ▸ hz)))
        have HRN := Aside0.mk (show runK nn hs (k + 1) = some (v ++ [wrap64 (leN (d.take 8))], a ++ [wrap64 (leN ((d.drop 8).take 8))], bad || decide (wrap64 (leN ((d.drop 8).take 8)) < 0)) by
          rw [runK, HRK.out, HEN.out, entR_good (by rw [← HFR.out, ← hd]; exact HD.out.1), ← HFR.out, ← hd]; rfl)
        clear hi hz0 hz1 hz2 hA1 hd hdl h16
        go_wp2_with (first | fail)
        refine (gnum8 (by have := HD.out; omega) HD.out.2 HAL.out (Kd.C_below HA1.out HB.out)).mono ?_
        rintro e w4 ⟨A2, cc2, rfl, hc4, hC4, hb4⟩
        obtain ⟨x, hx⟩ : ∃ x, x = leN (d.take 8) := ⟨_, rfl⟩
        rw [← hx] at HRN ⊢
        have C4 := Aside0.mk hC4
        have H4 := Aside0.mk hc4
        replace BX := Aside0.mk (blk_below BX.out hb4)
        replace HV := Aside0.mk (Kd.R_below HV.out hb4)
        replace HA := Aside0.mk (Kd.R_below HA.out hb4)
        replace HB := Aside0.mk (below_step HB.out hb4)
        clear hx hC4 hc4 hb4 hk2 hcut
        obtain ⟨d8, hd8⟩ : ∃ d8, d8 = d.drop 8 := ⟨_, rfl⟩
        have HD8 := Aside0.mk (show 8 ≤ d8.length by rw [hd8, List.length_drop]; have := HD.out; omega)
        have HAL8 := Aside0.mk (show ∀ z ∈ d8, (0 : Int) ≤ z ∧ z < 256 from fun z hz => HAL.out z (List.mem_of_mem_drop (hd8 ▸ hz)))
        rw [← hd8] at HRN C4 H4 ⊢
        clear hd8
        go_wp2_with (first | fail)
        refine (gnum8 HD8.out H4.out HAL8.out C4.out).mono ?_
        rintro e w6 ⟨A3, cc3, rfl, _, _, hb4⟩
        obtain ⟨y, hy⟩ : ∃ y, y = leN (d8.take 8) := ⟨_, rfl⟩
        rw [← hy] at HRN ⊢
        replace BX := Aside0.mk (blk_below BX.out hb4)
        replace HV := Aside0.mk (Kd.R_below HV.out hb4)
        replace HA := Aside0.mk (Kd.R_below HA.out hb4)
        replace HB := Aside0.mk (below_step HB.out hb4)
        clear hy hb4
        by_cases hyn : wrap64 y < 0
        case' pos =>
          have HBD := Aside0.mk (show (8 : Int) = if (bad || decide (wrap64 y < 0)) = true then 8 else 0 by rw [if_pos (by simp [hyn])])
        case' neg =>
          have HBD := Aside0.mk (show eb = if (bad || decide (wrap64 y < 0)) = true then 8 else 0 by rw [HE.out]; simp [hyn])
        all_goals
          go_wp2_with (first | ((with_reducible refine gate_builtin (b := .append) (xs := #[.tmp 72, .tmp 75]) rfl ?_); at_builtin; refine Kd.R_append (Kd.int .i64) (w0 := w) w.heap.size rfl (.tmp 72) (.tmp 75) 30 2 (.int .i64 0) 8 rfl Tryz.underlying30 infV rfl (by decide) (by omega) u7 v (wrap64 x) [.int .i64 (wrap64 x)] (fun _ => True) (fun _ => False) rfl rfl rfl (fun _ hk => hk.elim) (fun _ _ => trivial) HV.out HB.out HB.out.size ?aL ?_; (case aL => have := HQL.out; omega); intro v76 w7 h5 hb5 hg5 hat5; have HSN := Aside0.mk (Apart.step (W := w6) HAP.out hat5 (Kd.R_lt HA.out)); replace BX := Aside0.mk (blk_gro BX.out hg5 (Kd.R_ne HV.out BX.out (by decide))); replace HA := Aside0.mk (Kd.R_grown2 HA.out rfl hg5 (fun k hk => HAP.out k hk)); replace HV := Aside0.mk h5; replace HB := Aside0.mk hb5; replace HAP := Aside0.mk HSN.out; clear h5 hb5 hg5 hat5 HSN) | ((with_reducible refine gate_builtin (b := .append) (xs := #[.tmp 77, .tmp 80]) rfl ?_); at_builtin; refine Kd.R_append (Kd.int .i64) (w0 := w) w.heap.size rfl (.tmp 77) (.tmp 80) 30 2 (.int .i64 0) 8 rfl Tryz.underlying30 infV rfl (by decide) (by omega) u8 a (wrap64 y) [.int .i64 (wrap64 y)] (fun _ => True) (fun _ => False) rfl rfl rfl (fun _ hk => hk.elim) (fun _ _ => trivial) HA.out HB.out HB.out.size ?aL ?_; (case aL => have := HQL.out; omega); intro v81 w8 h5 hb5 hg5 hat5; have HSN := Aside0.mk (Apart.step (W := w7) HAP.out.swap hat5 (Kd.R_lt HV.out)); replace BX := Aside0.mk (blk_gro BX.out hg5 (Kd.R_ne HA.out BX.out (by decide))); replace HV := Aside0.mk (Kd.R_grown2 HV.out rfl hg5 (fun k hk => HAP.out.swap k hk)); replace HA := Aside0.mk h5; replace HB := Aside0.mk hb5; replace HAP := Aside0.mk HSN.out.swap; clear h5 hb5 hg5 hat5 HSN) | fail)
          go_roundw
          case measure => have := HQL.out; simp only [RowKit.intOf]; omega
          case rel => exact ⟨k + 1, _, _, _, _, by go_num, by have := HQL.out; omega, rfl, HBD, HRN, BX, HV, HA, HAP, HB⟩
    · obtain rfl : k = n := by omega
      clear hlt hk
      have c2 := cf_at BX.out 2 HC.out.c2
      cases bad
      case' false =>
        obtain rfl : eb = 0 := HE.out
        have HV6 := Aside0.mk (show VF = (v, a, 0) by rw [HVF.out, HRK.out]; rfl)
      case' true =>
        obtain rfl : eb = 8 := HE.out
        have HV6 := Aside0.mk (show VF = ([], [], 8) by rw [HVF.out, HRK.out]; rfl)
      case' false =>
        go_wp2_with (first | fail)
        exact bodyPost_ret (v := .tuple #[_, _, .int .i64 0]) (by simp [results, Tryz.results13, go_sem]) rfl ⟨_, _, v, a, 0, HV6.out, rfl, HV.out, HA.out, HB.out⟩
      case' true =>
        go_wp2_with (first | fail)
        exact bodyPost_ret (v := .tuple #[.slice none 0 0, .slice none 0 0, .int .i64 8]) (by simp [results, Tryz.results13, go_sem]) rfl ⟨_, _, [], [], 8, HV6.out, rfl, Kd.R_nil _ _ _ _ _, Kd.R_nil _ _ _ _ _, HB.out⟩
end Go.Proofs.YteeclengpnjlgaaGreat.I
