import Derived.Test.YteeclengpnjlgaaGreatHdC
/- ImageHeads' body. -/
namespace Go.Proofs.YteeclengpnjlgaaGreat.I
open Go.RowKit Go.Proofs.YteeclengpnjlgaaGreatW.PrintWords Go.Proofs.YteeclengpnjlgaaGreatW.PrintLast Go.Proofs.YteeclengpnjlgaaGreatW.PrintMore Go.Proofs.YteeclengpnjlgaaGreat
set_option linter.unusedVariables false
set_option linter.unusedSimpArgs false
theorem head_calls (cs : Array Value) {sk wa sa od re sg cp bl bs : Int} {A : Option Addr} {n c : Nat} (hc : Cf cs sk wa sa od re sg cp bl bs A n c) (w : World) (h1 : 1 ≤ sk ∧ sk ≤ 3) (h2 : 1 ≤ wa ∧ wa ≤ 3) (h3 : 64 ≤ bl ∧ bl ≤ 575) (hn : (n : Int) = fld sk wa) (Av : Option Addr) (cv : Nat) (vs : List Int) (hv : Kd.C (Kd.int .i64) w Av vs.length vs) (hcv : vs.length ≤ cv) (i at_ : Int) :
    Calls Tryz.prog 10 #[.agg cs, .slice Av vs.length cv, .int .i64 i, .int .i64 at_] w fun e w' => ∃ (v : Value) (b : List Int) (er : Int), headF n (bl / 16).toNat (hdN (fld sk wa) (bl / 16)) vs i at_ = (b, er) ∧ e = .returned (.tuple #[v, .int .i64 er]) ∧ Kd.R (Kd.int .u8) 5 w' w.heap.size (fun _ => True) v b ∧ Below w.heap.size w w' := by
  by_cases hb : vs.length ≠ n ∨ i < 0 ∨ hdN (fld sk wa) (bl / 16) ≤ i ∨ at_ < 0
  · refine (head_bad cs hc w h1 h2 h3 Av cv vs i at_ hb).mono ?_
    rintro e w' ⟨rfl, hB⟩
    exact ⟨_, [], 1, by unfold headF; rw [if_pos hb], rfl, Kd.R_nil _ _ _ _ _, hB⟩
  · have hb1 : vs.length = n := by omega
    obtain ⟨k, rfl⟩ := Int.eq_ofNat_of_zero_le (show 0 ≤ i by omega)
    refine (head_good cs hc w h1 h2 h3 hn Av cv vs hv hcv k at_ hb1 (by omega) (by omega)).mono ?_
    rintro e w' ⟨v, rfl, hR, hB⟩
    exact ⟨v, _, 0, by unfold headF; rw [if_neg hb, Int.toNat_natCast], rfl, hR, hB⟩
theorem rhead_calls (cs : Array Value) {sk wa sa od re sg cp bl bs : Int} {A : Option Addr} {n c : Nat} (hc : Cf cs sk wa sa od re sg cp bl bs A n c) (w : World) (h1 : 1 ≤ sk ∧ sk ≤ 3) (h2 : 1 ≤ wa ∧ wa ≤ 3) (h3 : 64 ≤ bl ∧ bl ≤ 575) (hn : (n : Int) = fld sk wa) (Av : Option Addr) (cv : Nat) (vs : List Int) (hv : Kd.C (Kd.int .i64) w Av vs.length vs) (hcv : vs.length ≤ cv) (i at_ : Int) :
    Calls Tryz.prog 11 #[.agg cs, .slice Av vs.length cv, .int .i64 i, .int .i64 at_] w fun e w' => ∃ (v : Value) (b : List Int) (er : Int), headF n (bl / 16).toNat (hdN (fld sk wa) (bl / 16)) vs i at_ = (b, er) ∧ e = .returned (.tuple #[v, .int .i64 er]) ∧ Kd.R (Kd.int .u8) 5 w' w.heap.size (fun _ => True) v b ∧ Below w.heap.size w w' := by
  by_cases hb : vs.length ≠ n ∨ i < 0 ∨ hdN (fld sk wa) (bl / 16) ≤ i ∨ at_ < 0
  · refine (rhead_bad cs hc w h1 h2 h3 Av cv vs i at_ hb).mono ?_
    rintro e w' ⟨rfl, hB⟩
    exact ⟨_, [], 1, by unfold headF; rw [if_pos hb], rfl, Kd.R_nil _ _ _ _ _, hB⟩
  · have hb1 : vs.length = n := by omega
    obtain ⟨k, rfl⟩ := Int.eq_ofNat_of_zero_le (show 0 ≤ i by omega)
    refine (rhead_good cs hc w h1 h2 h3 hn Av cv vs hv hcv k at_ hb1 (by omega) (by omega)).mono ?_
    rintro e w' ⟨v, rfl, hR, hB⟩
    exact ⟨v, _, 0, by unfold headF; rw [if_neg hb, Int.toNat_natCast], rfl, hR, hB⟩
theorem values_calls (cs : Array Value) {sk wa sa od re sg cp bl bs : Int} {A : Option Addr} {n c : Nat} (hc : Cf cs sk wa sa od re sg cp bl bs A n c) (w : World) (h1 : 1 ≤ sk ∧ sk ≤ 3) (h2 : 1 ≤ wa ∧ wa ≤ 3) (h3 : 64 ≤ bl ∧ bl ≤ 575) (hn : (n : Int) = fld sk wa) (Ah : Option Addr) (ch : Nat) (hs : List (List Int)) (hh : kS.C w Ah hs.length hs) (hch : hs.length ≤ ch) (hby : ∀ b ∈ hs, ∀ z ∈ b, (0 : Int) ≤ z ∧ z < 256) (hbl : ∀ b ∈ hs, b.length ≤ 140737488351232) :
    Calls Tryz.prog 12 #[.agg cs, .slice Ah hs.length ch] w fun e w' => ∃ (u v : Value) (lu lv : List Int) (er : Int), valF n (bl / 16).toNat (hdN (fld sk wa) (bl / 16)) hs = (lu, lv, er) ∧ e = .returned (.tuple #[u, v, .int .i64 er]) ∧ Kd.R (Kd.int .i64) 2 w' w.heap.size (fun _ => True) u lu ∧ Kd.R (Kd.int .i64) 2 w' w.heap.size (fun _ => True) v lv ∧ Below w.heap.size w w' := by
  by_cases hb : (hs.length : Int) = hdN (fld sk wa) (bl / 16)
  · rw [← hb]
    exact values_good cs hc w h1 h2 h3 hn Ah ch hs hh hch hby hbl hb
  · refine (values_bad cs hc w h1 h2 h3 Ah hs.length ch hb).mono ?_
    rintro e w' ⟨rfl, hB⟩
    exact ⟨_, _, [], [], 1, by unfold valF; rw [if_pos hb], rfl, Kd.R_nil _ _ _ _ _, Kd.R_nil _ _ _ _ _, hB⟩
theorem rvalues_calls (cs : Array Value) {sk wa sa od re sg cp bl bs : Int} {A : Option Addr} {n c : Nat} (hc : Cf cs sk wa sa od re sg cp bl bs A n c) (w : World) (h1 : 1 ≤ sk ∧ sk ≤ 3) (h2 : 1 ≤ wa ∧ wa ≤ 3) (h3 : 64 ≤ bl ∧ bl ≤ 575) (hn : (n : Int) = fld sk wa) (Ah : Option Addr) (ch : Nat) (hs : List (List Int)) (hh : kS.C w Ah hs.length hs) (hch : hs.length ≤ ch) (hby : ∀ b ∈ hs, ∀ z ∈ b, (0 : Int) ≤ z ∧ z < 256) (hbl : ∀ b ∈ hs, b.length ≤ 140737488351232) :
    Calls Tryz.prog 13 #[.agg cs, .slice Ah hs.length ch] w fun e w' => ∃ (u v : Value) (lu lv : List Int) (er : Int), valF n (bl / 16).toNat (hdN (fld sk wa) (bl / 16)) hs = (lu, lv, er) ∧ e = .returned (.tuple #[u, v, .int .i64 er]) ∧ Kd.R (Kd.int .i64) 2 w' w.heap.size (fun _ => True) u lu ∧ Kd.R (Kd.int .i64) 2 w' w.heap.size (fun _ => True) v lv ∧ Below w.heap.size w w' := by
  by_cases hb : (hs.length : Int) = hdN (fld sk wa) (bl / 16)
  · rw [← hb]
    exact rvalues_good cs hc w h1 h2 h3 hn Ah ch hs hh hch hby hbl hb
  · refine (rvalues_bad cs hc w h1 h2 h3 Ah hs.length ch hb).mono ?_
    rintro e w' ⟨rfl, hB⟩
    exact ⟨_, _, [], [], 1, by unfold valF; rw [if_pos hb], rfl, Kd.R_nil _ _ _ _ _, Kd.R_nil _ _ _ _ _, hB⟩
theorem valF_len {n nn : Nat} {hd er : Int} {hs : List (List Int)} {lu lv : List Int} (h : valF n nn hd hs = (lu, lv, er)) : lu.length ≤ n ∧ lv.length ≤ n := by
  unfold valF at h
  split at h
  · obtain ⟨rfl, rfl⟩ : [] = lu ∧ [] = lv := by simpa using And.intro (congrArg (·.1) h) (congrArg (·.2.1) h)
    exact ⟨Nat.zero_le _, Nat.zero_le _⟩
  · cases hr : runK nn hs n with
    | none =>
      rw [hr] at h
      obtain ⟨rfl, rfl⟩ : [] = lu ∧ [] = lv := by simpa using And.intro (congrArg (·.1) h) (congrArg (·.2.1) h)
      exact ⟨Nat.zero_le _, Nat.zero_le _⟩
    | some s =>
      rw [hr] at h
      obtain ⟨s1, s2, s3⟩ := s
      have hl := runK_len hr
      cases s3 with
      | true =>
        obtain ⟨rfl, rfl⟩ : [] = lu ∧ [] = lv := by simpa using And.intro (congrArg (·.1) h) (congrArg (·.2.1) h)
        exact ⟨Nat.zero_le _, Nat.zero_le _⟩
      | false =>
        obtain ⟨rfl, rfl⟩ : s1 = lu ∧ s2 = lv := by simpa using And.intro (congrArg (·.1) h) (congrArg (·.2.1) h)
        exact ⟨Nat.le_of_eq hl.1, Nat.le_of_eq hl.2⟩
theorem same_l0 (l : List Int) (h : l.length ≤ 1000) : ∀ (m i : Nat), i + m = l.length → H.pledgelaw27_same.l0 (m + 1) l l (i : Int) = some true
  | 0, i, hi => by rw [H.pledgelaw27_same.l0, if_neg (by omega)]
  | m + 1, i, hi => by
    have e1 : wrap64 ((i : Int) + 1) = ((i + 1 : Nat) : Int) := by unfold wrap64; omega
    rw [H.pledgelaw27_same.l0, if_pos (by omega), if_pos (by omega), if_pos (by omega), if_pos rfl, e1]
    exact same_l0 l h m (i + 1) (by omega)
theorem same_self (l : List Int) (h : l.length ≤ 1000) : H.pledgelaw27_same.f (l.length + 1) l l = some true := by
  unfold H.pledgelaw27_same.f
  rw [if_pos rfl]
  exact same_l0 l h l.length 0 (by omega)
set_option maxHeartbeats 8000000 in
set_option maxRecDepth 100000 in
theorem heads_law (a0 a1 a2 a3 a4 a5 a6 a7 a8 a9 a10 a11 : Int) (w : World) (h0 : 0 ≤ a0 ∧ a0 ≤ 255) (h1 : 0 ≤ a1 ∧ a1 ≤ 255) (h2 : 0 ≤ a2 ∧ a2 ≤ 255) (h3 : 0 ≤ a3 ∧ a3 ≤ 65535) (h4 : 0 ≤ a4 ∧ a4 ≤ 255) (h5 : 0 ≤ a5 ∧ a5 ≤ 255) (h6 : 0 ≤ a6 ∧ a6 ≤ 255) (h7 : 0 ≤ a7 ∧ a7 ≤ 255) (h8 : 0 ≤ a8 ∧ a8 ≤ 255) (h9 : 0 ≤ a9 ∧ a9 ≤ 255) (h10 : 0 ≤ a10 ∧ a10 ≤ 65535) (h11 : 0 ≤ a11 ∧ a11 ≤ 255) (A1 : Option Addr) (c1 : Nat) (l1 : List Int) (xI xAt : Int) (A2 : Option Addr) (c2 : Nat) (l2 : List (List Int)) (hr1 : Kd.C (Kd.int .i64) w A1 l1.length l1) (hc1 : l1.length ≤ c1) (hr2 : Kd.C kS w A2 l2.length l2) (hc2 : l2.length ≤ c2) (hby : ∀ b ∈ l2, ∀ z ∈ b, (0 : Int) ≤ z ∧ z < 256) (hbl : ∀ b ∈ l2, b.length ≤ 140737488351232) :
    Calls Tryz.prog 4 #[.agg #[.int .u8 a0, .int .u8 a1, .int .u8 a2, .int .u16 a3, .int .u8 a4, .int .u8 a5, .int .u8 a6, .int .u8 a7, .int .u8 a8, .int .u8 a9, .int .u16 a10, .int .u8 a11], .slice A1 l1.length c1, .agg #[.int .i64 xI, .int .i64 xAt, .slice A2 l2.length c2]] w fun e w' => e = .returned (.bool true) ∧ Below w.heap.size w w' := by
  by_cases g1 : 60 < (l1.length : Int)
  · clear hr1 hc1 hr2 hc2 hby hbl h0 h1 h2 h3 h4 h5 h6 h7 h8 h9 h10 h11
    go_enter Tryz.func4, Tryz.ntmps4
    go_wp2_with (first | fail)
    refine (works_calls _).mono ?_
    rintro e w2 ⟨rfl, hb⟩
    go_wp2_with (first | fail)
    go_ret
    exact ⟨rfl, below_step (below_alloc (below_alloc (Below.refl _ _) _) _) hb⟩
  · by_cases g2 : 60 < (l2.length : Int)
    · clear hr1 hc1 hr2 hc2 hby hbl h0 h1 h2 h3 h4 h5 h6 h7 h8 h9 h10 h11
      go_enter Tryz.func4, Tryz.ntmps4
      go_wp2_with (first | fail)
      refine (works_calls _).mono ?_
      rintro e w2 ⟨rfl, hb⟩
      go_wp2_with (first | fail)
      go_ret
      exact ⟨rfl, below_step (below_alloc (below_alloc (Below.refl _ _) _) _) hb⟩
    · have R1 := Aside0.mk (And.intro hr1 hc1)
      have R2 := Aside0.mk (And.intro hr2 hc2)
      have BY := Aside0.mk (And.intro hby hbl)
      have AA := Aside0.mk (And.intro h0 (And.intro h1 (And.intro h2 (And.intro h3 (And.intro h4 (And.intro h5 (And.intro h6 (And.intro h7 (And.intro h8 (And.intro h9 (And.intro h10 h11)))))))))))
      clear hr1 hc1 hr2 hc2 hby hbl h0 h1 h2 h3 h4 h5 h6 h7 h8 h9 h10 h11
      go_enter Tryz.func4, Tryz.ntmps4
      go_wp2_with (first | fail)
      obtain ⟨h0, h1, h2, h3, h4, h5, h6, h7, h8, h9, h10, h11⟩ := AA.out
      refine (config_calls a0 a1 a2 a3 a4 a5 a6 a7 a8 a9 a10 a11 _ h0 h1 h2 h3 h4 h5 h6 h7 h8 h9 h10 h11 _ rfl).mono ?_
      rintro e w1 ⟨cs, A, c, rfl, hcf, hR, hb⟩
      have BX := Aside0.mk (blk_below (heap_alloc_new (w.alloc (.cells #[.int .u8 a0, .int .u8 a1, .int .u8 a2, .int .u16 a3, .int .u8 a4, .int .u8 a5, .int .u8 a6, .int .u8 a7, .int .u8 a8, .int .u8 a9, .int .u16 a10, .int .u8 a11] 29)) (.cells #[.int .i64 xI, .int .i64 xAt, .slice A2 l2.length c2] 32)) hb)
      have HB := Aside0.mk (below_step (below_alloc (below_alloc (Below.refl w.heap.size w) (.cells #[.int .u8 a0, .int .u8 a1, .int .u8 a2, .int .u16 a3, .int .u8 a4, .int .u8 a5, .int .u8 a6, .int .u8 a7, .int .u8 a8, .int .u8 a9, .int .u16 a10, .int .u8 a11] 29)) (.cells #[.int .i64 xI, .int .i64 xAt, .slice A2 l2.length c2] 32)) hb)
      obtain ⟨g2, hg2⟩ : ∃ g2, g2 = w.heap.size + 1 := ⟨_, rfl⟩
      have hgs : (w.alloc (.cells #[.int .u8 a0, .int .u8 a1, .int .u8 a2, .int .u16 a3, .int .u8 a4, .int .u8 a5, .int .u8 a6, .int .u8 a7, .int .u8 a8, .int .u8 a9, .int .u16 a10, .int .u8 a11] 29)).heap.size = g2 := by rw [hg2]; simp
      rw [hgs] at BX
      obtain ⟨sk, hsk⟩ : ∃ sk, sk = 1 + a0 % 3 := ⟨_, rfl⟩
      obtain ⟨wa, hwa⟩ : ∃ wa, wa = 1 + a1 % 3 := ⟨_, rfl⟩
      obtain ⟨bl, hbl⟩ : ∃ bl, bl = 64 + 2 * a11 := ⟨_, rfl⟩
      have HH := Aside0.mk (show (1 ≤ sk ∧ sk ≤ 3) ∧ (1 ≤ wa ∧ wa ≤ 3) ∧ (64 ≤ bl ∧ bl ≤ 575) by omega)
      rw [← hsk, ← hwa, ← hbl] at hcf
      obtain ⟨n, hn⟩ : ∃ n, n = (keysOf sk wa).length := ⟨_, rfl⟩
      have HN := Aside0.mk (show (n : Int) = fld sk wa by rw [hn]; exact (keys_is HH.out.1 HH.out.2.1).2)
      rw [← hn] at hcf
      have HC := Aside0.mk hcf
      have HG2 := Aside0.mk hg2
      rw [← hg2]
      clear hcf hR hb hn hsk hwa hbl hgs hg2 AA h0 h1 h2 h3 h4 h5 h6 h7 h8 h9 h10 h11
      go_wp2_with (first | (refine zbox (N := 7) (t := 37) (cs := zcfg) (h := ?_); intro g1 hg1 w2 B1_ hb1; have B1 := Aside0.mk B1_; have G1 := Aside0.mk (show w.heap.size ≤ g1 by have := HB.out.size; omega); have NE := Aside0.mk (show g2 ≠ g1 by have := blk_lt BX.out; omega); replace BX := Aside0.mk (blk_below BX.out hb1); replace HB := Aside0.mk (below_step HB.out hb1); clear B1_ hb1 hg1) | (refine store_cfg (w0 := w) (g := g1) (cells := cs) (by rfl) (by rfl) (by rfl) (by rfl) B1.out (by rfl) HC.out.sz HC.out.one HB.out G1.out ?_; intro w3 h3 hg3 hb3; replace BX := Aside0.mk (blk_gr BX.out hg3 NE.out); replace B1 := Aside0.mk h3; replace HB := Aside0.mk hb3; clear h3 hg3 hb3; obtain ⟨x0, x1, x2⟩ := zc3 BX.out) | (refine load_cfgG (cs := cs) (g := g1) (by rfl) (by rfl) (by rfl) HC.out.sz B1.out ?_) | fail)
      refine (head_calls cs HC.out _ HH.out.1 HH.out.2.1 HH.out.2.2 HN.out A1 c1 l1 (Kd.C_below R1.out.1 HB.out) R1.out.2 xI xAt).mono ?_
      rintro e w4 ⟨v1, b1, e1, hf1, rfl, hR1, hb⟩
      have RB1 := Aside0.mk hR1
      have F1 := Aside0.mk hf1
      clear hR1 hf1 x0 x1 x2
      replace B1 := Aside0.mk (blk_below B1.out hb)
      replace BX := Aside0.mk (blk_below BX.out hb)
      replace HB := Aside0.mk (below_step HB.out hb)
      clear hb
      obtain ⟨x0, x1, x2⟩ := zc3 BX.out
      go_wp2_with (first | (refine load_cfgG (cs := cs) (g := g1) (by rfl) (by rfl) (by rfl) HC.out.sz B1.out ?_) | fail)
      refine (rhead_calls cs HC.out _ HH.out.1 HH.out.2.1 HH.out.2.2 HN.out A1 c1 l1 (Kd.C_below R1.out.1 HB.out) R1.out.2 xI xAt).mono ?_
      rintro e w5 ⟨v2, b2, e2, hf2, rfl, hR2, hb⟩
      have hee : b1 = b2 ∧ e1 = e2 := by rw [F1.out] at hf2; exact ⟨congrArg (·.1) hf2, congrArg (·.2) hf2⟩
      obtain ⟨rfl, rfl⟩ := hee
      have RB2 := Aside0.mk hR2
      clear hR2 hf2 x0 x1 x2 F1
      replace B1 := Aside0.mk (blk_below B1.out hb)
      replace BX := Aside0.mk (blk_below BX.out hb)
      replace RB1 := Aside0.mk (Kd.R_below RB1.out hb)
      replace HB := Aside0.mk (below_step HB.out hb)
      clear hb
      obtain ⟨x0, x1, x2⟩ := zc3 BX.out
      go_wp2_with (first | (refine load_cfgG (cs := cs) (g := g1) (by rfl) (by rfl) (by rfl) HC.out.sz B1.out ?_) | fail)
      refine (values_calls cs HC.out _ HH.out.1 HH.out.2.1 HH.out.2.2 HN.out A2 c2 l2 (Kd.C_below R2.out.1 HB.out) R2.out.2 BY.out.1 BY.out.2).mono ?_
      rintro e w6 ⟨v3, v4, l3, l4, e3, hf1, rfl, hR3, hR4, hb⟩
      have RV3 := Aside0.mk hR3
      have RV4 := Aside0.mk hR4
      have F1 := Aside0.mk hf1
      clear hR3 hR4 hf1 x0 x1 x2
      replace B1 := Aside0.mk (blk_below B1.out hb)
      replace BX := Aside0.mk (blk_below BX.out hb)
      replace RB1 := Aside0.mk (Kd.R_below RB1.out hb)
      replace RB2 := Aside0.mk (Kd.R_below RB2.out hb)
      replace HB := Aside0.mk (below_step HB.out hb)
      clear hb
      obtain ⟨x0, x1, x2⟩ := zc3 BX.out
      go_wp2_with (first | (refine load_cfgG (cs := cs) (g := g1) (by rfl) (by rfl) (by rfl) HC.out.sz B1.out ?_) | fail)
      refine (rvalues_calls cs HC.out _ HH.out.1 HH.out.2.1 HH.out.2.2 HN.out A2 c2 l2 (Kd.C_below R2.out.1 HB.out) R2.out.2 BY.out.1 BY.out.2).mono ?_
      rintro e w7 ⟨v5, v6, l5, l6, e4, hf2, rfl, hR5, hR6, hb⟩
      have hee : l3 = l5 ∧ l4 = l6 ∧ e3 = e4 := by rw [F1.out] at hf2; exact ⟨congrArg (·.1) hf2, congrArg (·.2.1) hf2, congrArg (·.2.2) hf2⟩
      obtain ⟨rfl, rfl, rfl⟩ := hee
      have RV5 := Aside0.mk hR5
      have RV6 := Aside0.mk hR6
      have HLN := Aside0.mk (show l3.length ≤ 24 ∧ l4.length ≤ 24 by have := valF_len F1.out; have := HN.out; have := (count_is HH.out.1 HH.out.2.1).2; omega)
      clear hR5 hR6 hf2 x0 x1 x2 F1
      replace B1 := Aside0.mk (blk_below B1.out hb)
      replace BX := Aside0.mk (blk_below BX.out hb)
      replace RB1 := Aside0.mk (Kd.R_below RB1.out hb)
      replace RB2 := Aside0.mk (Kd.R_below RB2.out hb)
      replace RV3 := Aside0.mk (Kd.R_below RV3.out hb)
      replace RV4 := Aside0.mk (Kd.R_below RV4.out hb)
      replace HB := Aside0.mk (below_step HB.out hb)
      clear hb
      obtain ⟨A1', c1', rfl⟩ := Kd.R_slice RB1.out
      obtain ⟨A2', c2', rfl⟩ := Kd.R_slice RB2.out
      obtain ⟨A3', c3', rfl⟩ := Kd.R_slice RV3.out
      obtain ⟨A4', c4', rfl⟩ := Kd.R_slice RV4.out
      obtain ⟨A5', c5', rfl⟩ := Kd.R_slice RV5.out
      obtain ⟨A6', c6', rfl⟩ := Kd.R_slice RV6.out
      obtain ⟨he1, hq1, hC1⟩ := Kd.R_reads' RB1.out
      obtain ⟨he2, hq2, hC2⟩ := Kd.R_reads' RB2.out
      have ST1 := Kd.C_string (P := Tryz.prog) (src := 22) (dst := 9) (e := 5) (c := c1') Tryz.underlying22 Tryz.underlying5 Tryz.underlying9 hC1
      have ST2 := Kd.C_string (P := Tryz.prog) (src := 22) (dst := 9) (e := 5) (c := c2') Tryz.underlying22 Tryz.underlying5 Tryz.underlying9 hC2
      clear he1 he2 hq1 hq2 hC1 hC2 B1 BX
      go_wp2_with (first | fail)
      obtain ⟨he3, hq3, hC3⟩ := Kd.R_reads' RV3.out
      obtain ⟨he5, hq5, hC5⟩ := Kd.R_reads' RV5.out
      refine (H.pledgelaw27_same.calls _ A3' c3' l3 A5' c5' l3 true _ hC3 hq3 hC5 hq5 (same_self l3 (by have := HLN.out; omega))).mono ?_
      rintro e w8 ⟨rfl, hd⟩
      have hb := drawn_below hd
      clear he3 he5 hq3 hq5 hC3 hC5 hd ST1 ST2
      replace RV4 := Aside0.mk (Kd.R_below RV4.out hb)
      replace RV6 := Aside0.mk (Kd.R_below RV6.out hb)
      replace HB := Aside0.mk (below_step HB.out hb)
      clear hb
      go_wp2_with (first | fail)
      obtain ⟨he3, hq3, hC3⟩ := Kd.R_reads' RV4.out
      obtain ⟨he5, hq5, hC5⟩ := Kd.R_reads' RV6.out
      refine (H.pledgelaw27_same.calls _ A4' c4' l4 A6' c6' l4 true _ hC3 hq3 hC5 hq5 (same_self l4 (by have := HLN.out; omega))).mono ?_
      rintro e w9 ⟨rfl, hd⟩
      have hb := drawn_below hd
      clear he3 he5 hq3 hq5 hC3 hC5 hd
      replace HB := Aside0.mk (below_step HB.out hb)
      clear hb
      go_wp2_with (first | fail)
      refine (works_calls _).mono ?_
      rintro e wA ⟨rfl, hb⟩
      go_wp2_with (first | fail)
      go_ret
      exact ⟨rfl, below_step HB.out hb⟩
end Go.Proofs.YteeclengpnjlgaaGreat.I
