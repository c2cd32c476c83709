import Derived.Test.YtpnehgajhpejjaaGreatDoorW24
import Derived.Test.YtpnehgajhpejjaaGreatDoorSq
/- WordsBack: the law's own walk. -/
namespace Go.Proofs.YtpnehgajhpejjaaGreatDoor.W
open Go.RowKit Go.Proofs.YtpnehgajhpejjaaGreatDoorW.PrintWords Go.Proofs.YtpnehgajhpejjaaGreatDoorW.PrintLast Go.Proofs.YtpnehgajhpejjaaGreatDoorW.PrintMore
set_option linter.unusedVariables false
set_option linter.unusedSimpArgs false
/-! ### rows of events whose own rows lie elsewhere: a header is a plain value -/
abbrev Hd := Option Addr × Nat × Nat
def hdV (h : Hd) : Value := .slice h.1 h.2.1 h.2.2
theorem hd_one (h : Hd) : (hdV h).oneCell' = true := rfl
def kr : Kd (Int × Int × Int × Int × Hd) := Kd.pair (Kd.int .u8) (Kd.pair (Kd.int .u32) (Kd.pair (Kd.int .i64) (Kd.pair (Kd.int .i64) (Kd.scalar hdV hd_one))))
theorem kr_mkM (w : World) (base : Nat) (ok : Nat → Prop) (a b c d : Int) (A : Option Addr) (n m : Nat) : kr.M w base ok (a, b, c, d, (A, n, m)) [.int .u8 a, .int .u32 b, .int .i64 c, .int .i64 d, .slice A n m] := ⟨[.int .u8 a], _, rfl, rfl, ⟨[.int .u32 b], _, rfl, rfl, ⟨[.int .i64 c], _, rfl, rfl, ⟨[.int .i64 d], [.slice A n m], rfl, rfl, rfl⟩⟩⟩⟩
theorem kr_K {w : World} {a b c d : Int} {A : Option Addr} {n m : Nat} {cs : List Value} (h : kr.K w (a, b, c, d, (A, n, m)) cs) : cs = [.int .u8 a, .int .u32 b, .int .i64 c, .int .i64 d, .slice A n m] := by
  obtain ⟨_, _, rfl, rfl, ⟨_, _, rfl, rfl, ⟨_, _, rfl, rfl, ⟨_, _, rfl, rfl, rfl⟩⟩⟩⟩ := h
  rfl
abbrev Fe := S25 × Option Addr × Nat
def raw (p : Fe) : Int × Int × Int × Int × Hd := (p.1.f0, p.1.f1, p.1.f2, p.1.f3, (p.2.1, p.1.f4.length, p.2.2))
def FOk (w : World) (p : Fe) : Prop := p.1.f4.length ≤ p.2.2 ∧ Kd.C (Kd.int .u8) w p.2.1 p.1.f4.length p.1.f4
theorem fine_C {w : World} {A : Option Addr} {n : Nat} {fs : List Fe} (h : Kd.C kr w A n (fs.map raw)) (hf : ∀ p ∈ fs, FOk w p) : Kd.C k25 w A n (fs.map (·.1)) := by
  obtain ⟨h1, h2, h3⟩ := h
  refine ⟨by simpa using h1, h2, fun h0 => ?_⟩
  obtain ⟨ad, e, hc⟩ := h3 h0
  refine ⟨ad, e, fun j p hj => ?_⟩
  rw [List.getElem?_map] at hj
  obtain ⟨q, hq, rfl⟩ := Option.map_eq_some_iff.1 hj
  obtain ⟨c, hl, hk, hcell⟩ := hc j (raw q) (by rw [List.getElem?_map, hq]; rfl)
  obtain rfl := kr_K hk
  have hm := hf q (List.mem_of_getElem? hq)
  exact ⟨_, rfl, k25_mk w q.1 hm.1 hm.2, hcell⟩
/-- An event that lies at p. -/
def At5 (w : World) (p : Addr) (x : S25) (A : Option Addr) (c : Nat) : Prop := w.cell? p = some (.int .u8 x.f0) ∧ w.cell? ⟨p.block, p.off + 1, none⟩ = some (.int .u32 x.f1) ∧ w.cell? ⟨p.block, p.off + 2, none⟩ = some (.int .i64 x.f2) ∧ w.cell? ⟨p.block, p.off + 3, none⟩ = some (.int .i64 x.f3) ∧ w.cell? ⟨p.block, p.off + 4, none⟩ = some (.slice A x.f4.length c)
theorem At5.up {w W : World} {p : Addr} {x : S25} {A : Option Addr} {c : Nat} (h : At5 w p x A c) (hb : Below w.heap.size w W) : At5 W p x A c := by
  obtain ⟨h0, h1, h2, h3, h4⟩ := h
  exact ⟨(hb.cell (World.block_lt_of_cell? w _ h0)).trans h0, (hb.cell (World.block_lt_of_cell? w _ h1)).trans h1, (hb.cell (World.block_lt_of_cell? w _ h2)).trans h2, (hb.cell (World.block_lt_of_cell? w _ h3)).trans h3, (hb.cell (World.block_lt_of_cell? w _ h4)).trans h4⟩
def gStep (k : Nat) (x : S25) : Option Bool := (words_Line.f k x.f0 x.f1 x.f2 x.f3 x.f4).bind fun s => (words_Read.f k s).bind fun q => (pledgeref38_Good.f x.f0 x.f1 x.f2 x.f3 x.f4).bind fun g => if g = true then (if q.2.2.2.2.2 = 0 then (pledgeref38_Same.f q.1 q.2.1 q.2.2.1 q.2.2.2.1 q.2.2.2.2.1 x.f0 x.f1 x.f2 x.f3 x.f4).bind fun b => if b = true then some true else none else none) else if s.toList = [] then some false else none
def goF (k : Nat) : List S25 → Option (List S25)
  | [] => some []
  | x :: l => (gStep k x).bind fun g => (goF k l).bind fun r => some (if g = true then x :: r else r)
def pledgelaw39_WordsBack.f (k : Nat) (l0 : List S25) (a1 : ByteArray) : Option Bool :=
  (pledgelaw39_few.f k l0).bind fun t => if t = true ∧ a1.size ≤ 1200 then (if l0.length ≤ 60 then (goF k l0).bind fun fine => (words_Print.f k l0).bind fun p => (words_Parse.f k p).bind fun q => if q.2.2 = 0 ∧ q.2.1 = (fine.length : Int) then (pledgeref38_SameAll.f k q.1 fine).bind fun b => if b = true then (words_Read.f k a1).bind fun x => if x.2.2.2.2.2 = 0 then (words_Line.f k x.1 x.2.1 x.2.2.1 x.2.2.2.1 x.2.2.2.2.1).bind fun s => (if (s.toList == a1.toList) = true then (pledgeref38_Good.f x.1 x.2.1 x.2.2.1 x.2.2.2.1 x.2.2.2.2.1).bind fun g => if g = true then pledgelaw39_works.f k else none else none) else pledgelaw39_works.f k else none else none else none) else pledgelaw39_works.f k
theorem inf25 : (Tryz.prog.info? 25).map (fun i => (i.zero, i.size, i.bytes)) = some (some (.agg #[(.int .u8 0), (.int .u32 0), (.int .i64 0), (.int .i64 0), (.slice none 0 0)]), 5, 48) := by kernel_rfl
set_option maxHeartbeats 8000000 in
set_option maxRecDepth 100000 in
theorem pledgelaw39_WordsBack.calls (k : Nat) (A0 : Option Addr) (c0 : Nat) (l0 : List S25) (a1 : ByteArray) (r : Bool) (w : World) (hG0 : Gl w) (hr0 : Kd.C k25 w A0 l0.length l0) (hc0 : l0.length ≤ c0) (h : pledgelaw39_WordsBack.f k l0 a1 = some r) :
    Calls Tryz.prog 5 #[.slice A0 l0.length c0, .string a1] w fun e w' => e = .returned (.bool r) ∧ Below w.heap.size w w' := by
  unfold pledgelaw39_WordsBack.f at h
  obtain ⟨t, HF, hz⟩ := zO h
  clear h
  have HG := Aside0.mk hG0
  have HR0 := Aside0.mk hr0
  have HC0 := Aside0.mk hc0
  have HH := Aside0.mk hz
  clear hz hG0 hr0 hc0
  go_enter Tryz.func5, Tryz.ntmps5
  go_wp2_with (first | fail)
  refine (pledgelaw39_few.calls k _ _ l0 t _ HR0.out HC0.out HF.out).mono ?_
  rintro e w1 ⟨rfl, nd, rfl⟩
  have HB := Aside0.mk (pw_below_drewN (Below.refl w.heap.size w) nd)
  generalize hWW : World.drewN w nd = W1 at *
  clear hWW
  by_cases hcond : t = true ∧ a1.size ≤ 1200
  · obtain ⟨ht, hsz⟩ := hcond
    have hz := HH.out
    rw [if_pos ⟨ht, hsz⟩] at hz
    by_cases h60 : l0.length ≤ 60
    · rw [if_pos h60] at hz
      obtain ⟨fin, HGO, hz⟩ := zO hz
      have HZ := Aside0.mk hz
      clear hz HH HF
      subst ht
      have hsz2 : ¬ (1200 < (a1.size : Int)) := by omega
      go_wp2_with (first | fail)
      go_loopw [5, 6] (fun v5 v6 wr => ∃ (i : Int) (fs : List Fe) (rest : List S25), v6 = .int .i64 i ∧ 0 ≤ i ∧ i ≤ l0.length ∧ Aside0 (Kd.R kr 25 wr w.heap.size (fun _ => True) v5 (fs.map raw) ∧ (∀ p ∈ fs, FOk w p) ∧ (fs.length : Int) ≤ i ∧ Below w.heap.size w wr ∧ goF k (l0.drop i.toNat) = some rest ∧ fs.map (·.1) ++ rest = fin)) (fun _ v _ => l0.length - (RowKit.intOf v).toNat)
      case atStart => exact ⟨0, [], fin, rfl, Int.le_refl _, by omega, Aside0.mk ⟨Kd.R_nil _ _ _ _ _, fun p hp => by simp at hp, by simp, HB.out, HGO.out, rfl⟩⟩
      case round =>
        obtain ⟨i, fs, rest, rfl, hi0, hi1, HI⟩ := hrel
        by_cases hlt : i < (l0.length : Int)
        · obtain ⟨ad, A4, c4, e0, h0, h1, h2, h3, h4, hl4, hi4⟩ := at_T25 HR0.out i hi0 hlt
          subst e0
          have HX := Aside0.mk (show At5 w (ad.add (i.toNat * 5)) (rd_T25 l0 i) A4 c4 from ⟨h0, h1, h2, h3, h4⟩)
          have HL4 := Aside0.mk hl4
          have HC4 := Aside0.mk hi4
          have hil : i.toNat < l0.length := by omega
          have hd : l0.drop i.toNat = rd_T25 l0 i :: l0.drop (i.toNat + 1) := by
            rw [List.drop_eq_getElem_cons hil]
            congr 1
            simp [rd_T25, List.getD_eq_getElem?_getD, List.getElem?_eq_getElem hil]
          clear h0 h1 h2 h3 h4 hl4 hi4
          obtain ⟨hR, hF, hfl, hB, hgo, hfin⟩ := HI.out
          clear HI
          rw [hd] at hgo
          clear hd
          generalize rd_T25 l0 i = x at *
          simp only [goF] at hgo
          obtain ⟨g, HG1, hgo⟩ := zO hgo
          obtain ⟨rs, HGR, hgo2⟩ := zO hgo
          clear hgo
          obtain rfl := Option.some.inj hgo2
          clear hgo2
          have hg1 := HG1.out
          unfold gStep at hg1
          obtain ⟨s, HS, hg2⟩ := zO hg1
          obtain ⟨⟨q0, q1, q2, q3, ql, qe⟩, HQ, hg3⟩ := zO hg2
          obtain ⟨gg, HGG, hg4⟩ := zO hg3
          clear hg1 hg2 hg3 HG1
          have HG4 := Aside0.mk hg4
          have QR := Aside0.mk hR
          have HFO := Aside0.mk hF
          have HFL := Aside0.mk hfl
          have HB0 := Aside0.mk hB
          have HFIN := Aside0.mk hfin
          clear hg4 hR hF hfl hB hfin
          obtain ⟨Av, cv, rfl⟩ := Kd.R_slice QR.out
          have p1 : (0 ≤ i) = True := eq_true hi0
          have p2 : (i < (l0.length : Int)) = True := eq_true hlt
          have hc0_ := HX.out.up HB0.out
          unfold At5 at hc0_
          go_wp2_with (first | fail)
          refine (words_Line.calls k x.f0 x.f1 x.f2 x.f3 _ _ x.f4 s _ (Gl.below HG.out HB0.out) (Kd.C_below HC4.out HB0.out) HL4.out HS.out).mono ?_
          rintro e w2 ⟨rfl, hb⟩
          replace QR := Aside0.mk (Kd.R_below QR.out hb)
          replace HB0 := Aside0.mk (below_step HB0.out hb)
          clear hb hc0_
          go_wp2_with (first | fail)
          refine (words_Read.calls k s q0 q1 q2 q3 ql qe _ (Gl.below HG.out HB0.out) HQ.out).mono ?_
          rintro e w3 ⟨vx, rfl, hRx, hb⟩
          obtain ⟨Ax, cx, rfl⟩ := Kd.R_slice hRx
          replace QR := Aside0.mk (Kd.R_alloc (Kd.R_below QR.out hb) (.cells #[.int .u8 q0, .int .u32 q1, .int .i64 q2, .int .i64 q3, .slice Ax ql.length cx] 25))
          have RX := Aside0.mk (Kd.R_alloc (Kd.R_lower hRx HB0.out.size) (.cells #[.int .u8 q0, .int .u32 q1, .int .i64 q2, .int .i64 q3, .slice Ax ql.length cx] 25))
          have BX := Aside0.mk (heap_alloc_new w3 (.cells #[.int .u8 q0, .int .u32 q1, .int .i64 q2, .int .i64 q3, .slice Ax ql.length cx] 25))
          replace HB0 := Aside0.mk (below_alloc (below_step HB0.out hb) (.cells #[.int .u8 q0, .int .u32 q1, .int .i64 q2, .int .i64 q3, .slice Ax ql.length cx] 25))
          clear hb hRx
          have hc1_ := HX.out.up HB0.out
          unfold At5 at hc1_
          go_wp2_with (first | fail)
          refine (pledgeref38_Good.calls x.f0 x.f1 x.f2 x.f3 _ _ x.f4 gg _ (Kd.C_below HC4.out HB0.out) HL4.out HGG.out).mono ?_
          rintro e w4 ⟨rfl, hb⟩
          replace QR := Aside0.mk (Kd.R_below QR.out hb)
          replace RX := Aside0.mk (Kd.R_below RX.out hb)
          replace BX := Aside0.mk (blk_below BX.out hb)
          replace HB0 := Aside0.mk (below_step HB0.out hb)
          generalize w3.heap.size = gx at *
          clear hb hc1_
          have hc2_ := HX.out.up HB0.out
          unfold At5 at hc2_
          have hg4 := HG4.out
          cases gg with
          | false =>
            rw [if_neg (by decide)] at hg4
            by_cases hs : s.toList = []
            · rw [if_pos hs] at hg4
              obtain rfl := Option.some.inj hg4
              clear hg4 HG4
              have hs1 : (s.toList == ([] : List UInt8)) = true := by rw [hs]; rfl
              have hs2 : (s.toList != ([] : List UInt8)) = false := by rw [hs]; rfl
              clear hs
              go_wp2_with (first | fail)
              refine (words_Line.calls k x.f0 x.f1 x.f2 x.f3 _ _ x.f4 s _ (Gl.below HG.out HB0.out) (Kd.C_below HC4.out HB0.out) HL4.out HS.out).mono ?_
              rintro e w5 ⟨rfl, hb⟩
              replace QR := Aside0.mk (Kd.R_below QR.out hb)
              replace HB0 := Aside0.mk (below_step HB0.out hb)
              clear hb hc2_
              go_wp2_with (first | fail)
              go_roundw
              case rel =>
                have hqr := QR.out
                rw [List.length_map] at hqr
                refine ⟨i + 1, fs, rs, by go_num, by omega, by omega, Aside0.mk ⟨hqr, HFO.out, by have := HFL.out; omega, HB0.out, ?_, ?_⟩⟩
                · rw [show (i + 1).toNat = i.toNat + 1 from by omega]; exact HGR.out
                · have := HFIN.out; simpa using this
              case measure => simp [RowKit.intOf]; omega
            · rw [if_neg hs] at hg4
              cases hg4
          | true =>
            rw [if_pos rfl] at hg4
            by_cases hqe : qe = 0
            · rw [if_pos hqe] at hg4
              subst hqe
              obtain ⟨b, HSM, hg5⟩ := zO hg4
              clear hg4 HG4
              cases b with
              | false => rw [if_neg (by decide)] at hg5; cases hg5
              | true =>
                rw [if_pos rfl] at hg5
                obtain rfl := Option.some.inj hg5
                clear hg5
                go_wp2_with (first | fail)
                replace QR := Aside0.mk (Kd.R_drew QR.out)
                replace RX := Aside0.mk (Kd.R_drew RX.out)
                replace BX := Aside0.mk (blk_drew BX.out)
                replace HB0 := Aside0.mk (below_drew1 HB0.out)
                clear hc2_
                have hc3_ := HX.out.up HB0.out
                unfold At5 at hc3_
                refine start_ (n := 11) (S := fun w' => (w'.cell? ⟨gx, 0, none⟩ = some (.int .u8 q0) ∧ w'.cell? ⟨gx, 1, none⟩ = some (.int .u32 q1) ∧ w'.cell? ⟨gx, 2, none⟩ = some (.int .i64 q2) ∧ w'.cell? ⟨gx, 3, none⟩ = some (.int .i64 q3) ∧ w'.cell? ⟨gx, 4, none⟩ = some (.slice Ax ql.length cx)) ∧ (w'.cell? (ad.add (i.toNat * 5)) = some (.int .u8 x.f0) ∧ w'.cell? ⟨(ad.add (i.toNat * 5)).block, (ad.add (i.toNat * 5)).off + 1, none⟩ = some (.int .u32 x.f1) ∧ w'.cell? ⟨(ad.add (i.toNat * 5)).block, (ad.add (i.toNat * 5)).off + 2, none⟩ = some (.int .i64 x.f2) ∧ w'.cell? ⟨(ad.add (i.toNat * 5)).block, (ad.add (i.toNat * 5)).off + 3, none⟩ = some (.int .i64 x.f3) ∧ w'.cell? ⟨(ad.add (i.toNat * 5)).block, (ad.add (i.toNat * 5)).off + 4, none⟩ = some (.slice A4 x.f4.length c4))) (ds := []) (bz 11 0) (by kernel_rfl) rfl (by kernel_rfl) ⟨zc5 BX.out, hc3_⟩ (fun hHeld => ?_)
                clear hc3_
                generalize w4.drew = w5 at *
                refine pureZ (some 50) (bz 11 1) (i := 0) (hc := (by kernel_rfl)) (h := ?_)
                refine pureZ (some 51) (bz 11 3) (i := 1) (hc := (by kernel_rfl)) (h := ?_)
                refine pureZ (some 52) (bz 11 7) (i := 2) (hc := (by kernel_rfl)) (h := ?_)
                refine takeZ (some 53) (bz 11 15) (i := 3) (hc := (by kernel_rfl)) (h := ?_)
                refine pureZ (some 54) (bz 11 31) (i := 4) (hc := (by kernel_rfl)) (h := ?_)
                refine pureZ (some 55) (bz 11 63) (i := 5) (hc := (by kernel_rfl)) (h := ?_)
                refine pureZ (some 56) (bz 11 127) (i := 6) (hc := (by kernel_rfl)) (h := ?_)
                refine takeZ (some 57) (bz 11 255) (i := 7) (hc := (by kernel_rfl)) (h := ?_)
                refine one_ (i := 8) (N := some 58) (bz 11 511) rfl rfl (by kernel_rfl) (by decide) (fun K hK => ?_)
                refine goes_ Tryz.func12 (by kernel_rfl) rfl #[.agg #[.int .u8 q0, .int .u32 q1, .int .i64 q2, .int .i64 q3, .slice Ax ql.length cx], .agg #[.int .u8 x.f0, .int .u32 x.f1, .int .i64 x.f2, .int .i64 x.f3, .slice A4 x.f4.length c4]] (by rfl) rfl rfl zA ?_
                refine (pledgeref38_Same.calls q0 q1 q2 q3 _ _ ql x.f0 x.f1 x.f2 x.f3 _ _ x.f4 true _ (Kd.R_reads' RX.out).2.2 (Kd.R_reads' RX.out).2.1 (Kd.C_below HC4.out HB0.out) HL4.out HSM.out).mono ?_
                rintro e w6 ⟨rfl, hb⟩
                refine ⟨_, rfl, ?_⟩
                replace QR := Aside0.mk (Kd.R_below QR.out hb)
                replace BX := Aside0.mk (blk_below BX.out hb)
                replace HB0 := Aside0.mk (below_step HB0.out hb)
                clear hb
                refine hK.out _ _ ⟨zc5 BX.out, HX.out.up HB0.out⟩ (fun hHeld => ?_)
                clear hK K
                refine norm_ (a' := ?_) ?_ ?_
                rotate_left
                · show Act.put _ (some 58) _ = _
                  simp only [Act.put, List.setIfInBounds_toArray, List.set_cons_zero, List.set_cons_succ, i64_w, i32_w]
                  rfl
                refine pureZ (some 59) (bz 11 1023) (i := 9) (hc := (by kernel_rfl)) (h := ?_)
                refine pureZ (some 60) (bz 11 2047) (i := 10) (hc := (by kernel_rfl)) (h := ?_)
                refine done_ (by kernel_rfl) ?_
                clear hHeld
                have hc4_ := HX.out.up HB0.out
                unfold At5 at hc4_
                have hqr := QR.out
                rw [List.length_map] at hqr
                replace QR := Aside0.mk hqr
                clear hqr
                have hfl := HFL.out
                have hfl60 : (fs.length + 1) * 48 ≤ 140737488355328 := by omega
                go_wp2_with (first | ((with_reducible refine gate_builtin (b := .append) (xs := #[.tmp 61, .tmp 66]) rfl ?_); at_builtin; refine Kd.R_append kr (w0 := w) w.heap.size rfl (.tmp 61) (.tmp 66) 27 25 (.agg #[(.int .u8 0), (.int .u32 0), (.int .i64 0), (.int .i64 0), (.slice none 0 0)]) 48 rfl Tryz.underlying27 inf25 rfl (by decide) (by omega) (.slice Av fs.length cv) (fs.map raw) (raw (x, A4, c4)) [.int .u8 x.f0, .int .u32 x.f1, .int .i64 x.f2, .int .i64 x.f3, .slice A4 x.f4.length c4] (fun _ => True) (fun _ => False) rfl rfl (kr_mkM _ _ _ _ _ _ _ _ _ _) (fun _ h_ => h_.elim) (fun _ _ => trivial) QR.out HB0.out HB0.out.size (by rw [List.length_map]; exact hfl60) ?_; intro v7 w7 ho2 hb2 hg2 hat2; have N0 := Aside0.mk ho2; have N1 := Aside0.mk hb2; clear ho2 hb2 hg2 hat2; obtain ⟨Aw, cw, rfl⟩ := Kd.R_slice N0.out))
                have hn := N0.out
                rw [show (fs.map raw ++ [raw (x, A4, c4)]).length = fs.length + 1 from by simp] at hn
                refine ⟨⟨i + 1, fs ++ [(x, A4, c4)], rs, rfl, by omega, by omega, Aside0.mk ⟨by rw [List.map_append]; exact hn, fun p hp => ?_, by simp only [List.length_append, List.length_cons, List.length_nil]; omega, N1.out, ?_, ?_⟩⟩, ?_⟩
                · rcases List.mem_append.1 hp with hp | hp
                  · exact HFO.out p hp
                  · simp only [List.mem_singleton] at hp
                    subst hp
                    exact ⟨HL4.out, HC4.out⟩
                · rw [show (i + 1).toNat = i.toNat + 1 from by omega]; exact HGR.out
                · have := HFIN.out; simpa using this
                · simp [RowKit.intOf]; omega
            · rw [if_neg hqe] at hg4
              cases hg4
        · obtain rfl : i = (l0.length : Int) := by omega
          obtain ⟨hR, hF, hfl, hB, hgo, hfin⟩ := HI.out
          clear HI
          rw [Int.toNat_natCast, List.drop_length] at hgo
          simp only [goF] at hgo
          obtain rfl := Option.some.inj hgo
          rw [List.append_nil] at hfin
          have QR := Aside0.mk hR
          have HFO := Aside0.mk hF
          have HFL := Aside0.mk hfl
          have HB0 := Aside0.mk hB
          clear hR hF hfl hB hgo
          obtain ⟨Av, cv, rfl⟩ := Kd.R_slice QR.out
          have hnl : ¬ ((l0.length : Int) < (l0.length : Int)) := by omega
          obtain ⟨p, HP, hz⟩ := zO HZ.out
          obtain ⟨⟨ml, mn_, me⟩, HPA, hz2⟩ := zO hz
          clear hz HZ
          dsimp only at hz2
          by_cases hme : me = 0 ∧ mn_ = (fin.length : Int)
          · rw [if_pos hme] at hz2
            obtain ⟨rfl, hmn⟩ := hme
            obtain ⟨b, HSA, hz3⟩ := zO hz2
            clear hz2
            cases b with
            | false => rw [if_neg (by decide)] at hz3; cases hz3
            | true =>
              rw [if_pos rfl] at hz3
              obtain ⟨⟨x0, x1, x2, x3, xl, xe⟩, HXR, hz4⟩ := zO hz3
              clear hz3
              dsimp only at hz4
              have HZ4 := Aside0.mk hz4
              clear hz4
              subst hfin
              rw [List.length_map] at hmn
              subst hmn
              go_wp2_with (first | fail)
              refine (words_Print.calls k _ _ l0 p _ (Gl.below HG.out HB0.out) (Kd.C_below HR0.out HB0.out) HC0.out HP.out).mono ?_
              rintro e w2 ⟨rfl, hb⟩
              replace QR := Aside0.mk (Kd.R_below QR.out hb)
              replace HB0 := Aside0.mk (below_step HB0.out hb)
              clear hb
              go_wp2_with (first | fail)
              refine (words_Parse.calls k p ml _ 0 _ (Gl.below HG.out HB0.out) HPA.out).mono ?_
              rintro e w3 ⟨vm, rfl, hSm, hb⟩
              obtain ⟨Am, cm, rfl⟩ := Kd.S_slice hSm
              have SM := Aside0.mk hSm
              replace QR := Aside0.mk (Kd.R_below QR.out hb)
              replace HB0 := Aside0.mk (below_step HB0.out hb)
              clear hb hSm
              go_wp2_with (first | fail)
              have hlen : (fs.map (fun x => x.1)).length = fs.length := List.length_map ..
              have hcall := pledgeref38_SameAll.calls k Am cm ml Av cv (fs.map (fun x => x.1)) true w3 (Kd.S_reads' SM.out).2.2 (Kd.S_reads' SM.out).2.1 (by have h := fine_C (Kd.R_reads' QR.out).2.2 (fun p hp => ⟨(HFO.out p hp).1, Kd.C_below (HFO.out p hp).2 HB0.out⟩); simpa using h) (by have h := (Kd.R_reads' QR.out).2.1; simpa using h) HSA.out
              rw [hlen] at hcall
              refine hcall.mono ?_
              rintro e w4 ⟨rfl, hb⟩
              replace HB0 := Aside0.mk (below_step HB0.out hb)
              clear hb hcall
              go_wp2_with (first | fail)
              refine (words_Read.calls k a1 x0 x1 x2 x3 xl xe _ (Gl.below HG.out HB0.out) HXR.out).mono ?_
              rintro e w5 ⟨vx, rfl, hRx, hb⟩
              obtain ⟨Ax, cx, rfl⟩ := Kd.R_slice hRx
              have RX := Aside0.mk (Kd.R_alloc (Kd.R_lower hRx HB0.out.size) (.cells #[.int .u8 x0, .int .u32 x1, .int .i64 x2, .int .i64 x3, .slice Ax xl.length cx] 25))
              have BX := Aside0.mk (heap_alloc_new w5 (.cells #[.int .u8 x0, .int .u32 x1, .int .i64 x2, .int .i64 x3, .slice Ax xl.length cx] 25))
              replace HB0 := Aside0.mk (below_alloc (below_step HB0.out hb) (.cells #[.int .u8 x0, .int .u32 x1, .int .i64 x2, .int .i64 x3, .slice Ax xl.length cx] 25))
              clear hb hRx
              have hz4 := HZ4.out
              by_cases hxe : xe = 0
              · subst hxe
                rw [if_pos rfl] at hz4
                obtain ⟨s, HS, hz5⟩ := zO hz4
                clear hz4 HZ4
                by_cases hs : (s.toList == a1.toList) = true
                · rw [if_pos hs] at hz5
                  obtain ⟨g, HGG, hz6⟩ := zO hz5
                  clear hz5
                  cases g with
                  | false => rw [if_neg (by decide)] at hz6; cases hz6
                  | true =>
                    rw [if_pos rfl] at hz6
                    have HW := Aside0.mk hz6
                    clear hz6
                    have hc5_ := zc5 BX.out
                    go_wp2_with (first | fail)
                    refine (words_Line.calls k x0 x1 x2 x3 _ _ xl s _ (Gl.below HG.out HB0.out) (Kd.R_reads' RX.out).2.2 (Kd.R_reads' RX.out).2.1 HS.out).mono ?_
                    rintro e w6 ⟨rfl, hb⟩
                    replace RX := Aside0.mk (Kd.R_below RX.out hb)
                    replace BX := Aside0.mk (blk_below BX.out hb)
                    replace HB0 := Aside0.mk (below_step HB0.out hb)
                    clear hb hc5_
                    have hc6_ := zc5 BX.out
                    go_wp2_with (first | fail)
                    refine (pledgeref38_Good.calls x0 x1 x2 x3 _ _ xl true _ (Kd.R_reads' RX.out).2.2 (Kd.R_reads' RX.out).2.1 HGG.out).mono ?_
                    rintro e w7 ⟨rfl, hb⟩
                    replace HB0 := Aside0.mk (below_step HB0.out hb)
                    clear hb hc6_
                    go_wp2_with (first | fail)
                    refine (pledgelaw39_works.calls k r _ (Gl.below HG.out HB0.out) HW.out).mono ?_
                    rintro e w8 ⟨rfl, hb⟩
                    replace HB0 := Aside0.mk (below_step HB0.out hb)
                    clear hb
                    go_wp2_with (first | fail)
                    go_ret
                    exact ⟨rfl, HB0.out⟩
                · rw [if_neg hs] at hz5
                  cases hz5
              · rw [if_neg hxe] at hz4
                have HW := Aside0.mk hz4
                clear hz4 HZ4
                obtain ⟨he1, he2⟩ := zne hxe
                go_wp2_with (first | fail)
                refine (pledgelaw39_works.calls k r _ (Gl.below HG.out HB0.out) HW.out).mono ?_
                rintro e w8 ⟨rfl, hb⟩
                replace HB0 := Aside0.mk (below_step HB0.out hb)
                clear hb
                go_wp2_with (first | fail)
                go_ret
                exact ⟨rfl, HB0.out⟩
          · rw [if_neg hme] at hz2
            cases hz2
    · rw [if_neg h60] at hz
      cases hz
  · have hz := HH.out
    rw [if_neg hcond] at hz
    have HW := Aside0.mk hz
    clear hz HH
    cases t with
    | false =>
      go_wp2_with (first | fail)
      refine (pledgelaw39_works.calls k r _ (Gl.below HG.out HB.out) HW.out).mono ?_
      rintro e w2 ⟨rfl, hb⟩
      have HB2 := Aside0.mk (below_step HB.out hb)
      go_wp2_with (first | fail)
      go_ret
      exact ⟨rfl, HB2.out⟩
    | true =>
      have hsz : (1200 : Int) < (a1.size : Int) := by have h2 : ¬ a1.size ≤ 1200 := fun h => hcond ⟨rfl, h⟩; omega
      go_wp2_with (first | fail)
      refine (pledgelaw39_works.calls k r _ (Gl.below HG.out HB.out) HW.out).mono ?_
      rintro e w2 ⟨rfl, hb⟩
      have HB2 := Aside0.mk (below_step HB.out hb)
      go_wp2_with (first | fail)
      go_ret
      exact ⟨rfl, HB2.out⟩
end Go.Proofs.YtpnehgajhpejjaaGreatDoor.W
