import Derived.Test.YtpnehgajhpejjaaDoorShelfA
import Derived.Test.YtpnehgajhpejjaaDoorWCut
import Derived.Lib.AppendIntMem
import Derived.Below
/- What the walks take of the library's variables: the table of powers of ten, and that MaxLen holds a number. -/
namespace Go.Proofs.YtpnehgajhpejjaaDoor
open Go.RowKit
def IfaceCell (w : World) (g : Nat) : Prop := ∃ ev : Value, w.cell? ⟨g, 0, none⟩ = some ev ∧ (ev = .nilIface ∨ ∃ te pe, ev = .iface te pe)
theorem IfaceCell.below {w w' : World} {g : Nat} (h : IfaceCell w g) (hb : Below w.heap.size w w') : IfaceCell w' g := by
  obtain ⟨ev, hv, he⟩ := h
  exact ⟨ev, (hb.cell (World.block_lt_of_cell? w _ hv)).trans hv, he⟩
def Gl (w : World) : Prop := Lib.TabBelow Tryd.prog w.heap.size w "internal/strconv.uint64pow10" .u64 Lib.pow10Tab ∧ (∃ m : Int, w.cell? ⟨0, 0, none⟩ = some (.int .i64 m)) ∧ IfaceCell w 6 ∧ IfaceCell w 7
theorem Gl.below {w w' : World} (h : Gl w) (hb : Below w.heap.size w w') : Gl w' := by
  refine ⟨fun w2 h2 => h.1 w2 (hb.trans (h2.mono hb.size)), ?_, h.2.2.1.below hb, h.2.2.2.below hb⟩
  obtain ⟨m, hm⟩ := h.2.1
  exact ⟨m, (hb.cell (World.block_lt_of_cell? w _ hm)).trans hm⟩
theorem below_grow (w : World) (k : Nat) (os : Array Obj) : Below w.heap.size w (Go.Sort.grow (w.drewN k) os) :=
  ⟨rfl, rfl, rfl, by simp [Go.Sort.grow, World.drewN], fun i hi => by
    show ((w.drewN k).heap ++ os)[i]? = _
    rw [Array.getElem?_append_left (by exact hi)]
    rfl⟩
theorem cells_strs (l : List ByteArray) : (l.map Value.string).toArray.toList = YtpnehgajhpejjaaDoorW.PrintWords.encs Value.string l := by simp [YtpnehgajhpejjaaDoorW.PrintWords.encs]
theorem own_strs (w : World) (l : List ByteArray) (hl : l.length ≤ 9223372036854775807) :
    YtpnehgajhpejjaaDoorW.PrintWords.Kd.R YtpnehgajhpejjaaDoorW.PrintWords.Kd.string 9 (w.alloc (.cells (l.map Value.string).toArray 9)) w.heap.size (fun _ => True) (.slice (some ⟨w.heap.size, 0, none⟩) l.length l.length) l := by
  have h := World.ownsRow_lit (base := w.heap.size) (e := 9) (size := 1) w (l.map Value.string).toArray l.length (Nat.le_refl _) (by simpa [maxLen] using hl) (by simp)
  exact YtpnehgajhpejjaaDoorW.PrintWords.Kd.R_of_own (enc := Value.string) (h1 := fun _ => rfl) (by rw [← cells_strs]; exact h) (fun _ _ => trivial)
end Go.Proofs.YtpnehgajhpejjaaDoor
