import Derived.ShutString
import Derived.ChangeOld
import Derived.Lib.SmallJoins
import Derived.Test.YtcelabojehaioaaGreatDoorG01
import Derived.Test.YtcelabojehaioaaGreatDoorG51
/- What the frames of layer 21's laws use: bytes that came in, opened. -/
namespace Go.Proofs.YtcelabojehaioaaGreatDoor
open Go.ChangeShapes Go.WideShapes Go.ChangeAt Go.RowKit

/-- Bytes that came in. -/
theorem open_bytes {H : Type} {enc : TypeId × Value → H} {W : World} {v : Value} {d : DataW H} {p : List MemPlace} (h : DataW.Trod enc Tryz.prog W 0 (fun _ => true) true 39 v d p) (h1 : v.cells.toList = [v]) :
    ∃ A c l, v = .slice A l.length c ∧ l.length ≤ maxLen ∧ l.length ≤ c ∧ Bs W A l.length l := by
  obtain ⟨m, hm⟩ := h
  rw [h1] at hm
  rcases open_ints Tryz.underlying39 Tryz.underlying5 (by kernel_rfl) hm with ⟨hcs, _⟩ | ⟨x, n, cp, zs, hcs, _, hl, hmx, hz, _, hcell, hwz⟩
  · simp only [List.cons.injEq, and_true] at hcs
    exact ⟨none, 0, [], hcs, by simp, Nat.le_refl _, ⟨rfl, fun h => absurd h (by simp)⟩⟩
  · simp only [List.cons.injEq, and_true] at hcs
    obtain ⟨l, hb, hl1, hl2⟩ := bs_of_row (w := W) (a := some x) (len := n) (cap := cp) (zs := zs) (.inr ⟨_, rfl, hl, hmx, by simpa using hz, hcell, hwz⟩)
    have hn := hb.len
    exact ⟨some x, cp, l, by rw [hcs, hn], by omega, by omega, by rw [hn]; exact hb⟩

end Go.Proofs.YtcelabojehaioaaGreatDoor
