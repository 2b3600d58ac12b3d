import Derived.SliceStrings
import Derived.Test.YtklcklflnkbccaaGreatDoorG41
import Derived.Test.YtklcklflnkbccaaGreatDoorG46
/- What the frames of layer 11's laws use: a slice of strings that came in, opened. -/
namespace Go.Proofs.YtklcklflnkbccaaGreatDoor
open Go.ChangeShapes Go.WideShapes Go.ChangeAt Go.RowKit

/-- Strings that came in. -/
theorem open_texts {H : Type} {enc : TypeId × Value → H} {W : World} {v : Value} {d : DataW H} {p : List MemPlace} (h : DataW.Trod enc Tryz.prog W 0 (fun _ => true) true 22 v d p) (h1 : v.cells.toList = [v]) :
    ∃ A c l, v = .slice A l.length c ∧ l.length ≤ maxLen ∧ l.length ≤ c ∧ (A = none → c = 0) ∧ StrR W A l := by
  obtain ⟨m, hm⟩ := h
  rw [h1] at hm
  rcases open_strings Tryz.underlying22 Tryz.underlying9 (by kernel_rfl) hm with ⟨hcs, _⟩ | ⟨a, len, cap, ss, hcs, _, hl, hc, hz, _, hcell, _⟩
  · simp only [List.cons.injEq, and_true] at hcs
    exact ⟨none, 0, [], hcs, by simp, Nat.le_refl _, fun _ => rfl, by simp, fun h => absurd h (by simp)⟩
  · simp only [List.cons.injEq, and_true] at hcs
    have hzz : ss.length = cap := by rw [hz]; simp
    have hsl : (ss.take len).length = len := by rw [List.length_take]; omega
    refine ⟨some a, cap, ss.take len, by rw [hcs, hsl], by omega, by omega, (fun e => nomatch e), by rw [List.length_map], fun h0 => ?_⟩
    rw [hsl] at h0 ⊢
    have c0 := hcell 0 (by omega)
    have h3 : a.spot = none := by
      have h2 := World.cell?_spot c0
      simpa [Addr.add] using h2
    have hlt : a.block < W.heap.size := World.block_lt_of_cell? W _ (by simpa [Addr.add] using c0)
    obtain ⟨b, off, sp⟩ := a
    simp only at h3
    subst h3
    refine ⟨b, off, rfl, hlt, fun j hj => ?_⟩
    have hg := hcell j (by omega)
    rw [Addr.add_lit] at hg
    rw [hg, List.getElem?_map, List.getElem?_take, if_pos hj, List.getD_eq_getElem?_getD, List.getElem?_eq_getElem (by omega : j < ss.length)]
    rfl

end Go.Proofs.YtklcklflnkbccaaGreatDoor
