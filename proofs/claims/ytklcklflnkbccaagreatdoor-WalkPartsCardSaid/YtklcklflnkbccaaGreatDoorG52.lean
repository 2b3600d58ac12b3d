import Derived.Laws.IdiomArrays
import Derived.Test.YtklcklflnkbccaaGreatDoorG47
/- What the frame of WalkParts uses: three strings that came in, opened. -/
namespace Go.Proofs.YtklcklflnkbccaaGreatDoor
open Go.ChangeShapes Go.WideShapes Go.ChangeAt Go.RowKit

theorem array_len {H : Type} {enc : TypeId × Value → H} {P : Program} {W : World} {base : Nat} {sp : Nat → Bool} {held : Bool} {t e : TypeId} {k n m : Nat} {cs : List Value} {x : DataW H × List MemPlace} (ht : P.underlying t = some (.array k e)) (hC : P.cellsOf t = m)
    (h : DataW.trod enc P W base sp held (n + 1) t cs = some x) : cs.length = m := by
  unfold DataW.trod at h
  rw [ht] at h
  dsimp only at h
  rw [hC] at h
  split at h
  · assumption
  · cases h

theorem open_three {H : Type} {enc : TypeId × Value → H} {W : World} {v : Value} {d : DataW H} {p : List MemPlace} (h : DataW.Trod enc Tryz.prog W 0 (fun _ => true) true 39 v d p) :
    ∃ c0 c1 c2 : ByteArray, v = .agg #[.string c0, .string c1, .string c2] := by
  obtain ⟨m, hm⟩ := h
  have hC : Tryz.prog.cellsOf 39 = 3 := by kernel_rfl
  have hS : Tryz.prog.cellsOf 9 = 1 := by kernel_rfl
  have hl : v.cells.toList.length = 3 := by
    cases m with
    | zero => simp [DataW.trod] at hm
    | succ n =>
      exact array_len Tryz.underlying39 hC hm
  obtain ⟨cs, rfl⟩ : ∃ cs, v = .agg cs := by
    cases v
    case agg cs => exact ⟨cs, rfl⟩
    all_goals exact absurd hl (by simp [Value.cells])
  have hc : (Value.agg cs).cells = cs := rfl
  rw [hc] at hm hl
  obtain ⟨l⟩ := cs
  match l, hl with
  | [a, b, c], _ =>
    obtain ⟨y0, y1, y2, n, _, h0, h1, h2⟩ := trod_array3 Tryz.underlying39 hS hm
    obtain ⟨s0, e0, _, _⟩ := DataW.trod_string Tryz.underlying9 h0
    obtain ⟨s1, e1, _, _⟩ := DataW.trod_string Tryz.underlying9 h1
    obtain ⟨s2, e2, _, _⟩ := DataW.trod_string Tryz.underlying9 h2
    simp only [List.cons.injEq, and_true] at e0 e1 e2
    subst e0 e1 e2
    exact ⟨s0, s1, s2, rfl⟩

theorem u8_nat {a : Int} (h : (Lit.int .u8 a).wf = true) : ∃ n : Nat, a = (n : Int) ∧ n < 256 := by
  have hb : 0 ≤ a ∧ a ≤ 255 := by simpa [Lit.wf, IntKind.min, IntKind.max, IntKind.bits, IntKind.signed] using h
  exact ⟨a.toNat, by omega, by omega⟩

end Go.Proofs.YtklcklflnkbccaaGreatDoor
