/- What the frames of layer 9's laws use: a node that came in, opened. -/
import Derived.Test.YtaamkdejediccaaRows
import Derived.Test.YtaamkdejediccaaBase
import Derived.ProofKit
import Derived.OpenShut
import Derived.ShutString
import Derived.ChangeOld
import Derived.Lib.SmallJoins
namespace Go.Proofs.Ytaamkdejediccaa
open Go.ChangeShapes Go.WideShapes Go.ChangeAt Go.RowKit

theorem row_of_trod {H : Type} {enc : TypeId × Value → H} {P : Program} {W : World} {t e : TypeId} {k : IntKind} (ht : P.underlying t = some (.slice e)) (he : P.underlying e = some (.int k)) (hc : P.cellsOf e = 1) {fuel : Nat} {c : Value} {y : DataW H × List MemPlace}
    (h : DataW.trod enc P W 0 (fun _ => true) true fuel t [c] = some y) : ∃ a len cap zs, c = .slice a len cap ∧ IsRow k W a len cap zs := by
  rcases open_ints ht he hc h with ⟨hcs, _⟩ | ⟨x, l, cp, zs, hcs, _, hl, hm, hz, _, hcell, hwz⟩
  · simp only [List.cons.injEq, and_true] at hcs
    exact ⟨none, 0, 0, [], hcs, .inl ⟨rfl, rfl, rfl, rfl⟩⟩
  · simp only [List.cons.injEq, and_true] at hcs
    exact ⟨some x, l, cp, zs, hcs, .inr ⟨_, rfl, hl, hm, by simpa using hz, hcell, hwz⟩⟩

theorem u64_of_wf' {a : Int} (h : (Lit.int .u64 a).wf = true) : ∃ x : UInt64, a = (x.toNat : Int) := by
  obtain ⟨n, rfl, hn⟩ := u64_of_wf h
  exact ⟨UInt64.ofNat n, by rw [UInt64.toNat_ofNat_of_lt' (by simpa [UInt64.size] using hn)]⟩

/-- A node that came in. -/
theorem open_node {H : Type} {enc : TypeId × Value → H} {W : World} {v : Value} {d : DataW H} {p : List MemPlace} {r : Reach} {b0 : Nat} (hv : Value.okWide Try.prog W r b0 40 v) (h : DataW.Trod enc Try.prog W 0 (fun _ => true) true 40 v d p) :
    ∃ a1 l1 p1 z1 x a2 l2 p2 z2 a3 l3 p3 z3, v = .agg #[.slice a1 l1 p1, .int .u64 x, .slice a2 l2 p2, .slice a3 l3 p3] ∧ IsRow .u8 W a1 l1 p1 z1 ∧ (Lit.int .u64 x).wf = true ∧ IsRow .u8 W a2 l2 p2 z2 ∧ IsRow .u64 W a3 l3 p3 z3 := by
  obtain ⟨c0, c1, c2, c3, y0, y1, y2, y3, m, hv0, _, _, g0, g1, g2, g3⟩ := Joins.open_agg4 Try.underlying40 (by kernel_rfl) (by kernel_rfl) hv h
  obtain ⟨a1, l1, p1, z1, rfl, r1⟩ := row_of_trod Try.underlying22 Try.underlying5 (by kernel_rfl) g0
  obtain ⟨x, e1, _, wx⟩ := DataW.trod_int Try.underlying30 g1
  obtain ⟨a2, l2, p2, z2, rfl, r2⟩ := row_of_trod Try.underlying22 Try.underlying5 (by kernel_rfl) g2
  obtain ⟨a3, l3, p3, z3, rfl, r3⟩ := row_of_trod Try.underlying38 Try.underlying30 (by kernel_rfl) g3
  simp only [List.cons.injEq, and_true] at e1
  subst e1
  exact ⟨a1, l1, p1, z1, x, a2, l2, p2, z2, a3, l3, p3, z3, hv0, r1, wx, r2, r3⟩

end Go.Proofs.Ytaamkdejediccaa
