/- Walks: slices.Clone at words and at bytes, few. -/
import Derived.Test.YtaamkdejediccaaNodeE
namespace Go.Proofs.Ytaamkdejediccaa
open Go.RowKit

set_option maxHeartbeats 400000 in
theorem cloneW_any (A : Option Addr) (n c : Nat) (l : List UInt64) (w : World) (hn : n ≤ 1000000) (h : Ws w A n l) :
    Calls Try.prog 60 #[.slice A n c] w fun e w' => ∃ v, e = .returned v ∧ w'.ownsRow w.heap.size 30 1 v n (l.map wv) ∧ Below w.heap.size w w' := by
  have hlen := h.len
  rcases A with _ | ad
  · have hn0 : n = 0 := by
      rcases Nat.eq_zero_or_pos n with h0 | h0
      · exact h0
      · obtain ⟨_, _, e, _⟩ := h.2 h0; cases e
    subst hn0
    have hl : l = [] := List.eq_nil_of_length_eq_zero hlen
    subst hl
    have q1 := fun W => Lib.run_eql_slice_nil (P := Try.prog) W 38 30 none 0 c 0 0 Try.underlying38
    go_enter Try.func60, Try.ntmps60
    go_wp2
    go_ret
    exact ⟨_, rfl, World.ownsRow_nil _ _ _ _, Below.refl _ _⟩
  · have q1 := fun W => Lib.run_eql_slice_nil (P := Try.prog) W 38 30 (some ad) n c 0 0 Try.underlying38
    go_enter Try.func60, Try.ntmps60
    go_wp2_with (at_builtin; refine wpList_app_rd rfl (.tmp 5) (.tmp 6) 38 rfl Try.wordsTy w.heap.size (.slice (some ⟨w.heap.size, 0, none⟩) 0 0) 0 [] (l.map wv) rfl (World.ownsRow_made w #[] 0 (Nat.le_refl _) (by decide) rfl) (some ad) n c rfl (h.below ((Below.refl _ _).alloc (Nat.le_refl _) _)) (oneCell_wv _) (by omega) (by decide) (by simp) ?_; intro v2 w2 hown2 hb2)
    go_ret
    exact ⟨v2, rfl, by simpa using hown2, ((Below.refl _ _).alloc (Nat.le_refl _) _).trans hb2⟩

set_option maxHeartbeats 400000 in
theorem cloneB_any (A : Option Addr) (n c : Nat) (l : List UInt8) (w : World) (hn : n ≤ 1000000) (h : Bs w A n l) :
    Calls Try.prog 64 #[.slice A n c] w fun e w' => ∃ v, e = .returned v ∧ w'.ownsRow w.heap.size 5 1 v n (l.map bv) ∧ Below w.heap.size w w' := by
  have hlen := h.len
  rcases A with _ | ad
  · have hn0 : n = 0 := by
      rcases Nat.eq_zero_or_pos n with h0 | h0
      · exact h0
      · obtain ⟨_, _, e, _⟩ := h.2 h0; cases e
    subst hn0
    have hl : l = [] := List.eq_nil_of_length_eq_zero hlen
    subst hl
    have q1 := fun W => Lib.run_eql_slice_nil (P := Try.prog) W 22 5 none 0 c 0 0 Try.underlying22
    go_enter Try.func64, Try.ntmps64
    go_wp2
    go_ret
    exact ⟨_, rfl, World.ownsRow_nil _ _ _ _, Below.refl _ _⟩
  · have q1 := fun W => Lib.run_eql_slice_nil (P := Try.prog) W 22 5 (some ad) n c 0 0 Try.underlying22
    go_enter Try.func64, Try.ntmps64
    go_wp2_with (at_builtin; refine wpList_app_rd rfl (.tmp 5) (.tmp 6) 22 rfl Try.bytesTy w.heap.size (.slice (some ⟨w.heap.size, 0, none⟩) 0 0) 0 [] (l.map bv) rfl (World.ownsRow_made w #[] 0 (Nat.le_refl _) (by decide) rfl) (some ad) n c rfl (h.below ((Below.refl _ _).alloc (Nat.le_refl _) _)) (oneCell_bv _) (by omega) (by decide) (by simp) ?_; intro v2 w2 hown2 hb2)
    go_ret
    exact ⟨v2, rfl, by simpa using hown2, ((Below.refl _ _).alloc (Nat.le_refl _) _).trans hb2⟩


/-- few, of a node's fields. -/
theorem few_any (A1 A2 A3 : Option Addr) (n1 c1 n2 c2 n3 c3 : Nat) (v : Value) (w : World) (h1 : n1 ≤ maxLen) (h2 : n2 ≤ maxLen) (h3 : n3 ≤ maxLen) :
    Calls Try.prog 28 #[.agg #[.slice A1 n1 c1, v, .slice A2 n2 c2, .slice A3 n3 c3]] w fun e w' => e = .returned (.bool (decide (n1 ≤ 200) && decide (n2 ≤ 200) && decide (n3 ≤ 200))) ∧ Below w.heap.size w w' := by
  unfold maxLen at h1 h2 h3
  have hb := (Below.refl w.heap.size w).alloc (Nat.le_refl _) (.cells #[.slice A1 n1 c1, v, .slice A2 n2 c2, .slice A3 n3 c3] 40)
  by_cases g1 : n1 ≤ 200
  · have d1 : decide ((n1 : Int) ≤ 200) = true := by simp; omega
    by_cases g2 : n2 ≤ 200
    · have d2 : decide ((n2 : Int) ≤ 200) = true := by simp; omega
      by_cases g3 : n3 ≤ 200
      · have d3 : decide ((n3 : Int) ≤ 200) = true := by simp; omega
        go_enter Try.func28, Try.ntmps28
        go_wp2
        go_ret
        exact ⟨by simp [g1, g2, g3], hb⟩
      · have d3 : decide ((n3 : Int) ≤ 200) = false := by simp; omega
        go_enter Try.func28, Try.ntmps28
        go_wp2
        go_ret
        exact ⟨by simp [g3], hb⟩
    · have d2 : decide ((n2 : Int) ≤ 200) = false := by simp; omega
      go_enter Try.func28, Try.ntmps28
      go_wp2
      go_ret
      exact ⟨by simp [g2], hb⟩
  · have d1 : decide ((n1 : Int) ≤ 200) = false := by simp; omega
    go_enter Try.func28, Try.ntmps28
    go_wp2
    go_ret
    exact ⟨by simp [g1], hb⟩

end Go.Proofs.Ytaamkdejediccaa
