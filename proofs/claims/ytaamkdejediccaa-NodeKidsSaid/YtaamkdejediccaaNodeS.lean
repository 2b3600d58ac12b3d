/- R.Same of one node read twice. -/
import Derived.Test.YtaamkdejediccaaNodeK
import Derived.Test.YtaamkdejediccaaNodeR
namespace Go.Proofs.Ytaamkdejediccaa
open Go.RowKit

set_option maxHeartbeats 1000000 in
theorem same_true (A1 A2 A3 B1 B2 B3 : Option Addr) (n1 c1 n2 c2 n3 c3 m1 d1 m2 d2 m3 d3 : Nat) (x : Nd) (w : World) (b3 : n3 ≤ 1000000) (h1 : Bs w A1 n1 x.pre) (h2 : Bs w A2 n2 x.labels) (h3 : Ws w A3 n3 x.kids)
    (g1 : Bs w B1 m1 x.pre) (g2 : Bs w B2 m2 x.labels) (g3 : Ws w B3 m3 x.kids) :
    Calls Try.prog 31 #[.agg #[.slice A1 n1 c1, .int .u64 (x.val.toNat : Int), .slice A2 n2 c2, .slice A3 n3 c3], .agg #[.slice B1 m1 d1, .int .u64 (x.val.toNat : Int), .slice B2 m2 d2, .slice B3 m3 d3]] w fun e w' => e = .returned (.bool true) ∧ Below w.heap.size w w' := by
  have l3 := h3.len
  have r3 := g3.len
  have hb1 := (Below.refl w.heap.size w).alloc (Nat.le_refl _) (.cells #[.slice A1 n1 c1, .int .u64 (x.val.toNat : Int), .slice A2 n2 c2, .slice A3 n3 c3] 40)
  have hb2 := hb1.alloc (by simp) (.cells #[.slice B1 m1 d1, .int .u64 (x.val.toNat : Int), .slice B2 m2 d2, .slice B3 m3 d3] 40)
  have k1 := conv_bs (h1.below hb2) c1
  have k2 := conv_bs (h2.below hb2) c2
  have j1 := conv_bs (g1.below hb2) d1
  have j2 := conv_bs (g2.below hb2) d2
  have h3' := h3.below hb2
  have g3' := g3.below hb2
  clear h1 h2 h3 g1 g2 g3 hb1
  have hsw := sameWords_any A3 B3 n3 m3 c3 d3 x.kids x.kids _ (by omega) (by omega) h3' g3'
  rw [show decide (x.kids = x.kids) = true from decide_eq_true rfl] at hsw
  generalize (⟨x.pre.toArray⟩ : ByteArray) = P at *
  generalize (⟨x.labels.toArray⟩ : ByteArray) = L at *
  generalize (x.val.toNat : Int) = V at *
  clear h3' g3'
  have t3 : (V == V) = true := by simp
  have HB := Lib.hid hb2
  have HS := Lib.hid hsw
  clear hb2 hsw l3 r3
  go_enter Try.func31, Try.ntmps31
  go_wp2_with fail
  refine HS.out.mono ?_
  rintro e w1 ⟨rfl, hd⟩
  clear k1 k2 j1 j2
  go_wp2_with fail
  go_ret
  exact ⟨rfl, HB.out.trans (hd.below _)⟩

end Go.Proofs.Ytaamkdejediccaa
