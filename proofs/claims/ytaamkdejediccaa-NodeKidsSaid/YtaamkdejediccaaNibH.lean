/- The walk of layer 8's alive: true, and nothing that was there has turned. -/
import Derived.Test.YtaamkdejediccaaNibG
namespace Go.Proofs.Ytaamkdejediccaa
open Go.RowKit

/-- Two cells in a new block are a slice of two bytes. -/
theorem bs_new2 (w : World) (a b : UInt8) (g : Nat) (hg : g = w.heap.size) : Bs (w.alloc (.cells #[bv a, bv b] 5)) (some ⟨g, 0, none⟩) 2 [a, b] := by
  subst hg
  refine ⟨rfl, fun _ => ⟨w.heap.size, 0, rfl, by show w.heap.size < (w.heap.push _).size; simp, fun j hj => ?_⟩⟩
  rw [cell_of_row _ w.heap.size _ _ 5 (0, 0) (heap_alloc_new w _)]
  simp
theorem bs_new1 (w : World) (a : UInt8) (g : Nat) (hg : g = w.heap.size) : Bs (w.alloc (.cells #[bv a] 5)) (some ⟨g, 0, none⟩) 1 [a] := by
  subst hg
  refine ⟨rfl, fun _ => ⟨w.heap.size, 0, rfl, by show w.heap.size < (w.heap.push _).size; simp, fun j hj => ?_⟩⟩
  rw [cell_of_row _ w.heap.size _ _ 5 (0, 0) (heap_alloc_new w _)]
  simp

/-- string(l) at the seat's own types. -/
theorem conv_bs {w : World} {A : Option Addr} {n : Nat} {l : List UInt8} (h : Bs w A n l) (c : Nat) : (convert 22 9 (.slice A n c)).run Try.prog w = .ok (.string ⟨l.toArray⟩) w :=
  run_string_of_bs Try.underlying22 Try.underlying5 Try.underlying9 h c

set_option maxHeartbeats 1000000 in
theorem alive8_any (w : World) : Calls Try.prog 14 #[] w fun e w' => e = .returned (.bool true) ∧ Below w.heap.size w w' := by
  go_enter Try.func14, Try.ntmps14
  go_wp2_with fail
  refine (of_any ⟨#[97]⟩ w (by decide)).mono ?_
  rintro e w1 ⟨v1, rfl, ho1, hb1⟩
  obtain ⟨A1, c1, rfl, _, r1⟩ := rd_of_own ho1
  have s1 : Bs w1 A1 2 [6, 1] := r1
  clear ho1 r1
  go_wp2_with fail
  have hp := packN_any A1 2 c1 [6, 1] w1 (by decide) s1
  rw [show packV [6, 1] = .tuple #[.int .u64 354, .bool true] from rfl] at hp
  refine hp.mono ?_
  rintro e w' ⟨rfl, rfl⟩
  clear hp
  go_wp2_with fail
  refine (unpack_any 354 w1 (by decide)).mono ?_
  rintro e w2 ⟨hb2, hu⟩
  rw [if_pos (by decide)] at hu
  obtain ⟨v2, rfl, ho2⟩ := hu
  obtain ⟨A2, c2, rfl, _, r2⟩ := rd_of_own ho2
  have s2 : Bs w2 A2 2 [6, 1] := r2
  have s1' := s1.below hb2
  clear ho2 r2
  go_wp2_with fail
  have s3 := bs_new2 w2 6 1 _ rfl
  refine (key_any _ 2 2 [6, 1] _ (by decide) s3).mono ?_
  rintro e w3 ⟨rfl, hb3⟩
  rw [show keyV [6, 1] = .tuple #[.string ⟨#[97]⟩, .bool true] from rfl]
  have hb23 : Below w2.heap.size w2 w3 := ((Below.refl _ _).alloc (Nat.le_refl _) _).trans (hb3.mono (by simp))
  have k1 := conv_bs (s1'.below hb23) c1
  have k2 := conv_bs (s2.below hb23) c2
  have hb03 : Below w.heap.size w w3 := (hb1.trans (hb2.mono hb1.size)).trans (hb23.mono (by have := hb1.size; have := hb2.size; omega))
  clear s1 s1' s2 s3 hb23 hb3 hb2 hb1
  go_wp2_with fail
  refine (common_any _ _ 2 2 2 2 [1, 2] [1, 3] _ (by decide) (by decide) ((bs_new2 w3 1 2 _ rfl).below ((Below.refl _ _).alloc (Nat.le_refl _) _)) (bs_new2 (w3.alloc _) 1 3 _ (by simp))).mono ?_
  rintro e w' ⟨rfl, q, rfl⟩
  rw [show common [1, 2] [1, 3] = 1 from rfl]
  go_wp2_with fail
  generalize hW : ((w3.alloc (Obj.cells #[bv 1, bv 2] 5)).alloc (Obj.cells #[bv 1, bv 3] 5)).drewN q = W
  have hbW : Below w3.heap.size w3 W := by
    subst hW
    exact (((Below.refl _ _).alloc (Nat.le_refl _) _).alloc (by simp) _).trans ((Dr.one _ q).below _)
  have hsW : w3.heap.size + 1 + 1 = W.heap.size := by subst hW; show _ = ((w3.heap.push _).push _).size; simp
  rw [hsW]
  clear hW
  refine (less_any _ _ 1 1 1 1 [1] [2] _ ((bs_new1 W 1 _ rfl).below ((Below.refl _ _).alloc (Nat.le_refl _) _)) (bs_new1 (W.alloc _) 2 _ (by simp))).mono ?_
  rintro e w' ⟨rfl, rfl⟩
  rw [show lessB [1] [2] = true from by decide]
  clear k1 k2
  go_wp2_with fail
  go_ret
  exact ⟨rfl, hb03.trans ((hbW.trans (((Below.refl _ _).alloc hbW.size _).alloc (by simp; have := hbW.size; omega) _)).mono hb03.size)⟩

end Go.Proofs.Ytaamkdejediccaa
