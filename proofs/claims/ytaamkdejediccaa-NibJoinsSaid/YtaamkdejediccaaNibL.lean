/- The laws of layer 8, as walks: NibTells, NibPacks, NibBack. -/
import Derived.Test.YtaamkdejediccaaNibH
namespace Go.Proofs.Ytaamkdejediccaa
open Go.RowKit

set_option maxHeartbeats 1000000 in
theorem nibPacks_law (A : Option Addr) (n c : Nat) (l : List UInt8) (x : Nat) (w : World) (hn : n ≤ maxLen) (h : Bs w A n l) (hx : x < 18446744073709551616) :
    Calls Try.prog 4 #[.slice A n c, .int .u64 (x : Int)] w fun e w' => e = .returned (.bool true) ∧ Below w.heap.size w w' := by
  unfold maxLen at hn
  go_enter Try.func4, Try.ntmps4
  go_wp2_with fail
  refine (alive8_any w).mono ?_
  rintro e w1 ⟨rfl, hb1⟩
  by_cases h500 : 500 < n
  · go_wp2_with fail
    go_ret
    exact ⟨rfl, hb1⟩
  have h1 := h.below hb1
  have hp : ∃ v b, Calls Try.prog 23 #[.slice A n c] w1 (fun e w' => e = .returned (.tuple #[.int .u64 v, .bool b]) ∧ w1 = w') ∧ Calls Try.prog 24 #[.slice A n c] w1 (fun e w' => e = .returned (.tuple #[.int .u64 v, .bool b]) ∧ w1 = w') := by
    by_cases h15 : n ≤ 15
    · have e1 := packN_any A n c l w1 h15 h1
      have e2 := packR_any A n c l w1 h15 h1
      unfold packV at e1 e2
      by_cases hnib : l.all isNib = true
      · rw [if_pos hnib] at e1 e2; exact ⟨_, _, e1, e2⟩
      · rw [if_neg hnib] at e1 e2; exact ⟨_, _, e1, e2⟩
    · exact ⟨_, _, pack_big A n c w1 (by omega) (by omega), packR_big A n c w1 (by omega) (by omega)⟩
  obtain ⟨v, b, e1, e2⟩ := hp
  have E1 := Lib.hid e1
  have E2 := Lib.hid e2
  clear e1 e2 h h1
  go_wp2_with fail
  refine E1.out.mono ?_
  rintro e w' ⟨rfl, rfl⟩
  go_wp2_with fail
  refine E2.out.mono ?_
  rintro e w' ⟨rfl, rfl⟩
  go_wp2_with fail
  refine (unpack_any x w1 hx).mono ?_
  rintro e w2 ⟨hb2, hu⟩
  by_cases hz : x / 16 / 16 ^ (x % 16) = 0
  · rw [if_pos hz] at hu
    obtain ⟨v2, rfl, ho2⟩ := hu
    obtain ⟨A2, c2, rfl, _, r2⟩ := rd_of_own ho2
    clear ho2
    go_wp2_with fail
    refine (unpackR_any x w2 hx).mono ?_
    rintro e w3 ⟨hb3, hu⟩
    rw [if_pos hz] at hu
    obtain ⟨v3, rfl, ho3⟩ := hu
    obtain ⟨A3, c3, rfl, _, r3⟩ := rd_of_own ho3
    clear ho3
    have k2 := conv_bs (Rd.below r2 hb3) c2
    have k3 := conv_bs r3 c3
    clear r2 r3 hz
    go_wp2_with fail
    go_ret
    exact ⟨by simp, (hb1.trans (hb2.mono hb1.size)).trans (hb3.mono (by have := hb1.size; have := hb2.size; omega))⟩
  · rw [if_neg hz] at hu
    subst hu
    go_wp2_with fail
    refine (unpackR_any x w2 hx).mono ?_
    rintro e w3 ⟨hb3, hu⟩
    rw [if_neg hz] at hu
    subst hu
    have k2 := conv_bs (w := w3) (A := none) (l := []) Rd.nil 0
    clear hz
    go_wp2_with fail
    go_ret
    exact ⟨by simp, (hb1.trans (hb2.mono hb1.size)).trans (hb3.mono (by have := hb1.size; have := hb2.size; omega))⟩

end Go.Proofs.Ytaamkdejediccaa
