/- The law NibTells of layer 8, as a walk. -/
import Derived.Test.YtaamkdejediccaaNibL
import Derived.Deep.RegionHeld
namespace Go.Proofs.Ytaamkdejediccaa
open Go.RowKit

theorem keyV_form (l : List UInt8) : ∃ s b, keyV l = .tuple #[.string s, .bool b] := by
  unfold keyV; split
  · exact ⟨_, _, rfl⟩
  · exact ⟨_, _, rfl⟩

theorem Dr.rd {w w' : World} {A : Option Addr} {n : Nat} {xs : List Value} (h : Rd w A n xs) (hd : Dr w w') : Rd w' A n xs := h.below (hd.below _)

set_option maxHeartbeats 4000000 in
theorem nibTells_law (key : ByteArray) (A B : Option Addr) (n c m d : Nat) (a b : List UInt8) (w : World) (hk : key.size ≤ maxLen) (hn : n ≤ maxLen) (hm : m ≤ maxLen) (ha : Bs w A n a) (hb : Bs w B m b) :
    Calls Try.prog 3 #[.string key, .slice A n c, .slice B m d] w fun e w' => e = .returned (.bool true) ∧ Below w.heap.size w w' := by
  unfold maxLen at hk hn hm
  go_enter Try.func3, Try.ntmps3
  go_wp2_with fail
  refine (alive8_any w).mono ?_
  rintro e w1 ⟨rfl, hb1⟩
  by_cases h1 : 500 < key.size
  · go_wp2_with fail
    go_ret
    exact ⟨rfl, hb1⟩
  by_cases h2 : 500 < n
  · go_wp2_with fail
    go_ret
    exact ⟨rfl, hb1⟩
  by_cases h3 : 500 < m
  · go_wp2_with fail
    go_ret
    exact ⟨rfl, hb1⟩
  have d1 : decide (500 < (key.size : Int)) = false := by simp; omega
  have d2 : decide (500 < (n : Int)) = false := by simp; omega
  have d3 : decide (500 < (m : Int)) = false := by simp; omega
  have ha1 := ha.below hb1
  have hb11 := hb.below hb1
  obtain ⟨s, q, hV⟩ := keyV_form a
  obtain ⟨S, hS⟩ : ∃ S : ByteArray, (⟨(nibs key.data.toList).toArray⟩ : ByteArray) = S := ⟨_, rfl⟩
  have HS := Lib.hid hS
  clear hS
  have t4 : (s.toList == s.toList) = true := by simp
  have t5 : (S.toList == S.toList) = true := by simp
  have t6 : (q == q) = true := by simp
  have HV := Lib.hid hV
  clear hV ha hb
  go_wp2_with fail
  refine (key_any A n c a w1 (by omega) ha1).mono ?_
  rintro e w2 ⟨rfl, hb2⟩
  rw [HV.out]
  have ha2 := ha1.below hb2
  have hb22 := hb11.below hb2
  clear ha1 hb11
  go_wp2_with fail
  refine (keyR_any A n c a w2 (by omega) ha2).mono ?_
  rintro e w3 ⟨rfl, hb3⟩
  rw [HV.out]
  have ha3 : Bs w3.drew A n a := ha2.below hb3.drew
  have hb33 : Bs w3.drew B m b := hb22.below hb3.drew
  have hb03 : Below w.heap.size w w3.drew := ((hb1.trans (hb2.mono hb1.size)).trans (hb3.mono (by have := hb1.size; have := hb2.size; omega))).drew
  have hk6 : key.size ≤ 1000000 := by omega
  clear ha2 hb22 hb1 hb2 hb3
  go_wp2_with fail
  go_region_held (fun _ => True) (exact trivial) (first
    | (go_at_call 17; refine (of_any key _ hk6).mono ?_; rintro e w4 ⟨v4, rfl, ho4, hb4⟩; obtain ⟨A4, c4, rfl, _, r4⟩ := rd_of_own ho4; have k4 := conv_bs r4 c4; rw [HS.out] at k4; have ha4 : Bs w4 A n a := Rd.below ha3 hb4; have hb44 : Bs w4 B m b := Rd.below hb33 hb4; clear ho4)
    | (go_at_call 18; refine (ofR_any key _ hk6).mono ?_; rintro e w5 ⟨v5, rfl, ho5, hb5⟩; obtain ⟨A5, c5, rfl, _, r5⟩ := rd_of_own ho5; have ha5 : Bs w5 A n a := Rd.below ha4 hb5; have hb55 : Bs w5 B m b := Rd.below hb44 hb5; have k5 := conv_bs r5 c5; have k45 := conv_bs (Rd.below r4 hb5) c4; rw [HS.out] at k5 k45; clear r4 r5 ha4 hb44; clear ho5)
    | (go_at_call 19; refine (common_any A B n m c d a b _ (by omega) (by omega) (by exact ha5) (by exact hb55)).mono ?_; rintro e w6 ⟨rfl, q6, rfl⟩)
    | (go_at_call 20; refine (commonR_any A B n m c d a b _ (by omega) (by omega) (by exact ha5) (by exact hb55)).mono ?_; rintro e w7 ⟨rfl, q7, rfl⟩)
    | (go_at_call 21; refine (less_any A B n m c d a b _ (by exact ha5) (by exact hb55)).mono ?_; rintro e w8 ⟨rfl, rfl⟩)
    | (go_at_call 22; refine (lessR_any A B n m c d a b _ (by omega) (by omega) (by exact ha5) (by exact hb55)).mono ?_; rintro e w9 ⟨rfl, q9, rfl⟩))
  all_goals
    have hX := hb03.trans ((hb4.trans (hb5.mono hb4.size)).mono hb03.size)
    clear hb4 hb5 hb03 k4 k5 k45 ha5 hb55 ha3 hb33
    go_wp2
    go_ret
    exact ⟨by simp, hX.os, hX.tape, hX.output, hX.size, hX.block⟩

end Go.Proofs.Ytaamkdejediccaa
