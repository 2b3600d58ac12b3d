/- The laws NibOrder and NibJoins of layer 8, as walks. -/
import Derived.Test.YtaamkdejediccaaNibL
import Derived.Test.YtaamkdejediccaaNibP3
namespace Go.Proofs.Ytaamkdejediccaa
open Go.RowKit

theorem alike_end {k : Nat} {a b : List UInt8} (h : alike k a b) (hst : a.length = k ∨ b.length = k ∨ ∃ (h1 : k < a.length) (h2 : k < b.length), a[k] ≠ b[k]) : common a b = k := by
  rcases hst with h1 | h1 | ⟨h1, h2, h3⟩
  · exact common_eq_of_left h h1
  · exact common_eq_of_right h h1
  · exact common_eq_of_ne h h1 h2 h3

set_option maxHeartbeats 2000000 in
theorem nibOrder_law (a b : ByteArray) (w : World) (ha : a.size ≤ maxLen) (hb : b.size ≤ maxLen) :
    Calls Try.prog 6 #[.string a, .string b] w fun e w' => e = .returned (.bool true) ∧ Below w.heap.size w w' := by
  unfold maxLen at ha hb
  go_enter Try.func6, Try.ntmps6
  go_wp2_with fail
  refine (alive8_any w).mono ?_
  rintro e w1 ⟨rfl, hb1⟩
  by_cases h2 : 500 < a.size
  · go_wp2_with fail
    go_ret
    exact ⟨rfl, hb1⟩
  by_cases h3 : 500 < b.size
  · go_wp2_with fail
    go_ret
    exact ⟨rfl, hb1⟩
  have d2 : decide (500 < (a.size : Int)) = false := by simp; omega
  have d3 : decide (500 < (b.size : Int)) = false := by simp; omega
  go_wp2_with fail
  refine (of_any a w1 (by omega)).mono ?_
  rintro e w2 ⟨v2, rfl, ho2, hb2⟩
  obtain ⟨A, c, rfl, _, r2⟩ := rd_of_own ho2
  clear ho2
  go_wp2_with fail
  refine (of_any b w2 (by omega)).mono ?_
  rintro e w3 ⟨v3, rfl, ho3, hb3⟩
  obtain ⟨B, d, rfl, _, r3⟩ := rd_of_own ho3
  have ra : Bs w3 A (2 * a.size) (nibs a.data.toList) := Rd.below r2 hb3
  have rb : Bs w3 B (2 * b.size) (nibs b.data.toList) := r3
  have hb03 : Below w.heap.size w w3 := (hb1.trans (hb2.mono hb1.size)).trans (hb3.mono (by have := hb1.size; have := hb2.size; omega))
  clear ho3 r2 r3 hb1 hb2 hb3
  have hc1 := common_any A B (2 * a.size) (2 * b.size) c d _ _ w3 (by omega) (by omega) ra rb
  have hN := common_nibs a.data.toList b.data.toList
  generalize hNe : common (nibs a.data.toList) (nibs b.data.toList) = N at hc1 hN
  have HNe := Lib.hid hNe
  have HN := Lib.hid hN
  have hNl : N ≤ 2 * a.size := by
    have := common_le_left (nibs a.data.toList) (nibs b.data.toList)
    rw [nibs_length] at this
    simp at this; omega
  clear hNe hN
  go_wp2_with fail
  refine hc1.mono ?_
  rintro e w' ⟨rfl, q, rfl⟩
  clear hc1
  go_wp2_with fail
  go_loopw [8] (fun i wr => ∃ k : Nat, k ≤ a.size ∧ i = .int .i64 k ∧ alike k a.data.toList b.data.toList ∧ Dr w3 wr) (fun i _ => a.size - (intOf i).toNat)
  case atStart => exact ⟨0, Nat.zero_le _, rfl, alike_zero _ _, Dr.one _ _⟩
  case round =>
    obtain ⟨k, hk, rfl, hal, q, rfl⟩ := hrel
    have hkb : k ≤ b.size := by have := hal.2.1; simpa using this
    have quit : ∀ (hend : common a.data.toList b.data.toList = k), N = 2 * k ∨ N = 2 * k + 1 := fun hend => by rw [← hend]; exact HN.out
    have hless : ∀ W, Bs W A (2 * a.size) (nibs a.data.toList) → Bs W B (2 * b.size) (nibs b.data.toList) → Calls Try.prog 21 #[.slice A (2 * a.size) c, .slice B (2 * b.size) d] W fun e w' => e = .returned (.bool (Op.bytesLess a.data.toList b.data.toList)) ∧ W = w' := by
      intro W g1 g2
      have := less_any A B (2 * a.size) (2 * b.size) c d _ _ W g1 g2
      rwa [lessB, less_nibs] at this
    have hc2 : ∀ W, Bs W A (2 * a.size) (nibs a.data.toList) → Bs W B (2 * b.size) (nibs b.data.toList) → Calls Try.prog 19 #[.slice B (2 * b.size) d, .slice A (2 * a.size) c] W fun e w' => e = .returned (.int .i64 (N : Int)) ∧ Dr W w' := by
      intro W g1 g2
      have := common_any B A (2 * b.size) (2 * a.size) d c _ _ W (by omega) (by omega) g2 g1
      rwa [common_comm, HNe.out] at this
    have hc3 : ∀ W, Bs W A (2 * a.size) (nibs a.data.toList) → Calls Try.prog 19 #[.slice A (2 * a.size) c, .slice A (2 * a.size) c] W fun e w' => e = .returned (.int .i64 ((2 * a.size : Nat) : Int)) ∧ Dr W w' := by
      intro W g1
      have := common_any A A (2 * a.size) (2 * a.size) c c _ _ W (by omega) (by omega) g1 g1
      rw [common_self, nibs_length] at this
      simpa using this
    have e1 : a.toList = a.data.toList := Lib.toList_data a
    have e2 : b.toList = b.data.toList := Lib.toList_data b
    have HL := Lib.hid hless
    have HC2 := Lib.hid hc2
    have HC3 := Lib.hid hc3
    have HQ := Lib.hid quit
    clear hless hc2 hc3 quit
    by_cases hlt : k < a.size
    · by_cases hlt2 : k < b.size
      · by_cases he : a[k] = b[k]
        · have HS := Lib.hid (alike_succ hal (by simpa using hlt) (by simpa using hlt2) he)
          have hbq := u8_beq_true he
          clear hal he e1 e2
          go_wp2
          go_quiet (fail)
          go_wp2
          go_roundw
          case rel => exact ⟨k + 1, by omega, by go_num, HS.out, by first | exact Dr.one _ _ | exact Dr.two _ _ _⟩
          case measure => simp [intOf]; omega
        · have HE := Lib.hid (alike_end hal (.inr (.inr ⟨by simpa using hlt, by simpa using hlt2, he⟩)))
          have hbq := u8_beq_false he
          clear hal he
          go_wp2_with fail
          go_quiet (fail)
          go_wp2_with fail
          refine (HL.out _ (by exact ra) (by exact rb)).mono ?_
          rintro e w' ⟨rfl, rfl⟩
          rcases HQ.out HE.out with hq | hq
          · have t1 : ((N : Int) == 2 * (k : Int)) = true := by simp; omega
            clear hq
            go_wp2_with fail
            refine (HC2.out _ (by exact ra) (by exact rb)).mono ?_
            rintro e w' ⟨rfl, q2, rfl⟩
            go_wp2_with fail
            refine (HC3.out _ (by exact ra)).mono ?_
            rintro e w' ⟨rfl, q3, rfl⟩
            go_wp2_with fail
            go_ret
            exact ⟨by simp, hb03.os, hb03.tape, hb03.output, hb03.size, hb03.block⟩
          · have t1 : ((N : Int) == 2 * (k : Int)) = false := by simp; omega
            have t2 : ((N : Int) == 2 * (k : Int) + 1) = true := by simp; omega
            clear hq
            go_wp2_with fail
            refine (HC2.out _ (by exact ra) (by exact rb)).mono ?_
            rintro e w' ⟨rfl, q2, rfl⟩
            go_wp2_with fail
            refine (HC3.out _ (by exact ra)).mono ?_
            rintro e w' ⟨rfl, q3, rfl⟩
            go_wp2_with fail
            go_ret
            exact ⟨by simp, hb03.os, hb03.tape, hb03.output, hb03.size, hb03.block⟩
      · have HE := Lib.hid (alike_end hal (.inr (.inl (by simp; omega))))
        have hd : decide (k < b.size) = false := by simpa using hlt2
        clear hal
        go_wp2_with fail
        go_quiet (fail)
        go_wp2_with fail
        refine (HL.out _ (by exact ra) (by exact rb)).mono ?_
        rintro e w' ⟨rfl, rfl⟩
        rcases HQ.out HE.out with hq | hq
        · have t1 : ((N : Int) == 2 * (k : Int)) = true := by simp; omega
          clear hq
          go_wp2_with fail
          refine (HC2.out _ (by exact ra) (by exact rb)).mono ?_
          rintro e w' ⟨rfl, q2, rfl⟩
          go_wp2_with fail
          refine (HC3.out _ (by exact ra)).mono ?_
          rintro e w' ⟨rfl, q3, rfl⟩
          go_wp2_with fail
          go_ret
          exact ⟨by simp, hb03.os, hb03.tape, hb03.output, hb03.size, hb03.block⟩
        · have t1 : ((N : Int) == 2 * (k : Int)) = false := by simp; omega
          have t2 : ((N : Int) == 2 * (k : Int) + 1) = true := by simp; omega
          clear hq
          go_wp2_with fail
          refine (HC2.out _ (by exact ra) (by exact rb)).mono ?_
          rintro e w' ⟨rfl, q2, rfl⟩
          go_wp2_with fail
          refine (HC3.out _ (by exact ra)).mono ?_
          rintro e w' ⟨rfl, q3, rfl⟩
          go_wp2_with fail
          go_ret
          exact ⟨by simp, hb03.os, hb03.tape, hb03.output, hb03.size, hb03.block⟩
    · have HE := Lib.hid (alike_end hal (.inl (by simp; omega)))
      have hd : decide (k < a.size) = false := by simpa using hlt
      clear hal
      go_wp2_with fail
      go_quiet (fail)
      go_wp2_with fail
      refine (HL.out _ (by exact ra) (by exact rb)).mono ?_
      rintro e w' ⟨rfl, rfl⟩
      rcases HQ.out HE.out with hq | hq
      · have t1 : ((N : Int) == 2 * (k : Int)) = true := by simp; omega
        clear hq
        go_wp2_with fail
        refine (HC2.out _ (by exact ra) (by exact rb)).mono ?_
        rintro e w' ⟨rfl, q2, rfl⟩
        go_wp2_with fail
        refine (HC3.out _ (by exact ra)).mono ?_
        rintro e w' ⟨rfl, q3, rfl⟩
        go_wp2_with fail
        go_ret
        exact ⟨by simp, hb03.os, hb03.tape, hb03.output, hb03.size, hb03.block⟩
      · have t1 : ((N : Int) == 2 * (k : Int)) = false := by simp; omega
        have t2 : ((N : Int) == 2 * (k : Int) + 1) = true := by simp; omega
        clear hq
        go_wp2_with fail
        refine (HC2.out _ (by exact ra) (by exact rb)).mono ?_
        rintro e w' ⟨rfl, q2, rfl⟩
        go_wp2_with fail
        refine (HC3.out _ (by exact ra)).mono ?_
        rintro e w' ⟨rfl, q3, rfl⟩
        go_wp2_with fail
        go_ret
        exact ⟨by simp, hb03.os, hb03.tape, hb03.output, hb03.size, hb03.block⟩

end Go.Proofs.Ytaamkdejediccaa
