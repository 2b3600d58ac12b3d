/- Walks of package nib: Common, and the reference's. -/
import Derived.Test.YtaamkdejediccaaNibA
namespace Go.Proofs.Ytaamkdejediccaa
open Go.RowKit

set_option maxHeartbeats 400000 in
theorem common_any (A B : Option Addr) (n m ca cb : Nat) (a b : List UInt8) (w : World) (hn : n ≤ 4294967296) (_hm : m ≤ 4294967296) (ha : Bs w A n a) (hb : Bs w B m b) :
    Calls Try.prog 19 #[.slice A n ca, .slice B m cb] w fun e w' => e = .returned (.int .i64 (common a b : Nat)) ∧ Dr w w' := by
  have hla := ha.len
  have hlb := hb.len
  go_enter Try.func19, Try.ntmps19
  go_wp2
  go_loopw [5] (fun i wr => ∃ k : Nat, k ≤ n ∧ i = .int .i64 k ∧ alike k a b ∧ Dr w wr) (fun i _ => n - (intOf i).toNat)
  case atStart => exact ⟨0, Nat.zero_le _, rfl, alike_zero _ _, Dr.refl _⟩
  case round =>
    obtain ⟨k, hk, rfl, hal, q, rfl⟩ := hrel
    have hkm := hal.2.1
    by_cases hlt : k < n
    · obtain ⟨hl, p, off, rfl, hp, hc⟩ := ha.at hlt
      by_cases hlt2 : k < m
      · obtain ⟨hl2, p2, off2, rfl, hp2, hc2⟩ := hb.at hlt2
        by_cases he : a[k] = b[k]
        · have HS := Lib.hid (alike_succ hal hl hl2 he)
          have hbq := u8_beq_true he
          clear hal he
          go_wp2
          go_quiet (fail)
          go_wp2
          go_roundw
          case rel => exact ⟨k + 1, by omega, by go_num, HS.out, by first | exact Dr.one _ _ | exact Dr.two _ _ _⟩
          case measure => simp [intOf]; omega
        · have HS := Lib.hid (common_eq_of_ne hal hl hl2 he)
          have hbq := u8_beq_false he
          clear hal he
          go_wp2
          go_quiet (fail)
          go_wp2
          go_ret
          exact ⟨by rw [HS.out]; rfl, by first | exact Dr.one _ _ | exact Dr.two _ _ _⟩
      · have HS := Lib.hid (common_eq_of_right hal (by omega))
        have hd : decide (k < m) = false := by simpa using hlt2
        clear hal
        go_wp2
        go_quiet (fail)
        go_wp2
        go_ret
        exact ⟨by rw [HS.out]; rfl, by first | exact Dr.one _ _ | exact Dr.two _ _ _⟩
    · have HS := Lib.hid (common_eq_of_left hal (by omega))
      have hd : decide (k < n) = false := by simpa using hlt
      clear hal
      go_wp2
      go_quiet (fail)
      go_wp2
      go_ret
      exact ⟨by rw [HS.out]; rfl, by first | exact Dr.one _ _ | exact Dr.two _ _ _⟩

set_option maxHeartbeats 400000 in
theorem commonR_any (A B : Option Addr) (n m ca cb : Nat) (a b : List UInt8) (w : World) (hn : n ≤ 4294967296) (_hm : m ≤ 4294967296) (ha : Bs w A n a) (hb : Bs w B m b) :
    Calls Try.prog 20 #[.slice A n ca, .slice B m cb] w fun e w' => e = .returned (.int .i64 (common a b : Nat)) ∧ Dr w w' := by
  have hla := ha.len
  have hlb := hb.len
  go_enter Try.func20, Try.ntmps20
  go_wp2
  go_loopw [5] (fun i wr => ∃ k : Nat, k ≤ n ∧ i = .int .i64 k ∧ alike k a b ∧ Dr w wr) (fun i _ => n - (intOf i).toNat)
  case atStart => exact ⟨0, Nat.zero_le _, rfl, alike_zero _ _, Dr.refl _⟩
  case round =>
    obtain ⟨k, hk, rfl, hal, q, rfl⟩ := hrel
    have hkm := hal.2.1
    by_cases hlt : k < n
    · obtain ⟨hl, p, off, rfl, hp, hc⟩ := ha.at hlt
      by_cases hlt2 : k < m
      · obtain ⟨hl2, p2, off2, rfl, hp2, hc2⟩ := hb.at hlt2
        by_cases he : a[k] = b[k]
        · have HS := Lib.hid (alike_succ hal hl hl2 he)
          have hbq := u8_beq_true he
          clear hal he
          go_wp2
          go_quiet (fail)
          go_wp2
          go_roundw
          case rel => exact ⟨k + 1, by omega, by go_num, HS.out, by first | exact Dr.one _ _ | exact Dr.two _ _ _⟩
          case measure => simp [intOf]; omega
        · have HS := Lib.hid (common_eq_of_ne hal hl hl2 he)
          have hbq := u8_beq_false he
          clear hal he
          go_wp2
          go_quiet (fail)
          go_wp2
          go_ret
          exact ⟨by rw [HS.out]; rfl, by first | exact Dr.one _ _ | exact Dr.two _ _ _⟩
      · have HS := Lib.hid (common_eq_of_right hal (by omega))
        have hd : decide (k < m) = false := by simpa using hlt2
        clear hal
        go_wp2
        go_quiet (fail)
        go_wp2
        go_ret
        exact ⟨by rw [HS.out]; rfl, by first | exact Dr.one _ _ | exact Dr.two _ _ _⟩
    · have HS := Lib.hid (common_eq_of_left hal (by omega))
      have hd : decide (k < n) = false := by simpa using hlt
      clear hal
      go_wp2
      go_quiet (fail)
      go_wp2
      go_ret
      exact ⟨by rw [HS.out]; rfl, by first | exact Dr.one _ _ | exact Dr.two _ _ _⟩

end Go.Proofs.Ytaamkdejediccaa
