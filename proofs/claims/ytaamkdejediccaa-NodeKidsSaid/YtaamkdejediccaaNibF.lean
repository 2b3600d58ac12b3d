/- Walks of package nib and of its reference: Unpack of the reference, Key. -/
import Derived.Test.YtaamkdejediccaaNibE
namespace Go.Proofs.Ytaamkdejediccaa
open Go.RowKit

set_option maxHeartbeats 400000 in
theorem unpackR_any (x : Nat) (w : World) (hx : x < 18446744073709551616) :
    Calls Try.prog 26 #[.int .u64 (x : Int)] w (UnpackPost x w) := by
  have hm : x % 16 < 16 := Nat.mod_lt _ (by decide)
  obtain ⟨m, hmm⟩ : ∃ m, m = x % 16 := ⟨_, rfl⟩
  obtain ⟨y, hyy⟩ : ∃ y, y = x / 16 := ⟨_, rfl⟩
  have em : ((x : Int) % 16) = (m : Int) := by omega
  have ey : ((x : Int) / 16) = (y : Int) := by omega
  have hy : y < 18446744073709551616 := by omega
  have HM := Lib.hid hmm
  have HY := Lib.hid hyy
  have EM := Lib.hid em
  rw [← hmm] at hm
  clear hmm hyy em
  go_enter Try.func26, Try.ntmps26
  go_wp2
  clear ey
  go_loopw [4, 5, 6] (fun l v i wr => ∃ k : Nat, k ≤ m ∧ i = .int .u64 k ∧ v = .int .u64 ((y / 16 ^ k : Nat) : Int) ∧ wr.ownsRow w.heap.size 5 1 l k ((digits k y).map bv) ∧ Below w.heap.size w wr) (fun _ _ i _ => m - (intOf i).toNat)
  case atStart => exact ⟨0, Nat.zero_le _, rfl, by simp, World.ownsRow_nil _ _ _ _, Below.refl _ _⟩
  case round =>
    obtain ⟨k, hk, rfl, rfl, hown, hb⟩ := hrel
    have hsz := hb.size
    have em := EM.out
    obtain ⟨z, hz⟩ : ∃ z, z = y / 16 ^ k := ⟨_, rfl⟩
    have hzl : z < 18446744073709551616 := by rw [hz]; exact Nat.lt_of_le_of_lt (Nat.div_le_self _ _) hy
    by_cases hlt : k < m
    · have hst : (digits (k + 1) y).map bv = (digits k y).map bv ++ [Value.int .u8 ((z : Int) % 16)] := by rw [digits_succ, ← hz, bv_of16]; simp
      have hpw : ((z : Int) / 16) = ((y / 16 ^ (k + 1) : Nat) : Int) := by rw [Nat.pow_succ, ← Nat.div_div_eq_div_mul, ← hz]; simp
      rw [← hz]
      have HS := Lib.hid hst
      have HP := Lib.hid hpw
      clear hst hpw hz
      go_wp2_with (at_builtin; refine wpList_app_new rfl (.tmp 17) (.tmp 21) 22 rfl Try.bytesTy wr w.heap.size u4 k ((digits k y).map bv) [Value.int .u8 ((z : Int) % 16)] rfl hown rfl rfl rfl rfl 1 1 rfl rfl (by simp [Value.oneCell']) (by simp; omega) (by decide) hsz ?_; intro v2 w2 hown2 hb')
      have hb2 := hb.trans hb'
      clear hown hb hb'
      go_roundw
      case rel => exact ⟨k + 1, by omega, by go_num, by rw [HP.out], by rw [HS.out]; exact hown2, hb2⟩
      case measure => simp [intOf]; omega
    · have hkn : k = m := by omega
      subst hkn
      have htest := unpack_test x
      rw [← HM.out, ← HY.out] at htest
      obtain ⟨A, c, rfl, _, hrd⟩ := rd_of_own hown
      have hpk := packR_any A k c (digits k y) wr (by omega) hrd
      rw [packV, if_pos (digits_nib _ _), digits_length] at hpk
      have hpb := packN_le (digits k y) 15 (by rw [digits_length]; omega) (digits_nib _ _)
      rw [nat_pow_16_15] at hpb
      generalize packN (digits k y) = p at *
      clear hz
      by_cases hz0 : y / 16 ^ k = 0
      · have hp : k + 16 * p = x := htest.2 hz0
        have HZ0 := Lib.hid hz0
        have HO := Lib.hid hown
        rw [hp] at hpk
        have ht : ((x : Int) != (x : Int)) = false := by simp
        clear hz0 htest hp hown hpb
        go_wp2_with (go_at_call 24; refine hpk.mono ?_; rintro e w' ⟨rfl, rfl⟩)
        go_ret2
        refine ⟨hb, ?_⟩
        rw [← HM.out, ← HY.out, if_pos HZ0.out]
        exact ⟨_, rfl, HO.out⟩
      · have hp : k + 16 * p ≠ x := fun e => hz0 (htest.1 e)
        have HZ0 := Lib.hid hz0
        have ht : ((((k + 16 * p : Nat) : Int)) != (x : Int)) = true := by simp; omega
        generalize k + 16 * p = r at *
        clear hz0 htest hp hown hpb
        go_wp2_with (go_at_call 24; refine hpk.mono ?_; rintro e w' ⟨rfl, rfl⟩)
        go_ret2
        refine ⟨hb, ?_⟩
        rw [← HM.out, ← HY.out, if_neg HZ0.out]
        rfl

end Go.Proofs.Ytaamkdejediccaa
