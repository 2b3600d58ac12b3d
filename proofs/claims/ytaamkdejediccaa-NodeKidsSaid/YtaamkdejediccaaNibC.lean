/- Walks of package nib: Pack, Unpack. -/
import Derived.Test.YtaamkdejediccaaNibB
namespace Go.Proofs.Ytaamkdejediccaa
open Go.RowKit

set_option maxHeartbeats 400000 in
theorem pack_any (A : Option Addr) (n c : Nat) (l : List UInt8) (w : World) (hn : n ≤ 15) (h : Bs w A n l) (hnib : l.all isNib = true) :
    Calls Try.prog 23 #[.slice A n c] w fun e w' => e = .returned (.tuple #[.int .u64 ((n + 16 * packN l : Nat) : Int), .bool true]) ∧ w = w' := by
  have hlen := h.len
  have hr := right_any A n c l w (by omega) h
  rw [hnib] at hr
  go_enter Try.func23, Try.ntmps23
  go_wp2_with (go_at_call 43; refine hr.mono ?_; rintro e w' ⟨rfl, rfl⟩)
  go_loop [4, 20] (fun v i => ∃ k : Nat, k ≤ n ∧ i = .int .i64 k ∧ v = .int .u64 ((n + 16 * packN (l.take k) : Nat) : Int)) (fun _ i => n - (intOf i).toNat)
  case atStart => exact ⟨0, Nat.zero_le _, rfl, by simp [packN]⟩
  case round =>
    obtain ⟨k, hk, rfl, rfl⟩ := hrel
    by_cases hlt : k < n
    · obtain ⟨hl, b, off, rfl, hb, hc⟩ := h.at hlt
      have HS := Lib.hid (pack_step l n k hn hlt hl hnib)
      clear hr hnib
      go_wp2
      go_round
      case rel => exact ⟨k + 1, by omega, by go_num, HS.out⟩
      case measure => simp [intOf]; omega
    · have hkn : k = n := by omega
      subst hkn
      go_wp2
      go_ret2
      exact ⟨by simp [← hlen], rfl⟩

theorem pack_big (A : Option Addr) (n c : Nat) (w : World) (hn : 15 < n) (hn2 : n ≤ 4294967296) :
    Calls Try.prog 23 #[.slice A n c] w fun e w' => e = .returned (.tuple #[.int .u64 0, .bool false]) ∧ w = w' := by
  go_enter Try.func23, Try.ntmps23
  go_wp2
  go_ret2
  exact ⟨rfl, rfl⟩

theorem pack_no (A : Option Addr) (n c : Nat) (l : List UInt8) (w : World) (hn : n ≤ 15) (h : Bs w A n l) (hnib : l.all isNib = false) :
    Calls Try.prog 23 #[.slice A n c] w fun e w' => e = .returned (.tuple #[.int .u64 0, .bool false]) ∧ w = w' := by
  have hr := right_any A n c l w (by omega) h
  rw [hnib] at hr
  go_enter Try.func23, Try.ntmps23
  go_wp2_with (go_at_call 43; refine hr.mono ?_; rintro e w' ⟨rfl, rfl⟩)
  go_ret2
  exact ⟨rfl, rfl⟩

def UnpackPost (x : Nat) (w : World) (e : Ending) (w' : World) : Prop :=
  Below w.heap.size w w' ∧ (if x / 16 / 16 ^ (x % 16) = 0 then ∃ v, e = .returned (.tuple #[v, .bool true]) ∧ w'.ownsRow w.heap.size 5 1 v (x % 16) ((digits (x % 16) (x / 16)).map bv)
    else e = .returned (.tuple #[.slice none 0 0, .bool false]))

set_option maxHeartbeats 400000 in
theorem unpack_any (x : Nat) (w : World) (hx : x < 18446744073709551616) :
    Calls Try.prog 25 #[.int .u64 (x : Int)] w (UnpackPost x w) := by
  obtain ⟨i0, hi, hz0, hz1, hz2⟩ := info_parts Try.infoByte
  have hm : x % 16 < 16 := Nat.mod_lt _ (by decide)
  go_enter Try.func25, Try.ntmps25
  go_wp2_with (at_make; refine wpList_make_full _ rfl _ _ 22 rfl w.heap.size 5 i0 (.int .u8 0) 1 Try.underlying22 hi hz0 hz1 .i64 .i64 _ _ (x % 16) rfl rfl (by simp) (by simp) (by rw [hz2]; omega) (by unfold maxLen; omega) (Nat.le_refl _) ?_; intro w0 hown0 hgrow0)
  rw [made_bytes] at hown0
  have hb0 : Below w.heap.size w w0 := (Below.refl _ _).grown hgrow0 (Nat.le_refl _) (by simp)
  clear hgrow0
  obtain ⟨m, hmm⟩ : ∃ m, m = x % 16 := ⟨_, rfl⟩
  obtain ⟨y, hyy⟩ : ∃ y, y = x / 16 := ⟨_, rfl⟩
  have em : ((x : Int) % 16) = (m : Int) := by omega
  have ey : ((x : Int) / 16) = (y : Int) := by omega
  have hy : y < 18446744073709551616 := by omega
  have HM := Lib.hid hmm
  have HY := Lib.hid hyy
  rw [em, ey, ← hmm]
  rw [← hmm] at hown0 hm
  clear em ey hmm hyy
  go_loopw [0, 16] (fun v i wr => ∃ k : Nat, k ≤ m ∧ i = .int .i64 k ∧ v = .int .u64 ((y / 16 ^ k : Nat) : Int) ∧ wr.ownsRow w.heap.size 5 1 (.slice (some ⟨w.heap.size, 0, none⟩) m m) m ((digits k y ++ List.replicate (m - k) (0 : UInt8)).map bv) ∧ Below w.heap.size w wr) (fun _ i _ => m - (intOf i).toNat)
  case atStart => exact ⟨0, Nat.zero_le _, rfl, by simp, by simpa [digits] using hown0, hb0⟩
  case round =>
    clear hown0 hb0
    obtain ⟨k, hk, rfl, rfl, hown, hb⟩ := hrel
    obtain ⟨z, hz⟩ : ∃ z, z = y / 16 ^ k := ⟨_, rfl⟩
    have hzl : z < 18446744073709551616 := by rw [hz]; exact Nat.lt_of_le_of_lt (Nat.div_le_self _ _) hy
    by_cases hlt : k < m
    · have hst := digits_store k m y hlt
      have hpw : ((z : Int) / 16) = ((y / 16 ^ (k + 1) : Nat) : Int) := by rw [Nat.pow_succ, ← Nat.div_div_eq_div_mul, ← hz]; simp
      rw [← hz] at hst ⊢
      have HS := Lib.hid hst
      have HP := Lib.hid hpw
      clear hst hpw hz
      obtain ⟨u, hu⟩ := own_cell hown hlt
      have hf := hown.frozenAt k
      have hown2 := (hown.stored k (bv (UInt8.ofNat (z % 16)))).1
      have hb2 := hb.setCell (p := ⟨w.heap.size, k, none⟩) (Nat.le_refl _) (bv (UInt8.ofNat (z % 16)))
      rw [HS.out, ← bv_of16] at hown2
      rw [← bv_of16] at hb2
      clear hown hb
      go_wp2
      go_roundw
      case rel => exact ⟨k + 1, by omega, by go_num, by rw [HP.out], hown2, hb2⟩
      case measure => simp [intOf]; omega
    · have hkn : k = m := by omega
      subst hkn
      rw [← hz]
      by_cases hz0 : z = 0
      · have ht : ((z : Int) != 0) = false := by simp [hz0]
        have HZ := Lib.hid hz
        have HZ0 := Lib.hid hz0
        clear hz hz0
        go_wp2
        go_ret2
        refine ⟨hb, ?_⟩
        rw [← HM.out, ← HY.out, ← HZ.out, if_pos HZ0.out]
        exact ⟨_, rfl, by simpa using hown⟩
      · have ht : ((z : Int) != 0) = true := by simp; omega
        have HZ := Lib.hid hz
        have HZ0 := Lib.hid hz0
        clear hz hz0
        go_wp2
        go_ret2
        refine ⟨hb, ?_⟩
        rw [← HM.out, ← HY.out, ← HZ.out, if_neg HZ0.out]
        rfl

end Go.Proofs.Ytaamkdejediccaa
