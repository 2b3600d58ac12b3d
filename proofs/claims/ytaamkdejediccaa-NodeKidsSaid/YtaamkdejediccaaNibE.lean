/- Walks of package nib and of its reference: Key, Of, Pack, Unpack. -/
import Derived.Test.YtaamkdejediccaaNibD
import Derived.Test.YtaamkdejediccaaNibP2
namespace Go.Proofs.Ytaamkdejediccaa
open Go.RowKit

set_option maxHeartbeats 400000 in
theorem ofR_any (s : ByteArray) (w : World) (hs : s.size ≤ 1000000) :
    Calls Try.prog 18 #[.string s] w fun e w' => ∃ v, e = .returned v ∧ w'.ownsRow w.heap.size 5 1 v (2 * s.size) ((nibs s.data.toList).map bv) ∧ Below w.heap.size w w' := by
  go_enter Try.func18, Try.ntmps18
  go_wp2
  go_loopw [3, 4] (fun v i wr => ∃ k : Nat, k ≤ s.size ∧ i = .int .i64 k ∧ wr.ownsRow w.heap.size 5 1 v (2 * k) ((nibs (s.data.toList.take k)).map bv) ∧ Below w.heap.size w wr) (fun _ i _ => s.size - (intOf i).toNat)
  case atStart => exact ⟨0, Nat.zero_le _, rfl, World.ownsRow_nil _ _ _ _, Below.refl _ _⟩
  case round =>
    obtain ⟨k, hk, rfl, hown, hb⟩ := hrel
    have hsz := hb.size
    by_cases hlt : k < s.size
    · have HS := Lib.hid (nibs_take_succ_str s k hlt)
      go_wp2
      go_region_law (refine step_app_new rfl (.tmp 11) (.tmp 20) 22 rfl Try.bytesTy wr w.heap.size u3 (2 * k) ((nibs (s.data.toList.take k)).map bv) [Value.int .u8 (IntKind.u8.wrap (↑s[k].toNat / 16)), Value.int .u8 ((↑s[k].toNat : Int).tmod 16)] (by simp [Act.eval]) hown rfl rfl rfl rfl 2 2 (by simp [Act.eval]) rfl (by simp [Value.oneCell']) (by simp; omega) (by decide) hsz ?_; intro v2 w2 hown2 hb')
      all_goals
        have hb2 := hb.trans hb'
        rw [bv_div', bv_mod'] at hown2
        clear hown hb hb'
        go_wp2
        go_roundw
        case rel => exact ⟨k + 1, by omega, by go_num, by rw [HS.out, List.map_append]; exact hown2, hb2⟩
        case measure => simp [intOf]; omega
    · have hkn : k = s.size := by omega
      subst hkn
      go_wp2
      go_ret
      exact ⟨_, rfl, by rw [List.take_of_length_le (by simp)] at hown; exact hown, hb⟩

/-- What Pack answers. -/
def packV (l : List UInt8) : Value := if l.all isNib then .tuple #[.int .u64 ((l.length + 16 * packN l : Nat) : Int), .bool true] else .tuple #[.int .u64 0, .bool false]

set_option maxHeartbeats 400000 in
theorem packR_any (A : Option Addr) (n c : Nat) (l : List UInt8) (w : World) (hn : n ≤ 15) (h : Bs w A n l) :
    Calls Try.prog 24 #[.slice A n c] w fun e w' => e = .returned (packV l) ∧ w = w' := by
  have hlen := h.len
  have hd : decide (15 < (n : Int)) = false := by simp; omega
  go_enter Try.func24, Try.ntmps24
  go_wp2
  go_loop [4, 5] (fun v i => ∃ (k : Nat) (q : Int), k ≤ n ∧ q = (k : Int) - 1 ∧ i = .int .i64 q ∧ v = .int .u64 ((packN (l.drop k) : Nat) : Int) ∧ (l.drop k).all isNib = true) (fun _ i => (intOf i + 1).toNat)
  case atStart => exact ⟨n, _, Nat.le_refl _, rfl, rfl, by rw [← hlen]; simp [packN], by rw [← hlen]; simp⟩
  case round =>
    obtain ⟨k, q, hk, hq, rfl, rfl, hall⟩ := hrel
    rcases k with _ | k
    · have hq1 : q < 0 := by omega
      have hP := packN_le l 15 (by omega) (by simpa using hall)
      rw [nat_pow_16_15] at hP
      have HV : Hid (packV l = .tuple #[.int .u64 ((n + 16 * packN l : Nat) : Int), .bool true]) := by
        simp only [List.drop_zero] at hall
        exact Lib.hid (by rw [packV, if_pos hall, hlen])
      rw [List.drop_zero]
      clear hall hq
      generalize packN l = P at *
      go_wp2
      go_ret2
      exact ⟨by rw [HV.out]; simp; omega, rfl⟩
    · obtain rfl : q = (k : Int) := by omega
      clear hq
      obtain ⟨hl, b, off, rfl, hb, hc⟩ := h.at (show k < n by omega)
      have hP := packN_le (l.drop (k + 1)) 14 (by simp; omega) hall
      rw [nat_pow_16_14] at hP
      have hD := packN_drop l k hl
      have hdl := l[k].toNat_lt
      generalize hPe : packN (l.drop (k + 1)) = P at *
      by_cases h16 : l[k].toNat < 16
      · have HD := Lib.hid hD
        have HA := Lib.hid (drop_all_succ l k hl hall h16)
        clear hall hD hPe
        go_wp2
        go_round
        case rel => exact ⟨k, _, by omega, rfl, rfl, by rw [HD.out]; congr 1; simp; omega, HA.out⟩
        case measure => simp [intOf]
      · have HV : Hid (packV l = .tuple #[.int .u64 0, .bool false]) := Lib.hid (by rw [packV, if_neg (by rw [all_false_of_get isNib l k hl (isNib_no h16)]; simp)])
        clear hall hD hPe
        go_wp2
        go_ret2
        exact ⟨by rw [HV.out]; rfl, rfl⟩

theorem packR_big (A : Option Addr) (n c : Nat) (w : World) (hn : 15 < n) (hn2 : n ≤ 4294967296) :
    Calls Try.prog 24 #[.slice A n c] w fun e w' => e = .returned (.tuple #[.int .u64 0, .bool false]) ∧ w = w' := by
  go_enter Try.func24, Try.ntmps24
  go_wp2
  go_ret2
  exact ⟨rfl, rfl⟩

theorem packN_any (A : Option Addr) (n c : Nat) (l : List UInt8) (w : World) (hn : n ≤ 15) (h : Bs w A n l) :
    Calls Try.prog 23 #[.slice A n c] w fun e w' => e = .returned (packV l) ∧ w = w' := by
  have hlen := h.len
  cases hnib : l.all isNib with
  | true => rw [packV, if_pos hnib, hlen]; exact pack_any A n c l w hn h hnib
  | false => rw [packV, if_neg (by simp [hnib])]; exact pack_no A n c l w hn h hnib

end Go.Proofs.Ytaamkdejediccaa
