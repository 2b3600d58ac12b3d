/- Walks of package nib: what each function computes. -/
import Derived.Test.YtaamkdejediccaaRows
import Derived.Test.YtaamkdejediccaaNibP
import Derived.Deep.AppendLies
import Derived.Deep.RegionLaw
import Derived.Outline
namespace Go.Proofs.Ytaamkdejediccaa
open Go.RowKit

theorem Try.bytesTy : RowTy Try.prog 22 5 (.int .u8 0) 1 := ⟨Try.underlying22, by kernel_rfl, rfl⟩
theorem Try.infoByte : (Try.prog.info? 5).map (fun i => (i.zero, i.size, i.bytes)) = some (some (.int .u8 0), 1, 1) := by kernel_rfl

set_option maxHeartbeats 400000 in
theorem right_any (A : Option Addr) (n c : Nat) (l : List UInt8) (w : World) (hn : n ≤ 4294967296) (h : Bs w A n l) :
    Calls Try.prog 43 #[.slice A n c] w fun e w' => e = .returned (.bool (l.all isNib)) ∧ w = w' := by
  have hlen := h.len
  go_enter Try.func43, Try.ntmps43
  go_wp2
  go_loop [7] (fun i => ∃ k : Nat, k ≤ n ∧ i = .int .i64 k ∧ (l.take k).all isNib = true) (fun i => n - (intOf i).toNat)
  case atStart => exact ⟨0, Nat.zero_le _, rfl, by simp⟩
  case round =>
    obtain ⟨k, hk, rfl, hall⟩ := hrel
    by_cases hlt : k < n
    · obtain ⟨hl, b, off, rfl, hb, hc⟩ := h.at hlt
      by_cases h16 : l[k].toNat < 16
      · have HS := Lib.hid (all_take_succ isNib l k hl hall (isNib_yes h16))
        clear hall
        go_wp2
        go_round
        case rel => exact ⟨k + 1, by omega, by go_num, HS.out⟩
        case measure => simp [intOf]; omega
      · have HS := Lib.hid (all_false_of_get isNib l k hl (isNib_no h16))
        clear hall
        go_wp2
        go_ret
        exact ⟨by rw [HS.out]; rfl, rfl⟩
    · have hkn : k = n := by omega
      subst hkn
      go_wp2
      go_ret
      exact ⟨ret_congr (by rw [← hlen] at hall; simpa using hall), rfl⟩

set_option maxHeartbeats 400000 in
theorem of_any (s : ByteArray) (w : World) (hs : s.size ≤ 1000000) :
    Calls Try.prog 17 #[.string s] w fun e w' => ∃ v, e = .returned v ∧ w'.ownsRow w.heap.size 5 1 v (2 * s.size) ((nibs s.data.toList).map bv) ∧ Below w.heap.size w w' := by
  obtain ⟨i0, hi, hz0, hz1, hz2⟩ := info_parts Try.infoByte
  go_enter Try.func17, Try.ntmps17
  go_wp2_with (at_make; refine wpList_make_own _ rfl _ _ 22 rfl w.heap.size 5 i0 (.int .u8 0) 1 Try.underlying22 hi hz0 hz1 .i64 .i64 _ (2 * s.size) rfl rfl (by simp) (by rw [hz2]; omega) (by unfold maxLen; omega) (Nat.le_refl _) ?_; intro w0 hown0 hgrow0)
  have hb0 : Below w.heap.size w w0 := (Below.refl _ _).grown hgrow0 (Nat.le_refl _) (by simp)
  clear hgrow0
  go_loopw [3, 11] (fun v i wr => ∃ k : Nat, k ≤ s.size ∧ i = .int .i64 k ∧ wr.ownsRow w.heap.size 5 1 v (2 * k) ((nibs (s.data.toList.take k)).map bv) ∧ Below w.heap.size w wr) (fun _ i _ => s.size - (intOf i).toNat)
  case atStart => exact ⟨0, Nat.zero_le _, rfl, by simpa [nibs] using hown0, hb0⟩
  case round =>
    obtain ⟨k, hk, rfl, hown, hb⟩ := hrel
    clear hown0
    have hsz := hb.size
    by_cases hlt : k < s.size
    · have hl : k < s.data.toList.length := by simpa using hlt
      have HS := Lib.hid (nibs_take_succ_str s k hlt)
      go_wp2
      go_region_law (refine step_app_new rfl (.tmp 14) (.tmp 23) 22 rfl Try.bytesTy wr w.heap.size u3 (2 * k) ((nibs (s.data.toList.take k)).map bv) [Value.int .u8 (IntKind.u8.wrap (↑s[k].toNat / 16)), Value.int .u8 ((↑s[k].toNat : Int).tmod 16)] (by simp [Act.eval]) hown rfl rfl rfl rfl 2 2 (by simp [Act.eval]) rfl (by simp [Value.oneCell']) (by simp; omega) (by decide) hsz ?_; intro v2 w2 hown2 hb')
      all_goals
        have hb2 := hb.trans hb'
        rw [bv_div', bv_mod'] at hown2
        clear hown hb hb'
        go_wp2
        go_roundw
        case rel => exact ⟨k + 1, by omega, by go_num, by rw [HS.out, List.map_append]; exact hown2, hb2⟩
        case measure => simp [intOf]; omega
    · have hkn : k = s.size := by omega
      subst hkn
      go_wp2
      go_ret
      exact ⟨_, rfl, by rw [List.take_of_length_le (by simp)] at hown; exact hown, hb⟩

end Go.Proofs.Ytaamkdejediccaa
