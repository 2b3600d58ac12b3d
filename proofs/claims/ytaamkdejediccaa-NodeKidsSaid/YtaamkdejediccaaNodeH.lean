/- Walks of package node: big. -/
import Derived.Test.YtaamkdejediccaaNodeG
namespace Go.Proofs.Ytaamkdejediccaa
open Go.RowKit

theorem own_lengths {w : World} {base : Nat} {e : TypeId} {v : Value} {n : Nat} {xs : List Value} (h : w.ownsRow base e 1 v n xs) : xs.length = n := by simpa using h.1

set_option maxHeartbeats 1000000 in
theorem big_any (A : Option Addr) (c : Nat) (l : List UInt64) (w : World) (hc : 32 ≤ c) (h : Ws w A 32 l) :
    Calls Try.prog 46 #[.slice A 32 c] w (TwoPost (collB 0 ((l.drop 4).take 16)) (collK ((l.drop 4).take 16)) w) := by
  have hlen := h.len
  obtain ⟨_, b, off, rfl, _, _⟩ := h.at (show 0 < 32 by decide)
  have hsl := run_sub Try.wordsTy (some ⟨b, off, none⟩) 32 c .i64 .i64 4 20 (by omega) (by omega)
  have hsb : subA (some ⟨b, off, none⟩) c 4 = some ⟨b, off + 4, none⟩ := by rw [subA, if_neg (by omega)]; simp [Addr.add_lit]
  rw [hsb] at hsl
  have e4 : ((4 : Nat) : Int) = 4 := rfl
  have e20 : ((20 : Nat) : Int) = 20 := rfl
  simp only [e4, e20] at hsl
  have ht : Ws w (some ⟨b, off + 4, none⟩) 16 ((l.drop 4).take 16) := by
    have := Ws.sub h (c := c) (lo := 4) (hi := 20) (by omega) (by omega) hc
    rwa [hsb] at this
  clear hsb e4 e20 hlen
  generalize (l.drop 4).take 16 = t at *
  have htl := ht.len
  go_enter Try.func46, Try.ntmps46
  go_wp2
  go_loopw [4, 5, 11] (fun v4 v5 i wr => ∃ k : Nat, k ≤ 16 ∧ i = .int .i64 k ∧ wr.ownsRow w.heap.size 5 1 v4 (collB 0 (t.take k)).length ((collB 0 (t.take k)).map bv) ∧ wr.ownsRow w.heap.size 30 1 v5 (collK (t.take k)).length ((collK (t.take k)).map wv) ∧ Below w.heap.size w wr) (fun _ _ i _ => 16 - (intOf i).toNat)
  case atStart => exact ⟨0, Nat.zero_le _, rfl, World.ownsRow_nil _ _ _ _, World.ownsRow_nil _ _ _ _, Below.refl _ _⟩
  case round =>
    obtain ⟨k, hk, rfl, ho4, ho5, hbr⟩ := hrel
    have hsz := hbr.size
    by_cases hlt : k < 16
    · have htr := ht.below hbr
      obtain ⟨hq, b', off', e', _, hcc⟩ := htr.at hlt
      injection e' with e'
      injection e' with e1 e2 e3
      subst e1 e2
      have hsn : t.take (k + 1) = t.take k ++ [t[k]] := List.take_succ_eq_append_getElem hq
      have hcB := collB_snoc 0 (t.take k) t[k]
      have hcK := collK_snoc (t.take k) t[k]
      rw [← hsn, List.length_take, Nat.min_eq_left (by omega), Nat.zero_add] at hcB
      rw [← hsn] at hcK
      have hlK : (collK (t.take k)).length ≤ 16 := by have := collK_le (t.take k); simp at this; omega
      have hlB : (collB 0 (t.take k)).length ≤ 16 := by rw [coll_length]; exact hlK
      by_cases h0 : t[k].toNat = 0
      · rw [if_pos h0, List.append_nil] at hcB hcK
        have t1 : ((t[k].toNat : Int) != 0) = false := by simp [h0]
        have HB := Lib.hid hcB
        have HK := Lib.hid hcK
        have HO4 := Lib.hid ho4
        have HO5 := Lib.hid ho5
        clear hcB hcK h0 ho4 ho5 htr e3 hsn
        go_wp2
        go_roundw
        case rel => exact ⟨k + 1, by omega, by go_num, by rw [HB.out]; exact HO4.out, by rw [HK.out]; exact HO5.out, hbr⟩
        case measure => simp [intOf]; omega
      · rw [if_neg h0] at hcB hcK
        have t1 : ((t[k].toNat : Int) != 0) = true := by simp; omega
        have HB := Lib.hid hcB
        have HK := Lib.hid hcK
        have hu8 : Value.int .u8 (k : Int) = bv (UInt8.ofNat k) := by simp only [bv, UInt8.toNat_ofNat']; congr 1; omega
        have HU8 := Lib.hid hu8
        have hap := own_apart ho4 ho5 (by decide)
        have hap' : ∀ g, u5.ownBlock = some g → u4.ownBlock ≠ some g := fun g h5 h4 => hap g h4 h5
        generalize hnB : (collB 0 (t.take k)).length = nB at *
        generalize hnK : (collK (t.take k)).length = nK at *
        clear hcB hcK h0 htr e3 hsn hu8 hap
        go_wp2_with (first
          | (at_builtin
             refine wpList_app_new2 rfl (.tmp 18) (.tmp 21) 22 rfl Try.bytesTy wr w.heap.size u4 nB ((collB 0 (t.take k)).map bv) [.int .u8 (k : Int)] rfl ho4 rfl rfl rfl rfl 1 1 rfl rfl (by simp [Value.oneCell']) (by simp; omega) (by decide) hsz ?_
             intro v4' w4 ho4' hb4 hk4
             have ho5' := own_kept ho5 hk4 hap'
             have hsz4 : w.heap.size ≤ w4.heap.size := Nat.le_trans hsz hb4.size)
          | (at_builtin
             refine wpList_app_new2 rfl (.tmp 23) (.tmp 25) 38 rfl Try.wordsTy w4 w.heap.size u5 nK ((collK (t.take k)).map wv) [.int .u64 (t[k].toNat : Int)] rfl ho5' rfl rfl rfl rfl 1 1 rfl rfl (by simp [Value.oneCell']) (by simp; omega) (by decide) hsz4 ?_
             intro v5' w5 ho5'' hb5 hk5
             have ho4'' := own_kept ho4' hk5 (own_apart ho4' ho5' (by decide))))
        go_roundw
        case rel =>
          refine ⟨k + 1, by omega, by go_num, ?_, ?_, hbr.trans (hb4.trans hb5)⟩
          · rw [HB.out, List.length_append, hnB, List.map_append]
            rw [HU8.out] at ho4''
            exact ho4''
          · rw [HK.out, List.length_append, hnK, List.map_append]
            exact ho5''
        case measure => simp [intOf]; omega
    · have hkn : k = 16 := by omega
      subst hkn
      rw [List.take_of_length_le (by omega)] at ho4 ho5
      obtain ⟨A1, c1, hv4, hc1, hr1⟩ := rd_of_own ho4
      obtain ⟨A2, c2, hv5, hc2, hr2⟩ := rd_of_own ho5
      subst hv4 hv5
      have HO4 := Lib.hid ho4
      have HO5 := Lib.hid ho5
      clear ho4 ho5
      go_wp2
      go_ret2
      exact ⟨hbr, A1, c1, A2, c2, rfl, HO4.out, HO5.out⟩

end Go.Proofs.Ytaamkdejediccaa
