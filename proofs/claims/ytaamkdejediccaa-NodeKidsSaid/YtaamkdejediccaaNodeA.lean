/- Walks of package node and of its reference: Words, Class, Right; slices.Index, slices.Contains. -/
import Derived.Test.YtaamkdejediccaaNibH
import Derived.Test.YtaamkdejediccaaNodeP
namespace Go.Proofs.Ytaamkdejediccaa
open Go.RowKit

/-- Four cells in a new block: what a struct of four fields lies in. -/
theorem box4 (w : World) (t : TypeId) (a b c d : Value) : ∃ W, W = w.alloc (.cells #[a, b, c, d] t) ∧ W.cell? ⟨w.heap.size, 0, none⟩ = some a ∧ W.cell? ⟨w.heap.size, 1, none⟩ = some b ∧ W.cell? ⟨w.heap.size, 2, none⟩ = some c ∧
    W.cell? ⟨w.heap.size, 3, none⟩ = some d ∧ Below w.heap.size w W ∧ W.heap.size = w.heap.size + 1 := by
  refine ⟨_, rfl, ?_, ?_, ?_, ?_, (Below.refl _ _).alloc (Nat.le_refl _) _, by simp⟩ <;>
  · rw [cell_of_row _ w.heap.size _ _ t (0, 0) (heap_alloc_new w _)]; rfl

theorem lines_any (c : Int) (w : World) : Calls Try.prog 48 #[.int .i64 c] w fun e w' => e = .returned (.int .i64 (if c = 1 then 1 else if c = 2 then 4 else 0)) ∧ w = w' := by
  by_cases h1 : c = 1
  · subst h1
    go_enter Try.func48, Try.ntmps48
    go_wp2
    go_ret
    exact ⟨rfl, rfl⟩
  · by_cases h2 : c = 2
    · subst h2
      go_enter Try.func48, Try.ntmps48
      go_wp2
      go_ret
      exact ⟨rfl, rfl⟩
    · have t1 : (c == 1) = false := by simp [h1]
      have t2 : (c == 2) = false := by simp [h2]
      rw [if_neg h1, if_neg h2]
      go_enter Try.func48, Try.ntmps48
      go_wp2
      go_ret
      exact ⟨rfl, rfl⟩

def wordsN (c : Int) : Int := if c = 1 then 8 else if c = 2 then 32 else 0

theorem words_any (c : Int) (w : World) : Calls Try.prog 32 #[.int .i64 c] w fun e w' => e = .returned (.int .i64 (wordsN c)) ∧ w = w' := by
  have hl := lines_any c w
  have hv : (8 * (if c = 1 then 1 else if c = 2 then 4 else 0) : Int) = wordsN c := by unfold wordsN; split <;> (try split) <;> rfl
  have hb : (0 : Int) ≤ (if c = 1 then 1 else if c = 2 then 4 else 0) ∧ (if c = 1 then 1 else if c = 2 then 4 else 0 : Int) ≤ 4 := by split <;> (try split) <;> decide
  generalize (if c = 1 then 1 else if c = 2 then 4 else 0 : Int) = r at *
  obtain ⟨hb1, hb2⟩ := hb
  have HV := Lib.hid hv
  clear hv
  go_enter Try.func32, Try.ntmps32
  go_wp2_with (go_at_call 48; refine hl.mono ?_; rintro e w' ⟨rfl, rfl⟩)
  go_ret
  exact ⟨by rw [← HV.out]; rfl, rfl⟩

set_option maxHeartbeats 400000 in
theorem indexB_any (A : Option Addr) (n c : Nat) (l : List UInt8) (x : UInt8) (w : World) (hn : n ≤ 4294967296) (h : Bs w A n l) :
    Calls Try.prog 50 #[.slice A n c, .int .u8 (x.toNat : Int)] w fun e w' => e = .returned (.int .i64 (placeOf (fun y => y.toNat == x.toNat) l)) ∧ w = w' := by
  have hlen := h.len
  go_enter Try.func50, Try.ntmps50
  go_wp2
  go_loop [8] (fun i => ∃ k : Nat, k ≤ n ∧ i = .int .i64 k ∧ ∀ j (h : j < l.length), j < k → (l[j].toNat == x.toNat) = false) (fun i => n - (intOf i).toNat)
  case atStart => exact ⟨0, Nat.zero_le _, rfl, fun j _ hj => absurd hj (by omega)⟩
  case round =>
    obtain ⟨k, hk, rfl, hno⟩ := hrel
    by_cases hlt : k < n
    · obtain ⟨hl, b, off, rfl, hb, hc⟩ := h.at hlt
      by_cases he : l[k].toNat = x.toNat
      · have t1 : ((x.toNat : Int) == (l[k].toNat : Int)) = true := by simp [he]
        have HP := Lib.hid (placeOf_hit (fun y : UInt8 => y.toNat == x.toNat) l k hl (fun j hj => hno j (by omega) hj) (by simp [he]))
        clear hno he
        go_wp2
        go_ret
        exact ⟨by rw [HP.out]; rfl, rfl⟩
      · have t1 : ((x.toNat : Int) == (l[k].toNat : Int)) = false := by simp; omega
        have HN : Hid (∀ j (h : j < l.length), j < k + 1 → (l[j].toNat == x.toNat) = false) := Lib.hid fun j hj hjk => by
          by_cases e : j = k
          · subst e; simp [he]
          · exact hno j hj (by omega)
        clear hno he
        go_wp2
        go_round
        case rel => exact ⟨k + 1, by omega, by go_num, HN.out⟩
        case measure => simp [intOf]; omega
    · have hkn : k = n := by omega
      subst hkn
      have HP := Lib.hid (placeOf_miss (fun y : UInt8 => y.toNat == x.toNat) l (fun j hj => hno j hj (by omega)))
      clear hno
      go_wp2
      go_ret
      exact ⟨by rw [HP.out]; rfl, rfl⟩

end Go.Proofs.Ytaamkdejediccaa
