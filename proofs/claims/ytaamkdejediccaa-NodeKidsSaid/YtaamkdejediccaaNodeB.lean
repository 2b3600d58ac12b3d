/- Walks of package node and of its reference: slices.Index at words, slices.Contains, Class, Right. -/
import Derived.Test.YtaamkdejediccaaNodeA
namespace Go.Proofs.Ytaamkdejediccaa
open Go.RowKit

set_option maxHeartbeats 400000 in
theorem indexW_any (A : Option Addr) (n c : Nat) (l : List UInt64) (x : UInt64) (w : World) (hn : n ≤ 4294967296) (h : Ws w A n l) :
    Calls Try.prog 61 #[.slice A n c, .int .u64 (x.toNat : Int)] w fun e w' => e = .returned (.int .i64 (placeOf (fun y => y.toNat == x.toNat) l)) ∧ w = w' := by
  have hlen := h.len
  go_enter Try.func61, Try.ntmps61
  go_wp2
  go_loop [8] (fun i => ∃ k : Nat, k ≤ n ∧ i = .int .i64 k ∧ ∀ j (h : j < l.length), j < k → (l[j].toNat == x.toNat) = false) (fun i => n - (intOf i).toNat)
  case atStart => exact ⟨0, Nat.zero_le _, rfl, fun j _ hj => absurd hj (by omega)⟩
  case round =>
    obtain ⟨k, hk, rfl, hno⟩ := hrel
    by_cases hlt : k < n
    · obtain ⟨hl, b, off, rfl, hb, hc⟩ := h.at hlt
      by_cases he : l[k].toNat = x.toNat
      · have t1 : ((x.toNat : Int) == (l[k].toNat : Int)) = true := by simp [he]
        have HP := Lib.hid (placeOf_hit (fun y : UInt64 => y.toNat == x.toNat) l k hl (fun j hj => hno j (by omega) hj) (by simp [he]))
        clear hno he
        go_wp2
        go_ret
        exact ⟨by rw [HP.out]; rfl, rfl⟩
      · have t1 : ((x.toNat : Int) == (l[k].toNat : Int)) = false := by simp; omega
        have HN : Hid (∀ j (h : j < l.length), j < k + 1 → (l[j].toNat == x.toNat) = false) := Lib.hid fun j hj hjk => by
          by_cases e : j = k
          · subst e; simp [he]
          · exact hno j hj (by omega)
        clear hno he
        go_wp2
        go_round
        case rel => exact ⟨k + 1, by omega, by go_num, HN.out⟩
        case measure => simp [intOf]; omega
    · have hkn : k = n := by omega
      subst hkn
      have HP := Lib.hid (placeOf_miss (fun y : UInt64 => y.toNat == x.toNat) l (fun j hj => hno j hj (by omega)))
      clear hno
      go_wp2
      go_ret
      exact ⟨by rw [HP.out]; rfl, rfl⟩

theorem placeOf_pos {α : Type} (p : α → Bool) (l : List α) : (0 ≤ placeOf p l) ↔ l.any p = true := by
  unfold placeOf
  cases h : l.findIdx? p with
  | none =>
    rw [List.findIdx?_eq_none_iff] at h
    constructor
    · intro h0; simp at h0
    · intro ha
      obtain ⟨x, hx, hp⟩ := List.any_eq_true.1 ha
      rw [h x hx] at hp; cases hp
  | some i =>
    rw [List.findIdx?_eq_some_iff_getElem] at h
    obtain ⟨hi, hp, _⟩ := h
    constructor
    · intro _; exact List.any_eq_true.2 ⟨_, List.getElem_mem hi, hp⟩
    · intro _; exact Int.natCast_nonneg i

theorem placeOf_range {α : Type} (p : α → Bool) (l : List α) : -1 ≤ placeOf p l ∧ placeOf p l < max 1 l.length := by
  unfold placeOf
  cases h : l.findIdx? p with
  | none => simp; omega
  | some i =>
    rw [List.findIdx?_eq_some_iff_getElem] at h
    obtain ⟨hi, _⟩ := h
    simp; omega

/-- slices.Contains(l, 0). -/
theorem containsW_any (A : Option Addr) (n c : Nat) (l : List UInt64) (w : World) (hn : n ≤ 4294967296) (h : Ws w A n l) :
    Calls Try.prog 49 #[.slice A n c, .int .u64 0] w fun e w' => e = .returned (.bool (l.any fun y => y.toNat == 0)) ∧ w = w' := by
  have hi : Calls Try.prog 61 #[.slice A n c, .int .u64 0] w fun e w' => e = .returned (.int .i64 (placeOf (fun y => y.toNat == 0) l)) ∧ w = w' := indexW_any A n c l 0 w hn h
  have hp := placeOf_pos (fun y : UInt64 => y.toNat == 0) l
  have hr := placeOf_range (fun y : UInt64 => y.toNat == 0) l
  generalize placeOf (fun y : UInt64 => y.toNat == 0) l = r at *
  cases ha : l.any (fun y => y.toNat == 0) with
  | true =>
    have h0 : 0 ≤ r := hp.2 ha
    clear hp ha
    go_enter Try.func49, Try.ntmps49
    go_wp2_with (go_at_call 61; refine hi.mono ?_; rintro e w' ⟨rfl, rfl⟩)
    go_ret
    exact ⟨rfl, rfl⟩
  | false =>
    have h0 : r < 0 := by
      rcases Int.lt_or_le r 0 with h | h
      · exact h
      · rw [hp.1 h] at ha; cases ha
    clear hp ha
    go_enter Try.func49, Try.ntmps49
    go_wp2_with (go_at_call 61; refine hi.mono ?_; rintro e w' ⟨rfl, rfl⟩)
    go_ret
    exact ⟨by simp; omega, rfl⟩

end Go.Proofs.Ytaamkdejediccaa
