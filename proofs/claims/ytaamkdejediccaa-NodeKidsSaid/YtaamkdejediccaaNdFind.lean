/- Walks of the reference of layer 9: Find. -/
import Derived.Test.YtaamkdejediccaaNodeZ
namespace Go.Proofs.Ytaamkdejediccaa
open Go.RowKit

set_option maxHeartbeats 1000000 in
theorem findR_any (v1 v2 v4 : Value) (A2 : Option Addr) (n2 c2 : Nat) (l : List UInt8) (label : UInt8) (w : World) (b2 : n2 ≤ 1000000) (h2 : Bs w A2 n2 l) :
    Calls Try.prog 42 #[.agg #[v1, v2, .slice A2 n2 c2, v4], .int .u8 (label.toNat : Int)] w fun e w' => e = .returned (.int .i64 (placeOf (fun y => y.toNat == label.toNat) l)) ∧ Below w.heap.size w w' := by
  obtain ⟨W, hW, e0, e1, e2, e3, hb, hs⟩ := box4 w 40 v1 v2 (.slice A2 n2 c2) v4
  replace h2 := h2.below hb
  have hlen := h2.len
  have HW := Lib.hid hW
  clear hW e0 e1 e3
  go_enter Try.func42, Try.ntmps42
  go_wp2
  rw [← HW.out]
  go_loop [5] (fun i => ∃ k : Nat, k ≤ n2 ∧ i = .int .i64 k ∧ ∀ j (h : j < l.length), j < k → (l[j].toNat == label.toNat) = false) (fun i => n2 - (intOf i).toNat)
  case atStart => exact ⟨0, Nat.zero_le _, rfl, fun j _ hj => absurd hj (by omega)⟩
  case round =>
    obtain ⟨k, hk, rfl, hno⟩ := hrel
    have HNO := Lib.hid hno
    clear hno
    by_cases hlt : k < n2
    · obtain ⟨hq, p, off, rfl, hp, hc⟩ := h2.at hlt
      by_cases he : l[k].toNat = label.toNat
      · have t1 : ((l[k].toNat : Int) == (label.toNat : Int)) = true := by simp; omega
        have HP : Hid (placeOf (fun y => y.toNat == label.toNat) l = (k : Int)) := Lib.hid (by
          have : l.findIdx? (fun y => y.toNat == label.toNat) = some k := by
            rw [List.findIdx?_eq_some_iff_getElem]
            exact ⟨hq, by simpa using he, fun j hj => by simpa using HNO.out j (by omega) hj⟩
          rw [placeOf, this])
        clear he
        go_wp2
        go_ret
        exact ⟨by rw [HP.out]; rfl, hb⟩
      · have t1 : ((l[k].toNat : Int) == (label.toNat : Int)) = false := by rw [beq_eq_false_iff_ne]; omega
        have HE : Hid ((l[k].toNat == label.toNat) = false) := Lib.hid (by rw [beq_eq_false_iff_ne]; exact he)
        clear he
        go_wp2
        go_round
        case rel =>
          refine ⟨k + 1, by omega, by go_num, fun j hj hjk => ?_⟩
          rcases Nat.lt_or_ge j k with h | h
          · exact HNO.out j hj h
          · obtain rfl : j = k := by omega
            exact HE.out
        case measure => simp [intOf]; omega
    · have HP : Hid (placeOf (fun y => y.toNat == label.toNat) l = -1) := Lib.hid (by
        have : l.findIdx? (fun y => y.toNat == label.toNat) = none := by
          rw [List.findIdx?_eq_none_iff]
          intro y hy
          obtain ⟨j, hj, rfl⟩ := List.getElem_of_mem hy
          exact HNO.out j hj (by omega)
        rw [placeOf, this])
      go_wp2
      go_ret
      exact ⟨by rw [HP.out]; rfl, hb⟩

theorem findL_none (l : List UInt8) (x : UInt8) (h : hasL l x = false) : findL l x = none := by
  unfold findL
  rw [List.findIdx?_eq_none_iff]
  intro y hy
  obtain ⟨j, hj, rfl⟩ := List.getElem_of_mem hy
  rw [beq_eq_false_iff_ne]
  exact has_false_at l x h j hj
theorem findL_some (l : List UInt8) (x : UInt8) (h : hasL l x = true) : ∃ i, findL l x = some i ∧ i < l.length := by
  unfold hasL at h
  rw [List.any_eq_true] at h
  obtain ⟨y, hy, hp⟩ := h
  cases hf : findL l x with
  | none =>
    unfold findL at hf
    rw [List.findIdx?_eq_none_iff] at hf
    rw [hf y hy] at hp
    cases hp
  | some i =>
    unfold findL at hf
    rw [List.findIdx?_eq_some_iff_getElem] at hf
    exact ⟨i, rfl, hf.1⟩
theorem placeOf_some (l : List UInt8) (x : UInt8) (i : Nat) (h : findL l x = some i) : placeOf (fun y => y.toNat == x.toNat) l = (i : Int) := by
  rw [placeOf, show l.findIdx? _ = some i from h]
theorem placeOf_none (l : List UInt8) (x : UInt8) (h : findL l x = none) : placeOf (fun y => y.toNat == x.toNat) l = -1 := by
  rw [placeOf, show l.findIdx? _ = none from h]

end Go.Proofs.Ytaamkdejediccaa
