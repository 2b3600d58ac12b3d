/- Walks: slices.Equal and slices.Clone at words, the reference's SameWords, few. -/
import Derived.Test.YtaamkdejediccaaNodeD
namespace Go.Proofs.Ytaamkdejediccaa
open Go.RowKit

set_option maxHeartbeats 400000 in
theorem equalW_any (A B : Option Addr) (n m c d : Nat) (a b : List UInt64) (w : World) (hn : n ≤ 4294967296) (_hm : m ≤ 4294967296) (ha : Ws w A n a) (hb : Ws w B m b) :
    Calls Try.prog 47 #[.slice A n c, .slice B m d] w fun e w' => e = .returned (.bool (decide (a = b))) ∧ Dr w w' := by
  have hla := ha.len
  have hlb := hb.len
  by_cases hnm : n = m
  · subst hnm
    have t1 : ((n : Int) != (n : Int)) = false := by simp
    go_enter Try.func47, Try.ntmps47
    go_wp2
    go_loopw [13] (fun i wr => ∃ k : Nat, k ≤ n ∧ i = .int .i64 k ∧ (∀ j (h1 : j < a.length) (h2 : j < b.length), j < k → a[j] = b[j]) ∧ Dr w wr) (fun i _ => n - (intOf i).toNat)
    case atStart => exact ⟨0, Nat.zero_le _, rfl, fun j _ _ h => absurd h (by omega), Dr.refl _⟩
    case round =>
      obtain ⟨k, hk, rfl, heq, q, rfl⟩ := hrel
      by_cases hlt : k < n
      · obtain ⟨hq, p, off, rfl, hp, hc⟩ := ha.at hlt
        obtain ⟨hq2, p2, off2, rfl, hp2, hc2⟩ := hb.at hlt
        by_cases he : a[k] = b[k]
        · have t2 : (((a[k].toNat : Int)) != (b[k].toNat : Int)) = false := by simp [he]
          have HE : Hid (∀ j (h1 : j < a.length) (h2 : j < b.length), j < k + 1 → a[j] = b[j]) := Lib.hid fun j h1 h2 hj => by
            by_cases e : j = k
            · subst e; exact he
            · exact heq j h1 h2 (by omega)
          clear heq he
          go_wp2
          go_quiet (fail)
          go_wp2
          go_roundw
          case rel => exact ⟨k + 1, by omega, by go_num, HE.out, by first | exact Dr.one _ _ | exact Dr.two _ _ _⟩
          case measure => simp [intOf]; omega
        · have t2 : (((a[k].toNat : Int)) != (b[k].toNat : Int)) = true := by
            rw [bne_iff_ne]; intro e; exact he (UInt64.toNat_inj.1 (by omega))
          have HD : Hid (decide (a = b) = false) := Lib.hid (by rw [decide_eq_false_iff_not]; intro e; subst e; exact he rfl)
          clear heq he
          go_wp2
          go_quiet (fail)
          go_wp2
          go_ret
          exact ⟨by rw [HD.out]; rfl, by first | exact Dr.one _ _ | exact Dr.two _ _ _⟩
      · have hkn : k = n := by omega
        subst hkn
        have HD : Hid (decide (a = b) = true) := Lib.hid (by
          rw [decide_eq_true_iff]
          apply List.ext_getElem (by omega)
          intro j h1 h2
          exact heq j h1 h2 (by omega))
        clear heq
        go_wp2
        go_ret
        exact ⟨by rw [HD.out]; rfl, Dr.one _ _⟩
  · have t1 : ((n : Int) != (m : Int)) = true := by simp; omega
    have HD : Hid (decide (a = b) = false) := Lib.hid (by rw [decide_eq_false_iff_not]; intro e; subst e; omega)
    go_enter Try.func47, Try.ntmps47
    go_wp2
    go_ret
    exact ⟨by rw [HD.out]; rfl, Dr.refl _⟩

set_option maxHeartbeats 400000 in
theorem sameWords_any (A B : Option Addr) (n m c d : Nat) (a b : List UInt64) (w : World) (hn : n ≤ 4294967296) (_hm : m ≤ 4294967296) (ha : Ws w A n a) (hb : Ws w B m b) :
    Calls Try.prog 34 #[.slice A n c, .slice B m d] w fun e w' => e = .returned (.bool (decide (a = b))) ∧ Dr w w' := by
  have hla := ha.len
  have hlb := hb.len
  by_cases hnm : n = m
  · subst hnm
    have t1 : ((n : Int) != (n : Int)) = false := by simp
    go_enter Try.func34, Try.ntmps34
    go_wp2
    go_loopw [5] (fun i wr => ∃ k : Nat, k ≤ n ∧ i = .int .i64 k ∧ (∀ j (h1 : j < a.length) (h2 : j < b.length), j < k → a[j] = b[j]) ∧ Dr w wr) (fun i _ => n - (intOf i).toNat)
    case atStart => exact ⟨0, Nat.zero_le _, rfl, fun j _ _ h => absurd h (by omega), Dr.refl _⟩
    case round =>
      obtain ⟨k, hk, rfl, heq, q, rfl⟩ := hrel
      by_cases hlt : k < n
      · obtain ⟨hq, p, off, rfl, hp, hc⟩ := ha.at hlt
        obtain ⟨hq2, p2, off2, rfl, hp2, hc2⟩ := hb.at hlt
        by_cases he : a[k] = b[k]
        · have t2 : (((a[k].toNat : Int)) != (b[k].toNat : Int)) = false := by simp [he]
          have HE : Hid (∀ j (h1 : j < a.length) (h2 : j < b.length), j < k + 1 → a[j] = b[j]) := Lib.hid fun j h1 h2 hj => by
            by_cases e : j = k
            · subst e; exact he
            · exact heq j h1 h2 (by omega)
          clear heq he
          go_wp2
          go_quiet (fail)
          go_wp2
          go_roundw
          case rel => exact ⟨k + 1, by omega, by go_num, HE.out, by first | exact Dr.one _ _ | exact Dr.two _ _ _⟩
          case measure => simp [intOf]; omega
        · have t2 : (((a[k].toNat : Int)) != (b[k].toNat : Int)) = true := by
            rw [bne_iff_ne]; intro e; exact he (UInt64.toNat_inj.1 (by omega))
          have HD : Hid (decide (a = b) = false) := Lib.hid (by rw [decide_eq_false_iff_not]; intro e; subst e; exact he rfl)
          clear heq he
          go_wp2
          go_quiet (fail)
          go_wp2
          go_ret
          exact ⟨by rw [HD.out]; rfl, by first | exact Dr.one _ _ | exact Dr.two _ _ _⟩
      · have hkn : k = n := by omega
        subst hkn
        have HD : Hid (decide (a = b) = true) := Lib.hid (by
          rw [decide_eq_true_iff]
          apply List.ext_getElem (by omega)
          intro j h1 h2
          exact heq j h1 h2 (by omega))
        clear heq
        go_wp2
        go_ret
        exact ⟨by rw [HD.out]; rfl, Dr.one _ _⟩
  · have t1 : ((n : Int) != (m : Int)) = true := by simp; omega
    have HD : Hid (decide (a = b) = false) := Lib.hid (by rw [decide_eq_false_iff_not]; intro e; subst e; omega)
    go_enter Try.func34, Try.ntmps34
    go_wp2
    go_ret
    exact ⟨by rw [HD.out]; rfl, Dr.refl _⟩

end Go.Proofs.Ytaamkdejediccaa
