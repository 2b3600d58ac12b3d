/- Plain laws of nibbles, more: keys stand as their nibbles do. -/
import Derived.Test.YtaamkdejediccaaNibP2
namespace Go.Proofs.Ytaamkdejediccaa

theorem byte_of_halves {a b : UInt8} (h1 : a / 16 = b / 16) (h2 : a % 16 = b % 16) : a = b := by
  apply UInt8.toNat_inj.1
  have e1 := congrArg UInt8.toNat h1
  have e2 := congrArg UInt8.toNat h2
  simp at e1 e2
  omega

theorem nibs_cons (a : UInt8) (l : List UInt8) : nibs (a :: l) = a / 16 :: a % 16 :: nibs l := rfl
theorem nibs_nil : nibs [] = [] := rfl
theorem nibs_append (a b : List UInt8) : nibs (a ++ b) = nibs a ++ nibs b := by simp [nibs]

/-- Where the nibbles part, the keys do. -/
theorem common_nibs : ∀ (a b : List UInt8), common (nibs a) (nibs b) = 2 * common a b ∨ common (nibs a) (nibs b) = 2 * common a b + 1
  | [], _ => by simp [nibs_nil, common]
  | a :: as, [] => by simp [nibs_cons, nibs_nil, common]
  | a :: as, b :: bs => by
    have ih := common_nibs as bs
    simp only [nibs_cons, common]
    by_cases h1 : a / 16 = b / 16
    · by_cases h2 : a % 16 = b % 16
      · have e := byte_of_halves h1 h2
        subst e
        simp only [if_true]
        omega
      · have e : a ≠ b := fun e => h2 (by rw [e])
        rw [if_pos h1, if_neg h2, if_neg e]; omega
    · have e : a ≠ b := fun e => h1 (by rw [e])
      rw [if_neg h1, if_neg e]; omega

theorem common_self : ∀ (a : List UInt8), common a a = a.length
  | [] => rfl
  | a :: as => by simp [common, common_self as]
theorem common_append : ∀ (a b : List UInt8), common a (a ++ b) = a.length
  | [], _ => by simp [common]
  | a :: as, b => by simp [common, common_append as b]

/-- Keys stand as their nibbles do. -/
theorem less_nibs : ∀ (a b : List UInt8), decide (Lib.compareBytes (nibs a) (nibs b) < 0) = Op.bytesLess a b
  | [], [] => rfl
  | [], b :: bs => by simp [nibs_cons, nibs_nil, Lib.compareBytes, Op.bytesLess]
  | a :: as, [] => by simp [nibs_cons, nibs_nil, Lib.compareBytes, Op.bytesLess]
  | a :: as, b :: bs => by
    have ih := less_nibs as bs
    simp only [nibs_cons, Lib.compareBytes, Op.bytesLess]
    simp only [UInt8.lt_iff_toNat_lt, UInt8.toNat_div, UInt8.toNat_mod, UInt8.reduceToNat]
    have ha := a.toNat_lt
    have hb := b.toNat_lt
    by_cases h1 : a.toNat / 16 < b.toNat / 16
    · rw [if_pos h1]
      have : a.toNat < b.toNat := by omega
      simp [this]
    · rw [if_neg h1]
      by_cases h2 : b.toNat / 16 < a.toNat / 16
      · rw [if_pos h2]
        have h3 : ¬ a.toNat < b.toNat := by omega
        have h4 : a ≠ b := fun e => by subst e; omega
        simp [h3, h4]
      · rw [if_neg h2]
        by_cases h3 : a.toNat % 16 < b.toNat % 16
        · rw [if_pos h3]
          have : a.toNat < b.toNat := by omega
          simp [this]
        · rw [if_neg h3]
          by_cases h4 : b.toNat % 16 < a.toNat % 16
          · rw [if_pos h4]
            have h5 : ¬ a.toNat < b.toNat := by omega
            have h6 : a ≠ b := fun e => by subst e; omega
            simp [h5, h6]
          · rw [if_neg h4, ih]
            have e : a = b := by apply UInt8.toNat_inj.1; omega
            subst e
            simp

theorem common_take : ∀ (a b : List UInt8), a.take (common a b) = b.take (common a b)
  | [], _ => by simp [common]
  | _ :: _, [] => by simp [common]
  | a :: as, b :: bs => by
    simp only [common]
    by_cases h : a = b
    · rw [if_pos h, List.take_succ_cons, List.take_succ_cons, h, common_take as bs]
    · rw [if_neg h]; rfl

theorem common_stop : ∀ (a b : List UInt8) (h1 : common a b < a.length) (h2 : common a b < b.length), a[common a b] ≠ b[common a b]
  | [], _, h1, _ => by simp at h1
  | _ :: _, [], _, h2 => by simp at h2
  | a :: as, b :: bs, h1, h2 => by
    by_cases h : a = b
    · have e : common (a :: as) (b :: bs) = common as bs + 1 := by simp [common, h]
      have h1' : common as bs < as.length := by simp [e] at h1; exact h1
      have h2' : common as bs < bs.length := by simp [e] at h2; exact h2
      have ih := common_stop as bs h1' h2'
      simp only [e, List.getElem_cons_succ]
      exact ih
    · have e : common (a :: as) (b :: bs) = 0 := by simp [common, h]
      simp only [e, List.getElem_cons_zero]
      exact h

theorem common_stop' (a b : List UInt8) : ∀ (h1 : common a b < a.length) (h2 : common a b < b.length), a[common a b] ≠ b[common a b] := common_stop a b

end Go.Proofs.Ytaamkdejediccaa
