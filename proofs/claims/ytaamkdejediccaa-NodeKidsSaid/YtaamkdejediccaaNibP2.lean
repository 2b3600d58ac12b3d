/- Plain laws of nibbles, more: bounds of packed numbers. -/
import Derived.Test.YtaamkdejediccaaNibP
namespace Go.Proofs.Ytaamkdejediccaa

theorem packN_le (l : List UInt8) (k : Nat) (hk : l.length ≤ k) (h : l.all isNib = true) : packN l < 16 ^ k :=
  Nat.lt_of_lt_of_le (packN_lt l h) (Nat.pow_le_pow_right (by decide) hk)

theorem nat_pow_16_15 : (16 : Nat) ^ 15 = 1152921504606846976 := by decide
theorem nat_pow_16_14 : (16 : Nat) ^ 14 = 72057594037927936 := by decide

/-- The digits ahead of place k are all nibbles; the one at k is none. -/
theorem drop_all_succ (l : List UInt8) (k : Nat) (hk : k < l.length) (h : (l.drop (k + 1)).all isNib = true) (hd : l[k].toNat < 16) : (l.drop k).all isNib = true := by
  rw [List.drop_eq_getElem_cons hk, List.all_cons, h]; simp [isNib, hd]

theorem unpack_test (x : Nat) : ((x % 16 + 16 * packN (digits (x % 16) (x / 16)) : Nat) = x) ↔ x / 16 / 16 ^ (x % 16) = 0 := by
  rw [packN_digits]
  have hd := Nat.div_add_mod (x / 16) (16 ^ (x % 16))
  have hp : 0 < 16 ^ (x % 16) := Nat.pow_pos (by decide)
  constructor
  · intro h
    have : x / 16 % 16 ^ (x % 16) = x / 16 := by omega
    rw [Nat.div_eq_zero_iff]
    right
    have := Nat.mod_lt (x / 16) hp
    omega
  · intro h
    rw [h] at hd
    omega

theorem keyOk_nibs (l : List UInt8) : keyOk (nibs l) = true := by
  simp only [keyOk, nibs_length, nibs_nib, Bool.and_true, decide_eq_true_eq]; omega

theorem str_eta (s : ByteArray) : (⟨s.data.toList.toArray⟩ : ByteArray) = s := by apply ByteArray.ext; simp

/-- A packed number gives back its nibbles. -/
theorem unpack_pack (l : List UInt8) (h15 : l.length ≤ 15) (h : l.all isNib = true) :
    (l.length + 16 * packN l) % 16 = l.length ∧ (l.length + 16 * packN l) / 16 = packN l ∧ packN l / 16 ^ l.length = 0 ∧ digits l.length (packN l) = l ∧ l.length + 16 * packN l < 18446744073709551616 := by
  have h1 := packN_lt l h
  have h2 := packN_le l 15 h15 h
  rw [nat_pow_16_15] at h2
  exact ⟨by omega, by omega, Nat.div_eq_of_lt h1, digits_packN l h, by omega⟩

end Go.Proofs.Ytaamkdejediccaa
