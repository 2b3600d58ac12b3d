/- Plain laws of nibbles: lists of bytes and numbers alone, no program in sight. -/
import Derived.Test.YtaamkdejediccaaBase
import Derived.Laws.BitsAllLaws
namespace Go.Proofs.Ytaamkdejediccaa

def isNib (b : UInt8) : Bool := b.toNat < 16

theorem all_take_succ {α : Type} (p : α → Bool) (l : List α) (k : Nat) (h : k < l.length) (ha : (l.take k).all p = true) (hp : p l[k] = true) : (l.take (k + 1)).all p = true := by
  rw [List.take_succ_eq_append_getElem h, List.all_append, ha]; simp [hp]

theorem all_false_of_get {α : Type} (p : α → Bool) (l : List α) (k : Nat) (h : k < l.length) (hp : p l[k] = false) : l.all p = false := by
  rw [List.all_eq_false]; exact ⟨l[k], List.getElem_mem h, by simp [hp]⟩

theorem isNib_yes {b : UInt8} (h : b.toNat < 16) : isNib b = true := by simp [isNib, h]
theorem isNib_no {b : UInt8} (h : ¬ b.toNat < 16) : isNib b = false := by simp [isNib]; omega

/-- The nibbles of bytes. -/
def nibs (l : List UInt8) : List UInt8 := l.flatMap fun b => [b / 16, b % 16]

theorem nibs_take_succ (l : List UInt8) (k : Nat) (h : k < l.length) : nibs (l.take (k + 1)) = nibs (l.take k) ++ [l[k] / 16, l[k] % 16] := by
  rw [List.take_succ_eq_append_getElem h]; simp only [nibs, List.flatMap_append, List.flatMap_cons, List.flatMap_nil, List.append_nil]

theorem nibs_take_succ_str (s : ByteArray) (k : Nat) (h : k < s.size) : nibs (s.data.toList.take (k + 1)) = nibs (s.data.toList.take k) ++ [s[k] / 16, s[k] % 16] := by
  have hl : k < s.data.toList.length := by simpa using h
  rw [nibs_take_succ _ k hl]; rfl

theorem nibs_length (l : List UInt8) : (nibs l).length = 2 * l.length := by
  induction l with
  | nil => rfl
  | cons a l ih => simp [nibs] at ih ⊢; omega

theorem bv_div (b : UInt8) : Value.int .u8 ((b.toNat : Int) / 16) = bv (b / 16) := by simp [bv]
theorem bv_mod (b : UInt8) : Value.int .u8 ((b.toNat : Int) % 16) = bv (b % 16) := by simp [bv]
theorem bv_div' (b : UInt8) : Value.int .u8 (IntKind.u8.wrap ((b.toNat : Int) / 16)) = bv (b / 16) := by
  have := b.toNat_lt
  rw [← bv_div, IntWalk.u8_in _ (by omega)]
theorem bv_mod' (b : UInt8) : Value.int .u8 ((b.toNat : Int).tmod 16) = bv (b % 16) := by
  rw [← bv_mod, Int.tmod_eq_emod_of_nonneg (by omega)]

/-- With how many two lists begin alike. -/
def common : List UInt8 → List UInt8 → Nat
  | a :: as, b :: bs => if a = b then common as bs + 1 else 0
  | _, _ => 0

theorem common_le_left : ∀ (a b : List UInt8), common a b ≤ a.length
  | [], _ => by simp [common]
  | a :: as, [] => by simp [common]
  | a :: as, b :: bs => by
    simp only [common]; have := common_le_left as bs; split <;> simp; omega
theorem common_comm : ∀ (a b : List UInt8), common a b = common b a
  | [], [] => rfl
  | [], _ :: _ => by simp [common]
  | _ :: _, [] => by simp [common]
  | a :: as, b :: bs => by
    simp only [common]; rw [common_comm as bs]; by_cases h : a = b
    · subst h; simp
    · simp [h, Ne.symm h]
theorem common_le_right (a b : List UInt8) : common a b ≤ b.length := by rw [common_comm]; exact common_le_left b a

/-- The first k of both are the same. -/
def alike (k : Nat) (a b : List UInt8) : Prop := k ≤ a.length ∧ k ≤ b.length ∧ a.take k = b.take k

theorem alike_zero (a b : List UInt8) : alike 0 a b := ⟨Nat.zero_le _, Nat.zero_le _, by simp⟩

theorem common_of_alike : ∀ (k : Nat) (a b : List UInt8), alike k a b → common a b = k + common (a.drop k) (b.drop k)
  | 0, a, b, _ => by simp
  | k + 1, [], b, h => by have := h.1; simp at this
  | k + 1, a :: as, [], h => by have := h.2.1; simp at this
  | k + 1, a :: as, b :: bs, h => by
    obtain ⟨h1, h2, h3⟩ := h
    simp only [List.take_succ_cons, List.cons.injEq] at h3
    obtain ⟨rfl, h3⟩ := h3
    have := common_of_alike k as bs ⟨by simpa using h1, by simpa using h2, h3⟩
    simp [common, this]; omega

theorem alike_succ {k : Nat} {a b : List UInt8} (h : alike k a b) (ha : k < a.length) (hb : k < b.length) (e : a[k] = b[k]) : alike (k + 1) a b :=
  ⟨ha, hb, by rw [List.take_succ_eq_append_getElem ha, List.take_succ_eq_append_getElem hb, h.2.2, e]⟩

theorem common_eq_of_ne {k : Nat} {a b : List UInt8} (h : alike k a b) (ha : k < a.length) (hb : k < b.length) (e : a[k] ≠ b[k]) : common a b = k := by
  rw [common_of_alike k a b h, List.drop_eq_getElem_cons ha, List.drop_eq_getElem_cons hb]
  simp [common, e]
theorem common_eq_of_left {k : Nat} {a b : List UInt8} (h : alike k a b) (ha : a.length = k) : common a b = k := by
  rw [common_of_alike k a b h, List.drop_of_length_le (by omega)]; simp [common]
theorem common_eq_of_right {k : Nat} {a b : List UInt8} (h : alike k a b) (hb : b.length = k) : common a b = k := by
  rw [common_comm]; exact common_eq_of_left ⟨h.2.1, h.1, h.2.2.symm⟩ hb

theorem u8_beq_true {a b : UInt8} (h : a = b) : (((a.toNat : Int)) == (b.toNat : Int)) = true := by simp [h]
theorem u8_beq_false {a b : UInt8} (h : a ≠ b) : (((a.toNat : Int)) == (b.toNat : Int)) = false := by
  rw [beq_eq_false_iff_ne]; intro e; exact h (UInt8.toNat_inj.1 (by omega))

/-- The number whose digits of four bits are the list, the first one lowest. -/
def packN : List UInt8 → Nat
  | [] => 0
  | d :: l => d.toNat + 16 * packN l

theorem packN_lt : ∀ (l : List UInt8), l.all isNib = true → packN l < 16 ^ l.length
  | [], _ => by simp [packN]
  | d :: l, h => by
    simp only [List.all_cons, Bool.and_eq_true] at h
    have := packN_lt l h.2
    have hd : d.toNat < 16 := by simpa [isNib] using h.1
    simp only [packN, List.length_cons, Nat.pow_succ]; omega

theorem packN_append : ∀ (l m : List UInt8), packN (l ++ m) = packN l + 16 ^ l.length * packN m
  | [], m => by simp [packN]
  | d :: l, m => by
    simp only [List.cons_append, packN, packN_append l m, List.length_cons, Nat.pow_succ]
    have : 16 * (16 ^ l.length * packN m) = 16 ^ l.length * 16 * packN m := by rw [← Nat.mul_assoc, Nat.mul_comm 16]
    omega

theorem packN_take_succ (l : List UInt8) (k : Nat) (h : k < l.length) : packN (l.take (k + 1)) = packN (l.take k) + 16 ^ k * l[k].toNat := by
  rw [List.take_succ_eq_append_getElem h, packN_append]
  simp [packN, Nat.min_eq_left (Nat.le_of_lt h)]

theorem packN_drop (l : List UInt8) (k : Nat) (h : k < l.length) : packN (l.drop k) = l[k].toNat + 16 * packN (l.drop (k + 1)) := by
  rw [List.drop_eq_getElem_cons h, packN]

theorem pow16 (k : Nat) : 16 ^ (k + 1) = 2 ^ (4 + 4 * k) := by
  rw [show (16 : Nat) = 2 ^ 4 from rfl, ← Nat.pow_mul]; congr 1; omega

theorem all_take (p : UInt8 → Bool) (l : List UInt8) (k : Nat) (h : l.all p = true) : (l.take k).all p = true := by
  rw [List.all_eq_true] at h ⊢; exact fun x hx => h x (List.mem_of_mem_take hx)
theorem all_drop (p : UInt8 → Bool) (l : List UInt8) (k : Nat) (h : l.all p = true) : (l.drop k).all p = true := by
  rw [List.all_eq_true] at h ⊢; exact fun x hx => h x (List.mem_of_mem_drop hx)
theorem nib_get {l : List UInt8} {k : Nat} (h : l.all isNib = true) (hk : k < l.length) : l[k].toNat < 16 := by
  rw [List.all_eq_true] at h; simpa [isNib] using h l[k] (List.getElem_mem hk)

theorem pack_step (l : List UInt8) (n k : Nat) (hn : n ≤ 15) (hk : k < n) (hl : k < l.length) (hnib : l.all isNib = true) :
    Value.int IntKind.u64 (bits BinOp.or IntKind.u64 ((n : Int) + 16 * (packN (l.take k) : Int)) (IntKind.u64.wrap (IntKind.u64.wrap (l[k].toNat : Int) * 2 ^ (4 + 4 * k)))) =
      Value.int IntKind.u64 ((n + 16 * packN (l.take (k + 1)) : Nat) : Int) := by
  have hd := nib_get hnib hl
  have hp := packN_lt (l.take k) (all_take _ _ _ hnib)
  rw [List.length_take, Nat.min_eq_left (by omega)] at hp
  have hpow : 16 ^ (k + 1) ≤ 16 ^ 15 := Nat.pow_le_pow_right (by decide) (by omega)
  have hs : 16 ^ (k + 1) = 16 * 16 ^ k := by rw [Nat.pow_succ, Nat.mul_comm]
  have hX : n + 16 * packN (l.take k) < 16 ^ (k + 1) := by omega
  have hdm : l[k].toNat * 16 ^ (k + 1) ≤ 15 * 16 ^ (k + 1) := Nat.mul_le_mul_right _ (by omega)
  have h15 : (16 : Nat) ^ 15 = 1152921504606846976 := by decide
  congr 1
  have e1 : IntKind.u64.wrap (l[k].toNat : Int) = (l[k].toNat : Int) := IntWalk.u64_in _ (by omega)
  have e2 : (l[k].toNat : Int) * 2 ^ (4 + 4 * k) = ((l[k].toNat * 16 ^ (k + 1) : Nat) : Int) := by rw [pow16]; simp
  rw [e1, e2, IntWalk.u64_in _ (by omega)]
  have e3 : (n : Int) + 16 * (packN (l.take k) : Int) = ((n + 16 * packN (l.take k) : Nat) : Int) := by simp
  rw [e3, u64_or_nat _ _ (by omega) (by omega)]
  congr 1
  rw [packN_take_succ l k hl]
  rw [pow16] at hX hs ⊢
  have hor := Nat.two_pow_add_eq_or_of_lt hX l[k].toNat
  rw [Nat.or_comm, Nat.mul_comm, ← hor, hs]
  have : 16 * 16 ^ k * l[k].toNat = 16 * (16 ^ k * l[k].toNat) := Nat.mul_assoc _ _ _
  omega

/-- k digits of four bits of a number, the lowest one first. -/
def digits : Nat → Nat → List UInt8
  | 0, _ => []
  | k + 1, n => UInt8.ofNat (n % 16) :: digits k (n / 16)

theorem digits_length : ∀ (k n : Nat), (digits k n).length = k
  | 0, _ => rfl
  | k + 1, n => by simp [digits, digits_length k]

theorem digits_succ : ∀ (k n : Nat), digits (k + 1) n = digits k n ++ [UInt8.ofNat (n / 16 ^ k % 16)]
  | 0, n => by simp [digits]
  | k + 1, n => by
    rw [digits, digits_succ k (n / 16), digits, List.cons_append, Nat.div_div_eq_div_mul, Nat.pow_succ, Nat.mul_comm 16]

theorem digits_nib : ∀ (k n : Nat), (digits k n).all isNib = true
  | 0, _ => rfl
  | k + 1, n => by
    rw [digits, List.all_cons, digits_nib k]
    simp [isNib]; omega

theorem packN_digits : ∀ (k n : Nat), packN (digits k n) = n % 16 ^ k
  | 0, n => by simp [digits, packN, Nat.mod_one]
  | k + 1, n => by
    rw [digits, packN, packN_digits k (n / 16), Nat.pow_succ, Nat.mul_comm (16 ^ k), Nat.mod_mul]
    congr 1
    simp; omega

theorem digits_packN : ∀ (l : List UInt8), l.all isNib = true → digits l.length (packN l) = l
  | [], _ => rfl
  | d :: l, h => by
    simp only [List.all_cons, Bool.and_eq_true] at h
    have hd : d.toNat < 16 := by simpa [isNib] using h.1
    rw [List.length_cons, packN, digits, show (d.toNat + 16 * packN l) / 16 = packN l by omega, digits_packN l h.2, show (d.toNat + 16 * packN l) % 16 = d.toNat by omega]
    simp

theorem bv_of16 (n : Nat) : Value.int .u8 ((n : Int) % 16) = bv (UInt8.ofNat (n % 16)) := by
  simp only [bv, UInt8.toNat_ofNat']
  rw [Nat.mod_eq_of_lt (show n % 16 < 2 ^ 8 by omega)]; simp

/-- A row of k digits and zeroes behind them; the next digit is stored. -/
theorem digits_store (k n : Nat) (y : Nat) (hk : k < n) :
    (((digits k y ++ List.replicate (n - k) (0 : UInt8)).map bv).set k (bv (UInt8.ofNat (y / 16 ^ k % 16)))) = (digits (k + 1) y ++ List.replicate (n - (k + 1)) (0 : UInt8)).map bv := by
  rw [digits_succ, ← List.map_set, List.set_append_right _ _ (by rw [digits_length]; omega), digits_length]
  obtain ⟨r, hr⟩ : ∃ r, n - k = r + 1 := ⟨n - k - 1, by omega⟩
  rw [hr, show n - (k + 1) = r by omega, List.replicate_succ]
  simp

/-- Bytes of pairs of nibbles; the reference's: of whatever pairs. -/
def pairs : List UInt8 → List UInt8
  | a :: b :: l => (a * 16 + b) :: pairs l
  | _ => []
def pairsR : List UInt8 → List UInt8
  | a :: b :: l => (a * 16 + b % 16) :: pairsR l
  | _ => []

theorem pairs_length : ∀ (l : List UInt8), (pairs l).length = l.length / 2
  | [] => rfl
  | [_] => by simp [pairs]
  | a :: b :: l => by simp [pairs, pairs_length l]; omega
theorem pairsR_length : ∀ (l : List UInt8), (pairsR l).length = l.length / 2
  | [] => rfl
  | [_] => by simp [pairsR]
  | a :: b :: l => by simp [pairsR, pairsR_length l]; omega

theorem pairs_take' : ∀ (i : Nat) (l : List UInt8) (_ : i % 2 = 0) (h : i + 1 < l.length), pairs (l.take (i + 2)) = pairs (l.take i) ++ [l[i] * 16 + l[i + 1]]
  | 0, a :: b :: l, _, _ => by simp [pairs]
  | 1, _, hi, _ => by simp at hi
  | i + 2, a :: b :: l, hi, h => by
    have := pairs_take' i l (by omega) (by simp at h; omega)
    simp only [List.take_succ_cons, pairs, List.cons_append, List.getElem_cons_succ]
    rw [this]
  | 0, [], _, h => by simp at h
  | 0, [_], _, h => by simp at h
  | i + 2, [], _, h => by simp at h
  | i + 2, [_], _, h => by simp at h
theorem pairs_take (k : Nat) (l : List UInt8) (h : 2 * k + 1 < l.length) : pairs (l.take (2 * (k + 1))) = pairs (l.take (2 * k)) ++ [l[2 * k] * 16 + l[2 * k + 1]] :=
  pairs_take' (2 * k) l (by omega) h

theorem pairsR_take' : ∀ (i : Nat) (l : List UInt8) (_ : i % 2 = 0) (h : i + 1 < l.length), pairsR (l.take (i + 2)) = pairsR (l.take i) ++ [l[i] * 16 + l[i + 1] % 16]
  | 0, a :: b :: l, _, _ => by simp [pairsR]
  | 1, _, hi, _ => by simp at hi
  | i + 2, a :: b :: l, hi, h => by
    have := pairsR_take' i l (by omega) (by simp at h; omega)
    simp only [List.take_succ_cons, pairsR, List.cons_append, List.getElem_cons_succ]
    rw [this]
  | 0, [], _, h => by simp at h
  | 0, [_], _, h => by simp at h
  | i + 2, [], _, h => by simp at h
  | i + 2, [_], _, h => by simp at h
theorem pairsR_take (k : Nat) (l : List UInt8) (h : 2 * k + 1 < l.length) : pairsR (l.take (2 * (k + 1))) = pairsR (l.take (2 * k)) ++ [l[2 * k] * 16 + l[2 * k + 1] % 16] :=
  pairsR_take' (2 * k) l (by omega) h

theorem pairs_take_all (l : List UInt8) : pairs (l.take (2 * (l.length / 2))) = pairs l := by
  have aux : ∀ (l : List UInt8), pairs (l.take (2 * (l.length / 2))) = pairs l := by
    intro l
    induction l using pairs.induct with
    | case1 a b l ih =>
      rw [show 2 * ((a :: b :: l).length / 2) = 2 * (l.length / 2) + 1 + 1 by simp; omega]
      simp [pairs, ih]
    | case2 l h =>
      rcases l with _ | ⟨a, _ | ⟨b, l⟩⟩
      · rfl
      · simp [pairs]
      · exact absurd rfl (h a b l)
  exact aux l
theorem pairsR_take_all (l : List UInt8) : pairsR (l.take (2 * (l.length / 2))) = pairsR l := by
  induction l using pairs.induct with
  | case1 a b l ih =>
    rw [show 2 * ((a :: b :: l).length / 2) = 2 * (l.length / 2) + 1 + 1 by simp; omega]
    simp [pairsR, ih]
  | case2 l h =>
    rcases l with _ | ⟨a, _ | ⟨b, l⟩⟩
    · rfl
    · simp [pairsR]
    · exact absurd rfl (h a b l)

theorem nib_pair (a b : UInt8) (ha : a.toNat < 16) (hb : b.toNat < 16) : (a * 16 + b) / 16 = a ∧ (a * 16 + b) % 16 = b := by
  have h1 : (a * 16 + b).toNat = a.toNat * 16 + b.toNat := by simp [UInt8.toNat_add, UInt8.toNat_mul]; omega
  constructor
  · apply UInt8.toNat_inj.1; rw [UInt8.toNat_div, h1]; simp; omega
  · apply UInt8.toNat_inj.1; rw [UInt8.toNat_mod, h1]; simp; omega

theorem nibs_pairs : ∀ (l : List UInt8), l.length % 2 = 0 → l.all isNib = true → nibs (pairs l) = l
  | [], _, _ => rfl
  | [_], h, _ => by simp at h
  | a :: b :: l, h, hn => by
    simp only [List.all_cons, Bool.and_eq_true] at hn
    have ha : a.toNat < 16 := by simpa [isNib] using hn.1
    have hb : b.toNat < 16 := by simpa [isNib] using hn.2.1
    have := nibs_pairs l (by simp at h; omega) hn.2.2
    simp only [nibs] at this ⊢
    simp [pairs, this, nib_pair a b ha hb]

theorem pairsR_eq : ∀ (l : List UInt8), l.all isNib = true → pairsR l = pairs l
  | [], _ => rfl
  | [_], _ => rfl
  | a :: b :: l, hn => by
    simp only [List.all_cons, Bool.and_eq_true] at hn
    have hb : b.toNat < 16 := by simpa [isNib] using hn.2.1
    have e : b % 16 = b := by apply UInt8.toNat_inj.1; rw [UInt8.toNat_mod]; simp; omega
    simp [pairs, pairsR, pairsR_eq l hn.2.2, e]

theorem nibs_nib (l : List UInt8) : (nibs l).all isNib = true := by
  rw [List.all_eq_true]
  intro x hx
  obtain ⟨b, _, hx⟩ := List.mem_flatMap.1 hx
  have := b.toNat_lt
  simp only [List.mem_cons, List.not_mem_nil, or_false] at hx
  rcases hx with rfl | rfl <;> simp [isNib] <;> omega

theorem pairs_nibs : ∀ (l : List UInt8), pairs (nibs l) = l
  | [] => rfl
  | a :: l => by
    have := pairs_nibs l
    simp only [nibs] at this
    simp only [nibs, List.flatMap_cons, List.cons_append, List.nil_append, pairs, this]
    congr 1
    apply UInt8.toNat_inj.1
    have := a.toNat_lt
    simp [UInt8.toNat_add, UInt8.toNat_mul]; omega

/-- The key of nibbles, if there is one. -/
def keyOk (l : List UInt8) : Bool := decide (l.length % 2 = 0) && l.all isNib

theorem keyR_ok (l : List UInt8) : (nibs (pairsR l) == l) = keyOk l := by
  rw [Bool.eq_iff_iff]
  simp only [beq_iff_eq, keyOk, Bool.and_eq_true, decide_eq_true_eq]
  constructor
  · intro h
    rw [← h]
    exact ⟨by rw [nibs_length]; omega, nibs_nib _⟩
  · rintro ⟨h1, h2⟩
    rw [pairsR_eq l h2, nibs_pairs l h1 h2]

theorem pairs_store (l : List UInt8) (k h : Nat) (hk : k < h) (hl : 2 * k + 1 < l.length) (hh : h = l.length / 2) :
    (((pairs (l.take (2 * k)) ++ List.replicate (h - k) (0 : UInt8)).map bv).set k (bv (l[2 * k] * 16 + l[2 * k + 1]))) = (pairs (l.take (2 * (k + 1))) ++ List.replicate (h - (k + 1)) (0 : UInt8)).map bv := by
  have hlen : (pairs (l.take (2 * k))).length = k := by rw [pairs_length, List.length_take]; omega
  rw [pairs_take k l hl, ← List.map_set, List.set_append_right _ _ (by omega), hlen]
  obtain ⟨r, hr⟩ : ∃ r, h - k = r + 1 := ⟨h - k - 1, by omega⟩
  rw [hr, show h - (k + 1) = r by omega, List.replicate_succ]
  simp

theorem bv_pair (a b : UInt8) : Value.int .u8 (((a.toNat : Int) * 16 + (b.toNat : Int)) % 256) = bv (a * 16 + b) := by
  simp only [bv, UInt8.toNat_add, UInt8.toNat_mul]
  congr 1
  have h1 := a.toNat_lt
  have h2 := b.toNat_lt
  simp

/-- The reference's order of lists. -/
theorem less_common : ∀ (a b : List UInt8), decide (Lib.compareBytes a b < 0) =
    (if common a b = b.length then false else if h : common a b < a.length ∧ common a b < b.length then decide (a[common a b] < b[common a b]) else true)
  | [], [] => by simp [Lib.compareBytes, common]
  | [], b :: bs => by simp [Lib.compareBytes, common]
  | a :: as, [] => by simp [Lib.compareBytes, common]
  | a :: as, b :: bs => by
    have ih := less_common as bs
    by_cases h : a = b
    · subst h
      have hirr : ¬ a < a := UInt8.lt_irrefl a
      simp only [Lib.compareBytes, if_neg hirr, ih, common, if_true, List.length_cons, Nat.add_right_cancel_iff, Nat.add_lt_add_iff_right, List.getElem_cons_succ]
    · simp only [Lib.compareBytes, common, if_neg h, List.length_cons, List.getElem_cons_zero]
      by_cases hlt : a < b
      · simp [hlt]
      · have : b < a := UInt8.lt_of_le_of_ne (UInt8.not_lt.1 hlt) (Ne.symm h)
        simp [hlt, this]

def lessAt (a b : List UInt8) (k : Nat) : Bool := if k = b.length then false else if k = a.length then true else decide (a.getD k 0 < b.getD k 0)

theorem less_at (a b : List UInt8) : decide (Lib.compareBytes a b < 0) = lessAt a b (common a b) := by
  rw [less_common, lessAt]
  have h1 := common_le_left a b
  have h2 := common_le_right a b
  by_cases e1 : common a b = b.length
  · simp [e1]
  · rw [if_neg e1, if_neg e1]
    by_cases e2 : common a b = a.length
    · rw [dif_neg (by omega), if_pos e2]
    · rw [dif_pos (by omega), if_neg e2]
      simp [List.getD, show common a b < a.length by omega, show common a b < b.length by omega]

end Go.Proofs.Ytaamkdejediccaa
