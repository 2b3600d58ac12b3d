/- Plain laws of nodes: lists of bytes and words alone, no program in sight. -/
import Derived.Test.YtaamkdejediccaaNibP3
namespace Go.Proofs.Ytaamkdejediccaa

/-- A node: nibbles, a value, labels, and what is below at each. -/
structure Nd where
  pre : List UInt8
  val : UInt64
  labels : List UInt8
  kids : List UInt64

/-- Each stands below the next one. -/
def risingB : List UInt8 → Bool
  | a :: b :: l => decide (a.toNat < b.toNat) && risingB (b :: l)
  | _ => true

theorem rising_iff : ∀ (l : List UInt8), risingB l = true ↔ ∀ i (h : i + 1 < l.length), l[i].toNat < l[i + 1].toNat
  | [] => by simp [risingB]
  | [_] => by simp [risingB]
  | a :: b :: l => by
    have ih := rising_iff (b :: l)
    simp only [risingB, Bool.and_eq_true, decide_eq_true_eq, ih]
    constructor
    · rintro ⟨h1, h2⟩ i hi
      rcases i with _ | i
      · simpa using h1
      · exact h2 i (by simpa using hi)
    · intro h
      exact ⟨by simpa using h 0 (by simp), fun i hi => h (i + 1) (by simpa using hi)⟩

theorem rising_take_succ (l : List UInt8) (k : Nat) (hk : k < l.length) (h : risingB (l.take k) = true) (hlt : ∀ j, k = j + 1 → (h : j < l.length) → l[j].toNat < l[k].toNat) : risingB (l.take (k + 1)) = true := by
  rw [rising_iff] at h ⊢
  intro i hi
  simp only [List.length_take] at hi
  simp only [List.getElem_take]
  by_cases e : i + 1 = k
  · subst e
    exact hlt i rfl (by omega)
  · have := h i (by simp; omega)
    simpa using this

theorem rising_step (l : List UInt8) (j : Nat) (hq : j + 1 < l.length) (h : risingB (l.take (j + 1)) = true) (hr : l[j].toNat < l[j + 1].toNat) : risingB (l.take (j + 1 + 1)) = true :=
  rising_take_succ l (j + 1) hq h (fun j' hj' _ => by cases hj'; exact hr)

theorem rising_false (l : List UInt8) (j : Nat) (hj : j + 1 < l.length) (h : ¬ l[j].toNat < l[j + 1].toNat) : risingB l = false := by
  cases hr : risingB l with
  | false => rfl
  | true => exact absurd ((rising_iff l).1 hr j hj) h

def rightB (x : Nd) : Bool :=
  decide (x.pre.length ≤ 15) && x.pre.all isNib && decide (x.labels.length = x.kids.length) && x.labels.all isNib && risingB x.labels && x.kids.all (fun k => k.toNat != 0)

theorem rightB_iff (x : Nd) : rightB x = true ↔ x.pre.length ≤ 15 ∧ x.pre.all isNib = true ∧ x.labels.length = x.kids.length ∧ x.labels.all isNib = true ∧ risingB x.labels = true ∧ ∀ i (h : i < x.kids.length), x.kids[i].toNat ≠ 0 := by
  simp only [rightB, Bool.and_eq_true, decide_eq_true_eq, and_assoc, List.all_eq_true (p := fun k : UInt64 => k.toNat != 0), bne_iff_ne, ne_eq]
  constructor
  · rintro ⟨h1, h2, h3, h4, h5, h6⟩
    exact ⟨h1, h2, h3, h4, h5, fun i hi => h6 _ (List.getElem_mem hi)⟩
  · rintro ⟨h1, h2, h3, h4, h5, h6⟩
    refine ⟨h1, h2, h3, h4, h5, fun k hk => ?_⟩
    obtain ⟨i, hi, rfl⟩ := List.getElem_of_mem hk
    exact h6 i hi

theorem right_no_nib (x : Nd) (k : Nat) (hk : k < x.labels.length) (h : ¬ x.labels[k].toNat < 16) : rightB x = false := by
  cases hr : rightB x with
  | false => rfl
  | true =>
    have := ((rightB_iff x).1 hr).2.2.2.1
    exact absurd (nib_get this hk) h
theorem right_no_rise (x : Nd) (j : Nat) (hj : j + 1 < x.labels.length) (h : ¬ x.labels[j].toNat < x.labels[j + 1].toNat) : rightB x = false := by
  cases hr : rightB x with
  | false => rfl
  | true =>
    have := ((rightB_iff x).1 hr).2.2.2.2.1
    exact absurd ((rising_iff _).1 this j hj) h
theorem right_no_pre (x : Nd) (h : ¬ (x.pre.length ≤ 15 ∧ x.pre.all isNib = true)) : rightB x = false := by
  cases hr : rightB x with
  | false => rfl
  | true => exact absurd ⟨((rightB_iff x).1 hr).1, ((rightB_iff x).1 hr).2.1⟩ h
theorem right_no_len (x : Nd) (h : x.labels.length ≠ x.kids.length) : rightB x = false := by
  cases hr : rightB x with
  | false => rfl
  | true => exact absurd ((rightB_iff x).1 hr).2.2.1 h
theorem right_rest (x : Nd) (h1 : x.pre.length ≤ 15) (h2 : x.pre.all isNib = true) (h3 : x.labels.length = x.kids.length) (h4 : x.labels.all isNib = true) (h5 : risingB x.labels = true) :
    rightB x = !(x.kids.any fun y => y.toNat == 0) := by
  rw [Bool.eq_iff_iff, rightB_iff]
  simp only [Bool.not_eq_true', List.any_eq_false, beq_iff_eq]
  constructor
  · rintro ⟨_, _, _, _, _, h⟩ k hk
    obtain ⟨i, hi, rfl⟩ := List.getElem_of_mem hk
    exact h i hi
  · intro h
    exact ⟨h1, h2, h3, h4, h5, fun i hi => h _ (List.getElem_mem hi)⟩

def classN (x : Nd) : Nat := if x.kids.length ≤ 4 then 1 else 2

/-- The first place of a value; none: there is no such place. -/
def placeOf {α : Type} (p : α → Bool) (l : List α) : Int := match l.findIdx? p with | some i => (i : Int) | none => -1

theorem placeOf_hit {α : Type} (p : α → Bool) (l : List α) (k : Nat) (hk : k < l.length) (hno : ∀ j (h : j < k), p (l[j]'(by omega)) = false) (hp : p l[k] = true) : placeOf p l = (k : Int) := by
  have : l.findIdx? p = some k := by
    rw [List.findIdx?_eq_some_iff_getElem]
    exact ⟨hk, hp, fun j hj => by simp [hno j hj]⟩
  simp [placeOf, this]

theorem placeOf_miss {α : Type} (p : α → Bool) (l : List α) (hno : ∀ j (h : j < l.length), p l[j] = false) : placeOf p l = -1 := by
  have : l.findIdx? p = none := by
    rw [List.findIdx?_eq_none_iff]
    intro x hx
    obtain ⟨i, hi, rfl⟩ := List.getElem_of_mem hx
    exact hno i hi
  simp [placeOf, this]

def packU (l : List UInt8) : UInt64 := UInt64.ofNat (l.length + 16 * packN l)

/-- Kids at the places of their labels, behind the first four words. -/
def putKids : List UInt64 → List UInt8 → List UInt64 → List UInt64
  | row, a :: as, k :: ks => putKids (row.set (4 + a.toNat) k) as ks
  | row, _, _ => row

theorem putKids_length : ∀ (row : List UInt64) (as : List UInt8) (ks : List UInt64), (putKids row as ks).length = row.length
  | row, a :: as, k :: ks => by rw [putKids, putKids_length]; simp
  | row, [], _ => by simp [putKids]
  | row, _ :: _, [] => by simp [putKids]

theorem putKids_take_succ : ∀ (row : List UInt64) (as : List UInt8) (ks : List UInt64) (i : Nat) (h1 : i < as.length) (h2 : i < ks.length),
    putKids row (as.take (i + 1)) (ks.take (i + 1)) = (putKids row (as.take i) (ks.take i)).set (4 + as[i].toNat) ks[i]
  | row, a :: as, k :: ks, 0, _, _ => by simp [putKids]
  | row, a :: as, k :: ks, i + 1, h1, h2 => by
    have := putKids_take_succ (row.set (4 + a.toNat) k) as ks i (by simpa using h1) (by simpa using h2)
    simpa [putKids] using this
  | _, [], _, _, h1, _ => by simp at h1
  | _, _ :: _, [], _, _, h2 => by simp at h2

/-- The words of a node. -/
def encS (x : Nd) : List UInt64 := [UInt64.ofNat (1 + 256 * x.kids.length), packU x.pre, x.val, packU x.labels] ++ x.kids ++ List.replicate (4 - x.kids.length) 0
def headB (x : Nd) : List UInt64 := [UInt64.ofNat (2 + 256 * x.kids.length), packU x.pre, x.val] ++ List.replicate 29 0
def encB (x : Nd) : List UInt64 := putKids (headB x) x.labels x.kids
def encW (x : Nd) : List UInt64 := if x.kids.length ≤ 4 then encS x else encB x

theorem encS_length (x : Nd) (h : x.kids.length ≤ 4) : (encS x).length = 8 := by simp [encS]; omega
theorem encB_length (x : Nd) : (encB x).length = 32 := by simp [encB, putKids_length, headB]
theorem encW_length (x : Nd) : (encW x).length = if x.kids.length ≤ 4 then 8 else 32 := by
  unfold encW; split
  · rename_i h; exact encS_length x h
  · exact encB_length x

/-- The labels, and the nodes below, of a small one's words. -/
def candS (u : Nat) (tail : List UInt64) : List UInt8 × List UInt64 :=
  if u / 16 / 16 ^ (u % 16) = 0 ∧ u % 16 ≤ 4 then (digits (u % 16) (u / 16), tail.take (u % 16)) else ([], [])

/-- Those of a big one's. -/
def collB : Nat → List UInt64 → List UInt8
  | _, [] => []
  | i, k :: t => if k.toNat = 0 then collB (i + 1) t else UInt8.ofNat i :: collB (i + 1) t
def collK (t : List UInt64) : List UInt64 := t.filter fun k => k.toNat != 0

theorem collB_snoc : ∀ (i : Nat) (t : List UInt64) (x : UInt64), collB i (t ++ [x]) = collB i t ++ (if x.toNat = 0 then [] else [UInt8.ofNat (i + t.length)])
  | i, [], x => by simp only [List.nil_append, collB]; split <;> simp
  | i, k :: t, x => by
    have := collB_snoc (i + 1) t x
    simp only [List.cons_append, collB, this, List.length_cons]
    rw [show i + 1 + t.length = i + (t.length + 1) by omega]
    split <;> simp
theorem collK_snoc (t : List UInt64) (x : UInt64) : collK (t ++ [x]) = collK t ++ (if x.toNat = 0 then [] else [x]) := by
  simp only [collK, List.filter_append, List.filter_cons, List.filter_nil]
  by_cases h : x.toNat = 0 <;> simp [h]
theorem coll_length : ∀ (i : Nat) (t : List UInt64), (collB i t).length = (collK t).length
  | _, [] => rfl
  | i, k :: t => by
    have := coll_length (i + 1) t
    simp only [collB, collK, List.filter_cons] at this ⊢
    by_cases h : k.toNat = 0 <;> simp [h, this]
theorem collK_le (t : List UInt64) : (collK t).length ≤ t.length := List.length_filter_le _ _

def candP (u : Nat) : List UInt8 := if u / 16 / 16 ^ (u % 16) = 0 then digits (u % 16) (u / 16) else []
def cand8 (l : List UInt64) : Nd :=
  { pre := candP (l.getD 1 0).toNat, val := l.getD 2 0, labels := (candS (l.getD 3 0).toNat (l.drop 4)).1, kids := (candS (l.getD 3 0).toNat (l.drop 4)).2 }
def cand32 (l : List UInt64) : Nd :=
  { pre := candP (l.getD 1 0).toNat, val := l.getD 2 0, labels := collB 0 ((l.drop 4).take 16), kids := collK ((l.drop 4).take 16) }
def cand (l : List UInt64) : Nd := if l.length = 8 then cand8 l else cand32 l
def decOk (l : List UInt64) : Bool := (decide (l.length = 8) || decide (l.length = 32)) && (rightB (cand l) && decide (encW (cand l) = l))

theorem candP_len (u : Nat) : (candP u).length ≤ 15 := by
  unfold candP; split
  · rw [digits_length]; omega
  · simp

theorem rightB_val (x : Nd) (v : UInt64) : rightB { x with val := v } = rightB x := rfl
theorem putKids_get2 : ∀ (row row' : List UInt64) (as : List UInt8) (ks : List UInt64) (i : Nat), row.length = row'.length → (∀ j, j ≠ 2 → row[j]? = row'[j]?) → i ≠ 2 → (putKids row as ks)[i]? = (putKids row' as ks)[i]?
  | row, row', a :: as, k :: ks, i, hl, h, hi => by
    simp only [putKids]
    refine putKids_get2 _ _ as ks i (by simp [hl]) (fun j hj => ?_) hi
    rw [List.getElem?_set, List.getElem?_set, h j hj, hl]
  | row, row', [], _, i, _, h, hi => by simp only [putKids]; exact h i hi
  | row, row', _ :: _, [], i, _, h, hi => by simp only [putKids]; exact h i hi
theorem putKids_at2 : ∀ (row : List UInt64) (as : List UInt8) (ks : List UInt64), (putKids row as ks)[2]? = row[2]?
  | row, a :: as, k :: ks => by
    simp only [putKids]
    rw [putKids_at2, List.getElem?_set]
    simp; omega
  | row, [], _ => by simp [putKids]
  | row, _ :: _, [] => by simp [putKids]

/-- Another value changes one word alone. -/
theorem encW_val (x : Nd) (v : UInt64) (i : Nat) (hi : i ≠ 2) : (encW { x with val := v })[i]? = (encW x)[i]? := by
  unfold encW
  by_cases h : x.kids.length ≤ 4
  · simp only [if_pos h, encS]
    rcases i with _ | _ | _ | i
    · rfl
    · rfl
    · exact absurd rfl hi
    · simp
  · simp only [if_neg h, encB]
    refine putKids_get2 _ _ _ _ i (by simp [headB]) (fun j hj => ?_) hi
    rcases j with _ | _ | _ | j
    · rfl
    · rfl
    · exact absurd rfl hj
    · simp [headB]
theorem encW_at2 (x : Nd) : (encW x)[2]? = some x.val := by
  unfold encW
  split
  · simp [encS]
  · rw [encB, putKids_at2]; simp [headB]

end Go.Proofs.Ytaamkdejediccaa
