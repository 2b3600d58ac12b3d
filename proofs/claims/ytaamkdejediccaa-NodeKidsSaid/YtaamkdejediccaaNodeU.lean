/- Plain laws of nodes: where each kid lies in the words. -/
import Derived.Test.YtaamkdejediccaaNodeR
namespace Go.Proofs.Ytaamkdejediccaa

/-- The word that has the kid of label number i. -/
def posN (x : Nd) (i : Nat) : Nat := if x.kids.length ≤ 4 then 4 + i else 4 + (x.labels.getD i 0).toNat

theorem rising_lt (l : List UInt8) (h : risingB l = true) : ∀ (d i : Nat) (hj : i + d + 1 < l.length), l[i].toNat < l[i + d + 1].toNat
  | 0, i, hj => (rising_iff l).1 h i hj
  | d + 1, i, hj => Nat.lt_trans (rising_lt l h d i (by omega)) ((rising_iff l).1 h (i + d + 1) (by omega))
theorem rising_lt' (l : List UInt8) (h : risingB l = true) (i j : Nat) (hij : i < j) (hj : j < l.length) : l[i].toNat < l[j].toNat := by
  have := rising_lt l h (j - i - 1) i (by omega)
  have e : i + (j - i - 1) + 1 = j := by omega
  simp only [e] at this
  exact this
theorem rising_ge (l : List UInt8) (h : risingB l = true) : ∀ i (hi : i < l.length), i ≤ l[i].toNat
  | 0, _ => Nat.zero_le _
  | i + 1, hi => Nat.lt_of_le_of_lt (rising_ge l h i (by omega)) ((rising_iff l).1 h i hi)
theorem labels_le (l : List UInt8) (h : risingB l = true) (hn : l.all isNib = true) : l.length ≤ 16 := by
  rcases Nat.lt_or_ge 16 l.length with hl | hl
  · have h1 := rising_ge l h 16 hl
    have h2 := nib_get hn hl
    omega
  · exact hl

theorem find_label (l : List UInt8) (h : risingB l = true) (i : Nat) (hi : i < l.length) : l.findIdx? (fun y => y.toNat == l[i].toNat) = some i := by
  rw [List.findIdx?_eq_some_iff_getElem]
  refine ⟨hi, by simp, fun j hj => ?_⟩
  have := rising_lt' l h j i hj hi
  simp; omega

theorem look_at : ∀ (as : List UInt8) (ks : List UInt64) (i : Nat) (h1 : i < as.length) (h2 : i < ks.length), risingB as = true → look as ks as[i].toNat = ks[i]
  | a :: as, k :: ks, 0, _, _, _ => by simp [look]
  | a :: as, k :: ks, i + 1, h1, h2, hr => by
    obtain ⟨t1, t2⟩ := rising_tail hr
    have hi' : i < as.length := by simpa using h1
    have := t2 as[i] (List.getElem_mem hi')
    rw [List.getElem_cons_succ, List.getElem_cons_succ, look, if_neg (by omega)]
    exact look_at as ks i (by simpa using h1) (by simpa using h2) t1
  | [], _, _, h1, _, _ => by simp at h1
  | _ :: _, [], _, _, h2, _ => by simp at h2

theorem enc_pos (x : Nd) (h : rightB x = true) (i : Nat) (hi : i < x.kids.length) : (encW x)[posN x i]? = some x.kids[i] := by
  obtain ⟨h1, h2, h3, h4, h5, h6⟩ := (rightB_iff x).1 h
  unfold encW posN
  by_cases hs : x.kids.length ≤ 4
  · rw [if_pos hs, if_pos hs, encS, List.append_assoc, List.getElem?_append_right (by simp), List.getElem?_append_left (by simp; omega)]
    simp only [List.length_cons, List.length_nil]
    rw [show 4 + i - (0 + 1 + 1 + 1 + 1) = i by omega, List.getElem?_eq_getElem hi]
  · have hl : i < x.labels.length := by omega
    have hn := nib_get h4 hl
    rw [if_neg hs, if_neg hs, encB, List.getD, List.getElem?_eq_getElem hl, Option.getD_some, putKids_look _ _ _ _ h3 h5 (by simp [headB]; omega),
      if_pos (List.mem_map.2 ⟨_, List.getElem_mem hl, rfl⟩), look_at _ _ i hl hi h5]

theorem posN_facts (x : Nd) (h : rightB x = true) (i : Nat) (hi : i < x.kids.length) : 4 ≤ posN x i ∧ posN x i < (encW x).length ∧ ∀ j, j < i → posN x j ≠ posN x i := by
  obtain ⟨h1, h2, h3, h4, h5, h6⟩ := (rightB_iff x).1 h
  have he := enc_pos x h i hi
  refine ⟨by unfold posN; split <;> omega, (List.getElem?_eq_some_iff.1 he).1, fun j hj => ?_⟩
  unfold posN
  split
  · omega
  · have := rising_lt' x.labels h5 j i hj (by omega)
    simp only [List.getD, List.getElem?_eq_getElem (show j < x.labels.length by omega), List.getElem?_eq_getElem (show i < x.labels.length by omega), Option.getD_some]
    omega

theorem enc_zero (x : Nd) (h : rightB x = true) : ∃ u : UInt64, (encW x)[0]? = some u ∧ u.toNat = (if x.kids.length ≤ 4 then 1 else 2) + 256 * x.kids.length := by
  obtain ⟨h1, h2, h3, h4, h5, h6⟩ := (rightB_iff x).1 h
  have h16 := labels_le _ h5 h4
  unfold encW
  split
  · exact ⟨UInt64.ofNat (1 + 256 * x.kids.length), rfl, by rw [UInt64.toNat_ofNat_of_lt' (by simp only [UInt64.size]; omega)]⟩
  · exact ⟨UInt64.ofNat (2 + 256 * x.kids.length), by rw [encB, putKids_low _ _ _ 0 (by decide)]; rfl, by rw [UInt64.toNat_ofNat_of_lt' (by simp only [UInt64.size]; omega)]⟩

end Go.Proofs.Ytaamkdejediccaa
