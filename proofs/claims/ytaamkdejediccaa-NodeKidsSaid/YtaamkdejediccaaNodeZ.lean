/- Plain laws of nodes: what is put in is there, and goes out again. -/
import Derived.Test.YtaamkdejediccaaNodeU
import Derived.Test.YtaamkdejediccaaNodeV
import Derived.Test.YtaamkdejediccaaNodeY
namespace Go.Proofs.Ytaamkdejediccaa

theorem ins_get {α : Type} (xs : List α) (i : Nat) (u : α) (hi : i ≤ xs.length) (j : Nat) : (ins xs i u)[j]? = if j < i then xs[j]? else if j = i then some u else xs[j - 1]? := by
  unfold ins
  by_cases h1 : j < i
  · rw [if_pos h1, List.getElem?_append_left (by simp; omega), List.getElem?_take, if_pos h1]
  · rw [if_neg h1, List.getElem?_append_right (by simp; omega)]
    simp only [List.length_take, Nat.min_eq_left hi]
    by_cases h2 : j = i
    · subst h2; simp
    · rw [if_neg h2, show j - i = (j - 1 - i) + 1 by omega, List.getElem?_cons_succ, List.getElem?_drop]
      congr 1; omega

theorem del_ins {α : Type} (xs : List α) (i : Nat) (u : α) (hi : i ≤ xs.length) : del (ins xs i u) i = xs := by
  unfold del ins
  rw [List.take_append_of_le_length (by simp; omega), List.take_take, Nat.min_self, List.drop_append, List.length_take, Nat.min_eq_left hi, show i + 1 - i = 1 by omega, List.drop_of_length_le (by simp; omega)]
  simp

theorem mem_ins {α : Type} (xs : List α) (i : Nat) (u y : α) (h : y ∈ ins xs i u) : y = u ∨ y ∈ xs := by
  unfold ins at h
  rw [List.mem_append, List.mem_cons] at h
  rcases h with h | h | h
  · exact .inr (List.mem_of_mem_take h)
  · exact .inl h
  · exact .inr (List.mem_of_mem_drop h)

theorem place_split (l : List UInt8) (x : UInt8) (hs : risingB l = true) : (∀ t (h : t < l.length), t < placeS l x → l[t].toNat < x.toNat) ∧ (∀ t (h : t < l.length), placeS l x ≤ t → x.toNat ≤ l[t].toNat) := by
  obtain ⟨i, hi⟩ : ∃ i, i = l.findIdx (fun y => decide (x.toNat ≤ y.toNat)) := ⟨_, rfl⟩
  have hle : i ≤ l.length := by rw [hi]; exact List.findIdx_le_length
  have a1 : ∀ t (h : t < l.length), t < i → l[t].toNat < x.toNat := by
    intro t h ht
    rw [hi] at ht
    have := List.not_of_lt_findIdx ht
    simpa using this
  have a2 : ∀ t (h : t < l.length), i ≤ t → x.toNat ≤ l[t].toNat := by
    intro t h ht
    have hil : i < l.length := by omega
    have h0 : x.toNat ≤ l[i].toNat := by
      have := List.findIdx_getElem (p := fun y : UInt8 => decide (x.toNat ≤ y.toNat)) (xs := l) (w := by rw [← hi]; exact hil)
      simpa [← hi] using this
    rcases Nat.lt_or_ge i t with h' | h'
    · have := rising_lt' l hs i t h' h
      omega
    · obtain rfl : t = i := by omega
      exact h0
  have e := search_end l x i hle a1 a2
  rw [e]
  exact ⟨a1, a2⟩

theorem has_false_at (l : List UInt8) (x : UInt8) (h : hasL l x = false) : ∀ t (h : t < l.length), l[t].toNat ≠ x.toNat := by
  intro t ht e
  unfold hasL at h
  rw [search_yes l x t ht e] at h
  cases h

theorem rising_ins (l : List UInt8) (x : UInt8) (hs : risingB l = true) (hh : hasL l x = false) : risingB (ins l (placeS l x) x) = true := by
  obtain ⟨a1, a2⟩ := place_split l x hs
  have hp := placeS_le l x
  have hne := has_false_at l x hh
  generalize placeS l x = p at *
  rw [rising_iff]
  intro i hi
  have hlen : (ins l p x).length = l.length + 1 := ins_length l p x hp
  have e1 := ins_get l p x hp i
  have e2 := ins_get l p x hp (i + 1)
  rw [List.getElem?_eq_getElem (by omega)] at e1 e2
  rw [hlen] at hi
  rcases Nat.lt_or_ge (i + 1) p with h | h
  · rw [if_pos (by omega), List.getElem?_eq_getElem (by omega)] at e1 e2
    injection e1 with e1; injection e2 with e2
    rw [e1, e2]
    exact (rising_iff l).1 hs i (by omega)
  · rcases Nat.lt_or_ge i p with h' | h'
    · obtain rfl : p = i + 1 := by omega
      rw [if_pos (by omega), List.getElem?_eq_getElem (by omega)] at e1
      rw [if_neg (by omega), if_pos rfl] at e2
      injection e1 with e1; injection e2 with e2
      rw [e1, e2]
      exact a1 i (by omega) (by omega)
    · rw [if_neg (by omega), if_neg (by omega), Nat.add_sub_cancel, List.getElem?_eq_getElem (by omega)] at e2
      injection e2 with e2
      rw [e2]
      rcases Nat.eq_or_lt_of_le h' with h3 | h3
      · subst h3
        rw [if_neg (by omega), if_pos rfl] at e1
        injection e1 with e1
        rw [e1]
        have := a2 p (by omega) (Nat.le_refl _)
        have := hne p (by omega)
        omega
      · rw [if_neg (by omega), if_neg (by omega), List.getElem?_eq_getElem (by omega)] at e1
        injection e1 with e1
        rw [e1]
        have := (rising_iff l).1 hs (i - 1) (by omega)
        simp only [show i - 1 + 1 = i by omega] at this
        exact this

structure WithFacts (x : Nd) (label : UInt8) (kid : UInt64) : Prop where
  right : rightB (withN x label kid) = true
  place : placeS x.labels label ≤ x.labels.length
  len : (withN x label kid).labels.length = x.labels.length + 1
  lenk : (withN x label kid).kids.length = x.kids.length + 1
  lab_at : (withN x label kid).labels[placeS x.labels label]? = some label
  kid_at : (withN x label kid).kids[placeS x.labels label]? = some kid
  find : findL (withN x label kid).labels label = some (placeS x.labels label)
  out : outN (withN x label kid) (placeS x.labels label) = x
  old : ∀ i (h : i < x.labels.length) (hk : i < x.kids.length), ∃ j, j < x.labels.length + 1 ∧ (withN x label kid).labels[j]? = some x.labels[i] ∧ (withN x label kid).kids[j]? = some x.kids[i]

theorem withOk_iff (x : Nd) (label : UInt8) (kid : UInt64) : withOk x label kid = true ↔ rightB x = true ∧ label.toNat < 16 ∧ kid.toNat ≠ 0 ∧ hasL x.labels label = false := by
  unfold withOk
  simp only [Bool.and_eq_true, decide_eq_true_eq, Bool.not_eq_true', beq_eq_false_iff_ne, and_assoc, ne_eq]

theorem with_facts (x : Nd) (label : UInt8) (kid : UInt64) (h : withOk x label kid = true) : WithFacts x label kid := by
  obtain ⟨hR, h16, hk, hh⟩ := (withOk_iff x label kid).1 h
  obtain ⟨r1, r2, r3, r4, r5, r6⟩ := (rightB_iff x).1 hR
  have hp := placeS_le x.labels label
  have l1 : (ins x.labels (placeS x.labels label) label).length = x.labels.length + 1 := ins_length _ _ _ hp
  have l2 : (ins x.kids (placeS x.labels label) kid).length = x.kids.length + 1 := ins_length _ _ _ (by omega)
  have hr : rightB (withN x label kid) = true := by
    rw [rightB_iff]
    refine ⟨r1, r2, ?_, ?_, rising_ins _ _ r5 hh, ?_⟩
    · show (ins _ _ _).length = (ins _ _ _).length
      omega
    · rw [List.all_eq_true]
      intro y hy
      rcases mem_ins _ _ _ _ hy with rfl | hy
      · exact isNib_yes h16
      · exact (List.all_eq_true.1 r4) y hy
    · intro i hi
      rcases mem_ins _ _ _ _ (List.getElem_mem hi) with e | hy
      · rw [e]; exact hk
      · obtain ⟨t, ht, e⟩ := List.getElem_of_mem hy
        rw [← e]; exact r6 t ht
  have hlab : (withN x label kid).labels[placeS x.labels label]? = some label := by
    show (ins _ _ _)[_]? = _
    rw [ins_get _ _ _ hp, if_neg (by omega), if_pos rfl]
  refine ⟨hr, hp, l1, l2, hlab, ?_, ?_, ?_, ?_⟩
  · show (ins _ _ _)[_]? = _
    rw [ins_get _ _ _ (by omega), if_neg (by omega), if_pos rfl]
  · have hlt : placeS x.labels label < (withN x label kid).labels.length := by rw [show (withN x label kid).labels.length = x.labels.length + 1 from l1]; omega
    have := find_label _ ((rightB_iff _).1 hr).2.2.2.2.1 _ hlt
    rw [List.getElem?_eq_getElem hlt] at hlab
    injection hlab with hlab
    rw [hlab] at this
    exact this
  · show ({ pre := x.pre, val := x.val, labels := del (ins _ _ _) _, kids := del (ins _ _ _) _ } : Nd) = x
    rw [del_ins _ _ _ hp, del_ins _ _ _ (by omega)]
  · intro i hi hik
    by_cases hip : i < placeS x.labels label
    · refine ⟨i, by omega, ?_, ?_⟩
      · show (ins _ _ _)[_]? = _
        rw [ins_get _ _ _ hp, if_pos hip, List.getElem?_eq_getElem hi]
      · show (ins _ _ _)[_]? = _
        rw [ins_get _ _ _ (by omega), if_pos hip, List.getElem?_eq_getElem hik]
    · refine ⟨i + 1, by omega, ?_, ?_⟩
      · show (ins _ _ _)[_]? = _
        rw [ins_get _ _ _ hp, if_neg (by omega), if_neg (by omega), Nat.add_sub_cancel, List.getElem?_eq_getElem hi]
      · show (ins _ _ _)[_]? = _
        rw [ins_get _ _ _ (by omega), if_neg (by omega), if_neg (by omega), Nat.add_sub_cancel, List.getElem?_eq_getElem hik]

theorem kidV_at? (x : Nd) (h : rightB x = true) (i : Nat) (a : UInt8) (k : UInt64) (ha : x.labels[i]? = some a) (hk : x.kids[i]? = some k) : kidV x a = .tuple #[.int .u64 (k.toNat : Int), .int .i64 (posN x i : Int), .bool true] := by
  obtain ⟨hi, rfl⟩ := List.getElem?_eq_some_iff.1 ha
  obtain ⟨hj, rfl⟩ := List.getElem?_eq_some_iff.1 hk
  exact kidV_at x h i hi hj

end Go.Proofs.Ytaamkdejediccaa
