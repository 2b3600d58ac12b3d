/- Plain laws of nodes: nodes come back from their words. -/
import Derived.Test.YtaamkdejediccaaNodeP
namespace Go.Proofs.Ytaamkdejediccaa

theorem candP_pack (l : List UInt8) (h15 : l.length ≤ 15) (h : l.all isNib = true) : candP (packU l).toNat = l := by
  obtain ⟨u1, u2, u3, u4, u5⟩ := unpack_pack l h15 h
  rw [packU, UInt64.toNat_ofNat_of_lt' (by simpa [UInt64.size] using u5), candP, u1, u2, if_pos u3, u4]

/-- What lies at a label's place. -/
def look : List UInt8 → List UInt64 → Nat → UInt64
  | a :: as, k :: ks, j => if a.toNat = j then k else look as ks j
  | _, _, _ => 0

theorem look_none : ∀ (as : List UInt8) (ks : List UInt64) (j : Nat), (∀ a ∈ as, a.toNat ≠ j) → look as ks j = 0
  | a :: as, k :: ks, j, h => by rw [look, if_neg (h a (by simp)), look_none as ks j (fun b hb => h b (by simp [hb]))]
  | [], _, _, _ => rfl
  | _ :: _, [], _, _ => rfl

theorem rising_tail {a : UInt8} {as : List UInt8} (h : risingB (a :: as) = true) : risingB as = true ∧ ∀ b ∈ as, a.toNat < b.toNat := by
  induction as generalizing a with
  | nil => exact ⟨rfl, by simp⟩
  | cons b as ih =>
    simp only [risingB, Bool.and_eq_true, decide_eq_true_eq] at h
    obtain ⟨h1, h2⟩ := ih h.2
    refine ⟨h.2, fun c hc => ?_⟩
    rcases List.mem_cons.1 hc with rfl | hc
    · exact h.1
    · exact Nat.lt_trans h.1 (h2 c hc)

theorem putKids_look : ∀ (as : List UInt8) (ks : List UInt64) (row : List UInt64) (j : Nat), as.length = ks.length → risingB as = true → 4 + j < row.length →
    (putKids row as ks)[4 + j]? = if j ∈ as.map UInt8.toNat then some (look as ks j) else row[4 + j]?
  | [], ks, row, j, _, _, _ => by simp [putKids]
  | a :: as, [], row, j, hl, _, _ => by simp at hl
  | a :: as, k :: ks, row, j, hl, hr, hj => by
    obtain ⟨h1, h2⟩ := rising_tail hr
    rw [putKids, putKids_look as ks (row.set (4 + a.toNat) k) j (by simpa using hl) h1 (by simpa using hj)]
    by_cases hm : j ∈ as.map UInt8.toNat
    · have hne : a.toNat ≠ j := by
        obtain ⟨b, hb, rfl⟩ := List.mem_map.1 hm
        exact Nat.ne_of_lt (h2 b hb)
      rw [if_pos hm, if_pos (by simp only [List.map_cons, List.mem_cons]; exact .inr hm), look, if_neg hne]
    · rw [if_neg hm]
      by_cases he : a.toNat = j
      · rw [if_pos (by simp [he]), look, if_pos he, List.getElem?_set, if_pos (by omega), if_pos (by omega)]
      · rw [if_neg (by simp only [List.map_cons, List.mem_cons, not_or]; exact ⟨fun e => he e.symm, hm⟩), List.getElem?_set, if_neg (by omega)]

theorem putKids_low : ∀ (as : List UInt8) (ks : List UInt64) (row : List UInt64) (i : Nat), i < 4 → (putKids row as ks)[i]? = row[i]?
  | [], _, row, i, _ => by simp [putKids]
  | _ :: _, [], row, i, _ => by simp [putKids]
  | a :: as, k :: ks, row, i, hi => by rw [putKids, putKids_low as ks _ i hi, List.getElem?_set, if_neg (by omega)]

/-- The table of a big one's kids, from a place on. -/
theorem coll_table : ∀ (n i : Nat) (as : List UInt8) (ks : List UInt64) (t : List UInt64), t.length = n → as.length = ks.length → risingB as = true → (∀ a ∈ as, i ≤ a.toNat ∧ a.toNat < i + n) → i + n ≤ 256 → (∀ k ∈ ks, k.toNat ≠ 0) →
    (∀ j, j < n → t[j]? = some (look as ks (i + j))) → collB i t = as ∧ collK t = ks
  | 0, i, as, ks, t, ht, hl, _, hb, _, _, _ => by
    have h1 : t = [] := List.eq_nil_of_length_eq_zero ht
    have h2 : as = [] := by
      rcases as with _ | ⟨a, as⟩
      · rfl
      · have := hb a (by simp); omega
    subst h1 h2
    have h3 : ks = [] := List.eq_nil_of_length_eq_zero (by simpa using hl.symm)
    subst h3
    exact ⟨rfl, rfl⟩
  | n + 1, i, as, ks, [], ht, _, _, _, _, _, _ => by simp at ht
  | n + 1, i, as, ks, x :: t, ht, hl, hr, hb, hi, hk, hlk => by
    have hx : x = look as ks i := by have := hlk 0 (by omega); simpa using this
    rcases as with _ | ⟨a, as⟩
    · have h3 : ks = [] := List.eq_nil_of_length_eq_zero (by simpa using hl.symm)
      subst h3
      have hx0 : x.toNat = 0 := by rw [hx]; rfl
      have ih := coll_table n (i + 1) [] [] t (by simpa using ht) rfl rfl (by simp) (by omega) (by simp) (fun j hj => by
        have := hlk (j + 1) (by omega)
        rw [show i + 1 + j = i + (j + 1) by omega]
        simpa using this)
      simp only [collB, if_pos hx0, ih.1]
      refine ⟨trivial, ?_⟩
      have h2 := ih.2
      unfold collK at h2 ⊢
      simp [hx0, h2]
    · rcases ks with _ | ⟨k, ks⟩
      · simp at hl
      · obtain ⟨h1, h2⟩ := rising_tail hr
        by_cases he : a.toNat = i
        · have hxk : x = k := by rw [hx, look, if_pos he]
          subst hxk
          have hx0 : x.toNat ≠ 0 := hk x (by simp)
          have ih := coll_table n (i + 1) as ks t (by simpa using ht) (by simpa using hl) h1 (fun b hb' => by have := h2 b hb'; have := hb b (by simp [hb']); omega) (by omega) (fun k' hk' => hk k' (by simp [hk'])) (fun j hj => by
            have := hlk (j + 1) (by omega)
            rw [look, if_neg (by omega)] at this
            rw [show i + 1 + j = i + (j + 1) by omega]
            simpa using this)
          have ea : UInt8.ofNat i = a := by apply UInt8.toNat_inj.1; rw [← he]; simp
          simp only [collB, if_neg hx0, ih.1, ea]
          refine ⟨trivial, ?_⟩
          have h2 := ih.2
          unfold collK at h2 ⊢
          simp [hx0, h2]
        · have hai : i + 1 ≤ a.toNat := by have := hb a (by simp); omega
          have hx0 : x.toNat = 0 := by
            rw [hx, look, if_neg he, look_none as ks i (fun b hb' => by have := h2 b hb'; omega)]; rfl
          have ih := coll_table n (i + 1) (a :: as) (k :: ks) t (by simpa using ht) hl hr (fun b hb' => by
              rcases List.mem_cons.1 hb' with rfl | hb''
              · have := hb b (by simp); omega
              · have := h2 b hb''; have := hb b (by simp [hb'']); omega) (by omega) hk (fun j hj => by
            have := hlk (j + 1) (by omega)
            rw [show i + 1 + j = i + (j + 1) by omega]
            simpa using this)
          simp only [collB, if_pos hx0, ih.1]
          refine ⟨trivial, ?_⟩
          have h2 := ih.2
          unfold collK at h2 ⊢
          simp [hx0, h2]

theorem Nd.ext' {x y : Nd} (h1 : x.pre = y.pre) (h2 : x.val = y.val) (h3 : x.labels = y.labels) (h4 : x.kids = y.kids) : x = y := by
  cases x; cases y; simp_all

/-- Nodes come back from their words. -/
theorem cand_enc (x : Nd) (h : rightB x = true) : cand (encW x) = x := by
  obtain ⟨h1, h2, h3, h4, h5, h6⟩ := (rightB_iff x).1 h
  by_cases hs : x.kids.length ≤ 4
  · have hl := encS_length x hs
    rw [encW, if_pos hs, cand, if_pos hl]
    obtain ⟨u1, u2, u3, u4, u5⟩ := unpack_pack x.labels (by omega) h4
    have e3 : (packU x.labels).toNat = x.labels.length + 16 * packN x.labels := by rw [packU, UInt64.toNat_ofNat_of_lt' (by simpa [UInt64.size] using u5)]
    have hd : (encS x).drop 4 = x.kids ++ List.replicate (4 - x.kids.length) 0 := by simp [encS]
    have hc : candS (packU x.labels).toNat ((encS x).drop 4) = (x.labels, x.kids) := by
      rw [hd, candS, e3, u1, u2, if_pos ⟨u3, by omega⟩, u4, h3, List.take_left' rfl]
    apply Nd.ext'
    · show candP ((encS x).getD 1 0).toNat = x.pre
      rw [show (encS x).getD 1 0 = packU x.pre by simp [encS], candP_pack x.pre h1 h2]
    · show (encS x).getD 2 0 = x.val
      simp [encS]
    · show (candS ((encS x).getD 3 0).toNat ((encS x).drop 4)).1 = x.labels
      rw [show (encS x).getD 3 0 = packU x.labels by simp [encS], hc]
    · show (candS ((encS x).getD 3 0).toNat ((encS x).drop 4)).2 = x.kids
      rw [show (encS x).getD 3 0 = packU x.labels by simp [encS], hc]
  · have hl := encB_length x
    rw [encW, if_neg hs, cand, if_neg (by omega)]
    have g1 : (encB x)[1]? = some (packU x.pre) := by rw [encB, putKids_low _ _ _ 1 (by decide)]; simp [headB]
    have g2 : (encB x)[2]? = some x.val := by rw [encB, putKids_low _ _ _ 2 (by decide)]; simp [headB]
    have ht : (((encB x).drop 4).take 16).length = 16 := by simp [hl]
    have hcol := coll_table 16 0 x.labels x.kids (((encB x).drop 4).take 16) ht h3 h5 (fun a ha => by
        rw [List.all_eq_true] at h4; have := h4 a ha; simp only [isNib, decide_eq_true_eq] at this; omega) (by decide) (fun k hk => by
        obtain ⟨i, hi, rfl⟩ := List.getElem_of_mem hk; exact h6 i hi) (fun j hj => by
        rw [List.getElem?_take, if_pos hj, List.getElem?_drop, encB, putKids_look _ _ _ j h3 h5 (by simp [headB]; omega), Nat.zero_add]
        by_cases hm : j ∈ x.labels.map UInt8.toNat
        · rw [if_pos hm]
        · rw [if_neg hm, look_none _ _ _ (fun a ha e => hm (List.mem_map.2 ⟨a, ha, e⟩))]
          rw [headB, List.getElem?_append_right (by simp only [List.length_cons, List.length_nil]; omega), List.getElem?_replicate, if_pos (by simp only [List.length_cons, List.length_nil]; omega)])
    apply Nd.ext'
    · show candP ((encB x).getD 1 0).toNat = x.pre
      rw [List.getD, g1]; exact candP_pack x.pre h1 h2
    · show (encB x).getD 2 0 = x.val
      rw [List.getD, g2]; rfl
    · exact hcol.1
    · exact hcol.2

theorem decOk_enc (x : Nd) (h : rightB x = true) : decOk (encW x) = true := by
  have hl := encW_length x
  have hc := cand_enc x h
  have h32 : (encW x).length = 8 ∨ (encW x).length = 32 := by rw [hl]; split <;> simp
  rw [decOk, hc, h]
  rcases h32 with e | e <;> simp [e]

theorem decOk_iff (l : List UInt64) (h : decOk l = true) : rightB (cand l) = true ∧ encW (cand l) = l := by
  simp only [decOk, Bool.and_eq_true, decide_eq_true_eq] at h
  exact h.2

theorem cand_kids (l : List UInt64) : (cand l).kids.length ≤ 16 := by
  unfold cand
  split
  · show (candS _ _).2.length ≤ 16
    unfold candS
    split
    · simp only [List.length_take]; omega
    · simp
  · exact Nat.le_trans (collK_le _) (by simp only [List.length_take]; omega)

end Go.Proofs.Ytaamkdejediccaa
