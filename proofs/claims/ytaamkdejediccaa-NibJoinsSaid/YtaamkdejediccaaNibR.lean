/- The law NibJoins of layer 8, as a walk. -/
import Derived.Test.YtaamkdejediccaaNibN
import Derived.Test.YtaamkdejediccaaNibP3
import Derived.Deep.RegionHeld
namespace Go.Proofs.Ytaamkdejediccaa
open Go.RowKit

/-- A weaker condition is shown with less. -/
theorem wpAnyH_weaken {P : Program} {ops : Array Oper} {Q : Exit → Act → World → Prop} {md : Region.Mode} {S S' : World → Prop} (hS : ∀ w, S' w → S w) : ∀ {fuel : Nat} {listed : Array Bool} {a : Act} {w : World}, wpAnyH P md ops Q S' fuel listed a w → wpAnyH P md ops Q S fuel listed a w
  | 0, _, _, _, h => h
  | _ + 1, _, _, _, h => ⟨h.1, fun i hi => wpOp_mono (fun _ _ h' => ⟨hS _ h'.1, wpAnyH_weaken hS h'.2⟩) (h.2 i hi)⟩

theorem str_append_data (a b : ByteArray) : (a ++ b).data.toList = a.data.toList ++ b.data.toList := by simp
theorem mk_append (x y : List UInt8) : (⟨x.toArray⟩ : ByteArray) ++ ⟨y.toArray⟩ = ⟨(x ++ y).toArray⟩ := by apply ByteArray.ext; simp

set_option maxHeartbeats 8000000 in
theorem nibJoins_law (a b : ByteArray) (w : World) (ha : a.size ≤ maxLen) (hb : b.size ≤ maxLen) :
    Calls Try.prog 8 #[.string a, .string b] w fun e w' => e = .returned (.bool true) ∧ Below w.heap.size w w' := by
  unfold maxLen at ha hb
  go_enter Try.func8, Try.ntmps8
  go_wp2_with fail
  refine (alive8_any w).mono ?_
  rintro e w1 ⟨rfl, hb1⟩
  by_cases h2 : 500 < a.size
  · go_wp2_with fail
    go_ret
    exact ⟨rfl, hb1⟩
  by_cases h3 : 500 < b.size
  · go_wp2_with fail
    go_ret
    exact ⟨rfl, hb1⟩
  have d2 : decide (500 < (a.size : Int)) = false := by simp; omega
  have d3 : decide (500 < (b.size : Int)) = false := by simp; omega
  have ha6 : a.size ≤ 1000000 := by omega
  have hb6 : b.size ≤ 1000000 := by omega
  have hab6 : (a ++ b).size ≤ 1000000 := by simp; omega
  go_wp2_with fail
  refine (of_any a w1 ha6).mono ?_
  rintro e w2 ⟨v2, rfl, ho2, hb2⟩
  go_wp2_with fail
  refine (of_any b w2 hb6).mono ?_
  rintro e w3 ⟨v3, rfl, ho3, hb3⟩
  obtain ⟨B, d, rfl, _, r3⟩ := rd_of_own ho3
  have ho2' : w3.ownsRow w1.heap.size 5 1 v2 (2 * a.size) ((nibs a.data.toList).map bv) := by
    refine ⟨ho2.1, ?_⟩
    rcases ho2.2 with h | ⟨g, cap, cur, h1, h2, h3, h4⟩
    · exact .inl h
    · exact .inr ⟨g, cap, cur, h1, h2, by rw [hb3.block g (Array.getElem?_eq_some_iff.1 h3).1]; exact h3, h4⟩
  have h13 : w1.heap.size ≤ w3.heap.size := by have := hb2.size; have := hb3.size; omega
  clear ho2 ho3
  go_wp2_with (at_builtin; refine wpList_app_rd rfl (.tmp 19) (.tmp 21) 22 rfl Try.bytesTy w1.heap.size v2 (2 * a.size) ((nibs a.data.toList).map bv) ((nibs b.data.toList).map bv) rfl ho2' B (2 * b.size) d rfl r3 (oneCell_bv _) (by omega) (by decide) h13 ?_; intro v4 w4 ho4 hb4)
  obtain ⟨A4, c4, rfl, _, r4⟩ := rd_of_own ho4
  have r4' : Bs w4 A4 (2 * a.size + 2 * b.size) (nibs (a ++ b).data.toList) := by rw [str_append_data, nibs_append, Bs, List.map_append]; exact r4
  have hkey := key_any A4 (2 * a.size + 2 * b.size) c4 _ w4 (by omega) r4'
  rw [keyV_nibs] at hkey
  have HK := Lib.hid hkey
  have hb14 : Below w1.heap.size w1 w4 := (hb2.trans (hb3.mono hb2.size)).trans hb4
  have hb04 : Below w.heap.size w w4 := hb1.trans (hb14.mono hb1.size)
  clear hkey r4 r4' ho4 ho2' r3 hb4 hb3 hb2 hb14 hb1
  refine HK.out.mono ?_
  rintro e w5 ⟨rfl, hb5⟩
  have hb05 : Below w.heap.size w w5.drew := (hb04.trans (hb5.mono hb04.size)).drew
  clear HK hb5 hb04
  obtain ⟨S1, hS1⟩ : ∃ S : ByteArray, (⟨(nibs a.data.toList).toArray⟩ : ByteArray) = S := ⟨_, rfl⟩
  obtain ⟨S2, hS2⟩ : ∃ S : ByteArray, (⟨(nibs b.data.toList).toArray⟩ : ByteArray) = S := ⟨_, rfl⟩
  have hS3 : (⟨(nibs (a ++ b).data.toList).toArray⟩ : ByteArray) = S1 ++ S2 := by rw [← hS1, ← hS2, str_append_data, nibs_append, mk_append]
  have z1 : S1.size ≤ 1000000 := by rw [← hS1]; show (nibs a.data.toList).toArray.size ≤ _; have := nibs_length a.data.toList; simp at this ⊢; omega
  have z2 : S2.size ≤ 1000000 := by rw [← hS2]; show (nibs b.data.toList).toArray.size ≤ _; have := nibs_length b.data.toList; simp at this ⊢; omega
  obtain ⟨s, hs⟩ : ∃ s, s = a ++ b := ⟨_, rfl⟩
  have hss : a ++ b = s := hs.symm
  have HS1 := Lib.hid hS1
  have HS2 := Lib.hid hS2
  rw [hss] at hS3 hab6
  have HS3 := Lib.hid hS3
  have hsz : s.size = a.size + b.size := by rw [hs]; simp
  have HSZ := Lib.hid hsz
  have hcm : ∀ W A B c d, Bs W A (2 * a.size) (nibs a.data.toList) → Bs W B (2 * s.size) (nibs s.data.toList) → Calls Try.prog 19 #[.slice A (2 * a.size) c, .slice B (2 * s.size) d] W fun e w' => e = .returned (.int .i64 (2 * (a.size : Int))) ∧ Dr W w' := by
    intro W A B c d g1 g2
    have := common_any A B (2 * a.size) (2 * s.size) c d _ _ W (by omega) (by omega) g1 g2
    rw [hs, str_append_data, nibs_append, common_append, nibs_length] at this
    simpa [hs] using this
  have HCM := Lib.hid hcm
  clear hS1 hS2 hS3 hs hsz hcm
  -- REGION
  go_wp2_with fail
  refine wp_region_held_drew (S := fun w' => Below w5.drew.heap.size w5.drew w') (by kernel_rfl) (Below.refl _ _) (fun hS5 => ?_)
  generalize w5.drew = W5 at *
  refine wpAnyH_take (i := 0) (v := ?_) rfl (by kernel_rfl) (by kernel_rfl) (by kernel_rfl) (fun _ _ _ h => h) (Or.inl ⟨by rfl, ?_⟩) (by assumption) ?_
  rotate_left
  · (intro w hSw; clear hSw; first | (go_simp; done) | (go_simp; with_reducible rfl) | (go_simp; refine if_neg ?_; omega))
  try simp only [Act.put, List.getElem_toArray, List.getElem_cons_zero, List.getElem_cons_succ, List.setIfInBounds_toArray, List.set_cons_zero, List.set_cons_succ]
  refine wpAnyH_take (i := 1) (v := ?_) rfl (by kernel_rfl) (by kernel_rfl) (by kernel_rfl) (fun _ _ _ h => h) (Or.inl ⟨by rfl, ?_⟩) (by assumption) ?_
  rotate_left
  · (intro w hSw; clear hSw; first | (go_simp; done) | (go_simp; with_reducible rfl) | (go_simp; refine if_neg ?_; omega))
  try simp only [Act.put, List.getElem_toArray, List.getElem_cons_zero, List.getElem_cons_succ, List.setIfInBounds_toArray, List.set_cons_zero, List.set_cons_succ]
  refine wpAnyH_take (i := 2) (v := ?_) rfl (by kernel_rfl) (by kernel_rfl) (by kernel_rfl) (fun _ _ _ h => h) (Or.inl ⟨by rfl, ?_⟩) (by assumption) ?_
  rotate_left
  · (intro w hSw; clear hSw; first | (go_simp; done) | (go_simp; with_reducible rfl) | (go_simp; refine if_neg ?_; omega))
  try simp only [Act.put, List.getElem_toArray, List.getElem_cons_zero, List.getElem_cons_succ, List.setIfInBounds_toArray, List.set_cons_zero, List.set_cons_succ]
  refine wpAnyH_take (i := 5) (v := ?_) rfl (by kernel_rfl) (by kernel_rfl) (by kernel_rfl) (fun _ _ _ h => h) (Or.inl ⟨by rfl, ?_⟩) (by assumption) ?_
  rotate_left
  · (intro w hSw; clear hSw; first | (go_simp; done) | (go_simp; with_reducible rfl) | (go_simp; refine if_neg ?_; omega))
  try simp only [Act.put, List.getElem_toArray, List.getElem_cons_zero, List.getElem_cons_succ, List.setIfInBounds_toArray, List.set_cons_zero, List.set_cons_succ]
  refine wpAnyH_take (i := 8) (v := ?_) rfl (by kernel_rfl) (by kernel_rfl) (by kernel_rfl) (fun _ _ _ h => h) (Or.inl ⟨by rfl, ?_⟩) (by assumption) ?_
  rotate_left
  · (intro w hSw; clear hSw; first | (go_simp; done) | (go_simp; with_reducible rfl) | (go_simp; refine if_neg ?_; omega))
  try simp only [Act.put, List.getElem_toArray, List.getElem_cons_zero, List.getElem_cons_succ, List.setIfInBounds_toArray, List.set_cons_zero, List.set_cons_succ]
  refine wpAnyH_ready (rs := [3]) (by kernel_rfl) (by simp) ?_
  refine AllReadyH.cons rfl (fun K hK => ?_) AllReadyH.nil
  go_simp
  refine (of_any s W5 hab6).mono ?_
  rintro e w6 ⟨v6, rfl, ho6, hb6'⟩
  obtain ⟨A6, c6, rfl, _, r6⟩ := rd_of_own ho6
  clear ho6
  go_wp2_with fail
  refine hK.out _ _ hb6' (fun _ => ?_)
  refine wpAnyH_weaken (S' := fun w' => Below w6.heap.size w6 w') (fun w' h => (hb6').trans (h.mono (hb6').size)) ?_
  have hSw6 : (fun w' => Below w6.heap.size w6 w') w6 := Below.refl _ _
  clear hK K
  refine wpAnyH_take (i := 4) (v := ?_) rfl (by kernel_rfl) (by kernel_rfl) (by kernel_rfl) (fun _ _ _ h => h) (Or.inl ⟨by rfl, ?_⟩) (by assumption) ?_
  rotate_left
  · intro w hSw
    have k := conv_bs (Rd.below r6 hSw) c6
    rw [HS3.out] at k
    clear hSw
    first | (go_simp; done) | (go_simp; with_reducible rfl)
  try simp only [Act.put, List.getElem_toArray, List.getElem_cons_zero, List.getElem_cons_succ, List.setIfInBounds_toArray, List.set_cons_zero, List.set_cons_succ]
  have hX6 := hb05.trans (hb6'.mono hb05.size)
  clear r6 hb6' hS5
  refine wpAnyH_ready (rs := [6]) (by kernel_rfl) (by simp) ?_
  refine AllReadyH.cons rfl (fun K hK => ?_) AllReadyH.nil
  go_simp
  refine (of_any a w6 ha6).mono ?_
  rintro e w7 ⟨v7, rfl, ho7, hb7⟩
  obtain ⟨A7, c7, rfl, _, r7⟩ := rd_of_own ho7
  clear ho7
  go_wp2_with fail
  refine hK.out _ _ hb7 (fun _ => ?_)
  refine wpAnyH_weaken (S' := fun w' => Below w7.heap.size w7 w') (fun w' h => (hb7).trans (h.mono (hb7).size)) ?_
  have hSw7 : (fun w' => Below w7.heap.size w7 w') w7 := Below.refl _ _
  clear hK K
  refine wpAnyH_take (i := 7) (v := ?_) rfl (by kernel_rfl) (by kernel_rfl) (by kernel_rfl) (fun _ _ _ h => h) (Or.inl ⟨by rfl, ?_⟩) (by assumption) ?_
  rotate_left
  · intro w hSw
    have k := conv_bs (Rd.below r7 hSw) c7
    rw [HS1.out] at k
    clear hSw
    first | (go_simp; done) | (go_simp; with_reducible rfl)
  try simp only [Act.put, List.getElem_toArray, List.getElem_cons_zero, List.getElem_cons_succ, List.setIfInBounds_toArray, List.set_cons_zero, List.set_cons_succ]
  have hX7 := hX6.trans (hb7.mono hX6.size)
  clear r7 hb7 hSw6
  refine wpAnyH_ready (rs := [9]) (by kernel_rfl) (by simp) ?_
  refine AllReadyH.cons rfl (fun K hK => ?_) AllReadyH.nil
  go_simp
  refine (of_any b w7 hb6).mono ?_
  rintro e w8 ⟨v8, rfl, ho8, hb8⟩
  obtain ⟨A8, c8, rfl, _, r8⟩ := rd_of_own ho8
  clear ho8
  go_wp2_with fail
  refine hK.out _ _ hb8 (fun _ => ?_)
  refine wpAnyH_weaken (S' := fun w' => Below w8.heap.size w8 w') (fun w' h => (hb8).trans (h.mono (hb8).size)) ?_
  have hSw8 : (fun w' => Below w8.heap.size w8 w') w8 := Below.refl _ _
  clear hK K
  refine wpAnyH_take (i := 10) (v := ?_) rfl (by kernel_rfl) (by kernel_rfl) (by kernel_rfl) (fun _ _ _ h => h) (Or.inl ⟨by rfl, ?_⟩) (by assumption) ?_
  rotate_left
  · intro w hSw
    have k := conv_bs (Rd.below r8 hSw) c8
    rw [HS2.out] at k
    clear hSw
    first | (go_simp; done) | (go_simp; with_reducible rfl)
  try simp only [Act.put, List.getElem_toArray, List.getElem_cons_zero, List.getElem_cons_succ, List.setIfInBounds_toArray, List.set_cons_zero, List.set_cons_succ]
  have hX8 := hX7.trans (hb8.mono hX7.size)
  clear r8 hb8 hSw7
  refine wpAnyH_take (i := 11) (v := ?_) rfl (by kernel_rfl) (by kernel_rfl) (by kernel_rfl) (fun _ _ _ h => h) (Or.inl ⟨by rfl, ?_⟩) (by assumption) ?_
  rotate_left
  · (intro w hSw; clear hSw; first | (go_simp; done) | (go_simp; with_reducible rfl) | (go_simp; refine if_neg ?_; omega))
  try simp only [Act.put, List.getElem_toArray, List.getElem_cons_zero, List.getElem_cons_succ, List.setIfInBounds_toArray, List.set_cons_zero, List.set_cons_succ]
  refine wpAnyH_take (i := 12) (v := .bool true) rfl (by kernel_rfl) (by kernel_rfl) (by kernel_rfl) (fun _ _ _ h => h) (Or.inl ⟨by rfl, ?_⟩) (by assumption) ?_
  · (intro w hSw; clear hSw; first | (go_simp; done) | (go_simp; with_reducible rfl) | (go_simp; rw [IntKind.wrap_i64]; omega) | (go_simp; simp only [IntKind.wrap_i64, wrap64]; omega) | (go_simp; exact (Int.emod_emod_of_dvd _ (by decide))) | (go_simp; symm; go_num; done))
  try simp only [Act.put, List.getElem_toArray, List.getElem_cons_zero, List.getElem_cons_succ, List.setIfInBounds_toArray, List.set_cons_zero, List.set_cons_succ]
  refine wpAnyH_take (i := 13) (v := .bool true) rfl (by kernel_rfl) (by kernel_rfl) (by kernel_rfl) (fun _ _ _ h => h) (Or.inl ⟨by rfl, ?_⟩) (by assumption) ?_
  · (intro w hSw; clear hSw; first | (go_simp; done) | (go_simp; with_reducible rfl) | (go_simp; rw [IntKind.wrap_i64]; omega) | (go_simp; simp only [IntKind.wrap_i64, wrap64]; omega) | (go_simp; exact (Int.emod_emod_of_dvd _ (by decide))) | (go_simp; symm; go_num; done))
  try simp only [Act.put, List.getElem_toArray, List.getElem_cons_zero, List.getElem_cons_succ, List.setIfInBounds_toArray, List.set_cons_zero, List.set_cons_succ]
  refine wpAnyH_take (i := 14) (v := ?_) rfl (by kernel_rfl) (by kernel_rfl) (by kernel_rfl) (fun _ _ _ h => h) (Or.inl ⟨by rfl, ?_⟩) (by assumption) ?_
  rotate_left
  · (intro w hSw; clear hSw; first | (go_simp; done) | (go_simp; with_reducible rfl) | (go_simp; refine if_neg ?_; omega))
  try simp only [Act.put, List.getElem_toArray, List.getElem_cons_zero, List.getElem_cons_succ, List.setIfInBounds_toArray, List.set_cons_zero, List.set_cons_succ]
  refine wpAnyH_take (i := 15) (v := .bool true) rfl (by kernel_rfl) (by kernel_rfl) (by kernel_rfl) (fun _ _ _ h => h) (Or.inl ⟨by rfl, ?_⟩) (by assumption) ?_
  · (intro w hSw; clear hSw; first | (go_simp; done) | (go_simp; with_reducible rfl) | (go_simp; rw [IntKind.wrap_i64]; omega) | (go_simp; simp only [IntKind.wrap_i64, wrap64]; omega) | (go_simp; exact (Int.emod_emod_of_dvd _ (by decide))) | (go_simp; symm; go_num; done))
  try simp only [Act.put, List.getElem_toArray, List.getElem_cons_zero, List.getElem_cons_succ, List.setIfInBounds_toArray, List.set_cons_zero, List.set_cons_succ]
  refine wpAnyH_take (i := 16) (v := .bool true) rfl (by kernel_rfl) (by kernel_rfl) (by kernel_rfl) (fun _ _ _ h => h) (Or.inl ⟨by rfl, ?_⟩) (by assumption) ?_
  · (intro w hSw; clear hSw; first | (go_simp; done) | (go_simp; with_reducible rfl) | (go_simp; rw [IntKind.wrap_i64]; omega) | (go_simp; simp only [IntKind.wrap_i64, wrap64]; omega) | (go_simp; exact (Int.emod_emod_of_dvd _ (by decide))) | (go_simp; symm; go_num; done))
  try simp only [Act.put, List.getElem_toArray, List.getElem_cons_zero, List.getElem_cons_succ, List.setIfInBounds_toArray, List.set_cons_zero, List.set_cons_succ]
  refine wpAnyH_take (i := 17) (v := ?_) rfl (by kernel_rfl) (by kernel_rfl) (by kernel_rfl) (fun _ _ _ h => h) (Or.inl ⟨by rfl, ?_⟩) (by assumption) ?_
  rotate_left
  · (intro w hSw; clear hSw; first | (go_simp; done) | (go_simp; with_reducible rfl) | (go_simp; refine if_neg ?_; omega))
  try simp only [Act.put, List.getElem_toArray, List.getElem_cons_zero, List.getElem_cons_succ, List.setIfInBounds_toArray, List.set_cons_zero, List.set_cons_succ]
  refine wpAnyH_take (i := 18) (v := ?_) rfl (by kernel_rfl) (by kernel_rfl) (by kernel_rfl) (fun _ _ _ h => h) (Or.inl ⟨by rfl, ?_⟩) (by assumption) ?_
  rotate_left
  · (intro w hSw; clear hSw; first | (go_simp; done) | (go_simp; with_reducible rfl) | (go_simp; refine if_neg ?_; omega))
  try simp only [Act.put, List.getElem_toArray, List.getElem_cons_zero, List.getElem_cons_succ, List.setIfInBounds_toArray, List.set_cons_zero, List.set_cons_succ]
  refine wpAnyH_take (i := 19) (v := ?_) rfl (by kernel_rfl) (by kernel_rfl) (by kernel_rfl) (fun _ _ _ h => h) (Or.inl ⟨by rfl, ?_⟩) (by assumption) ?_
  rotate_left
  · (intro w hSw; clear hSw; first | (go_simp; done) | (go_simp; with_reducible rfl) | (go_simp; refine if_neg ?_; omega))
  try simp only [Act.put, List.getElem_toArray, List.getElem_cons_zero, List.getElem_cons_succ, List.setIfInBounds_toArray, List.set_cons_zero, List.set_cons_succ]
  refine wpAnyH_take (i := 20) (v := ?_) rfl (by kernel_rfl) (by kernel_rfl) (by kernel_rfl) (fun _ _ _ h => h) (Or.inl ⟨by rfl, ?_⟩) (by assumption) ?_
  rotate_left
  · (intro w hSw; clear hSw; first | (go_simp; done) | (go_simp; with_reducible rfl) | (go_simp; refine if_neg ?_; omega))
  try simp only [Act.put, List.getElem_toArray, List.getElem_cons_zero, List.getElem_cons_succ, List.setIfInBounds_toArray, List.set_cons_zero, List.set_cons_succ]
  refine wpAnyH_take (i := 21) (v := .bool true) rfl (by kernel_rfl) (by kernel_rfl) (by kernel_rfl) (fun _ _ _ h => h) (Or.inl ⟨by rfl, ?_⟩) (by assumption) ?_
  · (intro w hSw; clear hSw; first | (go_simp; done) | (go_simp; with_reducible rfl) | (go_simp; rw [IntKind.wrap_i64]; omega) | (go_simp; simp only [IntKind.wrap_i64, wrap64]; omega) | (go_simp; exact (Int.emod_emod_of_dvd _ (by decide))) | (go_simp; symm; go_num; done))
  try simp only [Act.put, List.getElem_toArray, List.getElem_cons_zero, List.getElem_cons_succ, List.setIfInBounds_toArray, List.set_cons_zero, List.set_cons_succ]
  refine wpAnyH_take (i := 22) (v := .bool true) rfl (by kernel_rfl) (by kernel_rfl) (by kernel_rfl) (fun _ _ _ h => h) (Or.inl ⟨by rfl, ?_⟩) (by assumption) ?_
  · (intro w hSw; clear hSw; first | (go_simp; done) | (go_simp; with_reducible rfl) | (go_simp; rw [IntKind.wrap_i64]; omega) | (go_simp; simp only [IntKind.wrap_i64, wrap64]; omega) | (go_simp; exact (Int.emod_emod_of_dvd _ (by decide))) | (go_simp; symm; go_num; done))
  try simp only [Act.put, List.getElem_toArray, List.getElem_cons_zero, List.getElem_cons_succ, List.setIfInBounds_toArray, List.set_cons_zero, List.set_cons_succ]
  refine wpAnyH_take (i := 23) (v := .bool true) rfl (by kernel_rfl) (by kernel_rfl) (by kernel_rfl) (fun _ _ _ h => h) (Or.inl ⟨by rfl, ?_⟩) (by assumption) ?_
  · (intro w hSw; clear hSw; first | (go_simp; done) | (go_simp; with_reducible rfl) | (go_simp; rw [IntKind.wrap_i64]; omega) | (go_simp; simp only [IntKind.wrap_i64, wrap64]; omega) | (go_simp; exact (Int.emod_emod_of_dvd _ (by decide))) | (go_simp; symm; go_num; done))
  try simp only [Act.put, List.getElem_toArray, List.getElem_cons_zero, List.getElem_cons_succ, List.setIfInBounds_toArray, List.set_cons_zero, List.set_cons_succ]
  refine wpAnyH_take (i := 24) (v := ?_) rfl (by kernel_rfl) (by kernel_rfl) (by kernel_rfl) (fun _ _ _ h => h) (Or.inl ⟨by rfl, ?_⟩) (by assumption) ?_
  rotate_left
  · (intro w hSw; clear hSw; first | (go_simp; done) | (go_simp; with_reducible rfl) | (go_simp; refine if_neg ?_; omega))
  try simp only [Act.put, List.getElem_toArray, List.getElem_cons_zero, List.getElem_cons_succ, List.setIfInBounds_toArray, List.set_cons_zero, List.set_cons_succ]
  refine wpAnyH_take (i := 26) (v := ?_) rfl (by kernel_rfl) (by kernel_rfl) (by kernel_rfl) (fun _ _ _ h => h) (Or.inl ⟨by rfl, ?_⟩) (by assumption) ?_
  rotate_left
  · (intro w hSw; clear hSw; first | (go_simp; done) | (go_simp; with_reducible rfl) | (go_simp; refine if_neg ?_; omega))
  try simp only [Act.put, List.getElem_toArray, List.getElem_cons_zero, List.getElem_cons_succ, List.setIfInBounds_toArray, List.set_cons_zero, List.set_cons_succ]
  refine wpAnyH_take (i := 27) (v := ?_) rfl (by kernel_rfl) (by kernel_rfl) (by kernel_rfl) (fun _ _ _ h => h) (Or.inl ⟨by rfl, ?_⟩) (by assumption) ?_
  rotate_left
  · (intro w hSw; clear hSw; first | (go_simp; done) | (go_simp; with_reducible rfl) | (go_simp; refine if_neg ?_; omega))
  try simp only [Act.put, List.getElem_toArray, List.getElem_cons_zero, List.getElem_cons_succ, List.setIfInBounds_toArray, List.set_cons_zero, List.set_cons_succ]
  refine wpAnyH_take (i := 28) (v := ?_) rfl (by kernel_rfl) (by kernel_rfl) (by kernel_rfl) (fun _ _ _ h => h) (Or.inl ⟨by rfl, ?_⟩) (by assumption) ?_
  rotate_left
  · (intro w hSw; clear hSw; first | (go_simp; done) | (go_simp; with_reducible rfl) | (go_simp; refine if_neg ?_; omega))
  try simp only [Act.put, List.getElem_toArray, List.getElem_cons_zero, List.getElem_cons_succ, List.setIfInBounds_toArray, List.set_cons_zero, List.set_cons_succ]
  refine wpAnyH_take (i := 31) (v := ?_) rfl (by kernel_rfl) (by kernel_rfl) (by kernel_rfl) (fun _ _ _ h => h) (Or.inl ⟨by rfl, ?_⟩) (by assumption) ?_
  rotate_left
  · (intro w hSw; clear hSw; first | (go_simp; done) | (go_simp; with_reducible rfl) | (go_simp; refine if_neg ?_; omega))
  try simp only [Act.put, List.getElem_toArray, List.getElem_cons_zero, List.getElem_cons_succ, List.setIfInBounds_toArray, List.set_cons_zero, List.set_cons_succ]
  refine wpAnyH_take (i := 32) (v := ?_) rfl (by kernel_rfl) (by kernel_rfl) (by kernel_rfl) (fun _ _ _ h => h) (Or.inl ⟨by rfl, ?_⟩) (by assumption) ?_
  rotate_left
  · (intro w hSw; clear hSw; first | (go_simp; done) | (go_simp; with_reducible rfl) | (go_simp; refine if_neg ?_; omega))
  try simp only [Act.put, List.getElem_toArray, List.getElem_cons_zero, List.getElem_cons_succ, List.setIfInBounds_toArray, List.set_cons_zero, List.set_cons_succ]
  refine wpAnyH_take (i := 33) (v := ?_) rfl (by kernel_rfl) (by kernel_rfl) (by kernel_rfl) (fun _ _ _ h => h) (Or.inl ⟨by rfl, ?_⟩) (by assumption) ?_
  rotate_left
  · (intro w hSw; clear hSw; first | (go_simp; done) | (go_simp; with_reducible rfl) | (go_simp; refine if_neg ?_; omega))
  try simp only [Act.put, List.getElem_toArray, List.getElem_cons_zero, List.getElem_cons_succ, List.setIfInBounds_toArray, List.set_cons_zero, List.set_cons_succ]
  refine wpAnyH_ready (rs := [25]) (by kernel_rfl) (by simp) ?_
  refine AllReadyH.cons rfl (fun K hK => ?_) AllReadyH.nil
  go_simp
  refine (of_any a w8 ha6).mono ?_
  rintro e w9 ⟨v9, rfl, ho9, hb9⟩
  obtain ⟨A9, c9, rfl, _, r9⟩ := rd_of_own ho9
  clear ho9
  go_wp2_with fail
  refine hK.out _ _ hb9 (fun _ => ?_)
  refine wpAnyH_weaken (S' := fun w' => Below w9.heap.size w9 w') (fun w' h => (hb9).trans (h.mono (hb9).size)) ?_
  have hSw9 : (fun w' => Below w9.heap.size w9 w') w9 := Below.refl _ _
  clear hK K
  have hX9 := hX8.trans (hb9.mono hX8.size)
  clear hb9 hSw8
  refine wpAnyH_ready (rs := [29]) (by kernel_rfl) (by simp) ?_
  refine AllReadyH.cons rfl (fun K hK => ?_) AllReadyH.nil
  go_simp
  refine (of_any s w9 hab6).mono ?_
  rintro e w10 ⟨v10, rfl, ho10, hb10⟩
  obtain ⟨A10, c10, rfl, _, r10⟩ := rd_of_own ho10
  clear ho10
  go_wp2_with fail
  refine hK.out _ _ hb10 (fun _ => ?_)
  refine wpAnyH_weaken (S' := fun w' => Below w10.heap.size w10 w') (fun w' h => (hb10).trans (h.mono (hb10).size)) ?_
  have hSw10 : (fun w' => Below w10.heap.size w10 w') w10 := Below.refl _ _
  clear hK K
  have hX10 := hX9.trans (hb10.mono hX9.size)
  have r910 := Rd.below r9 hb10
  clear hb10 hSw9 r9
  refine wpAnyH_ready (rs := [30]) (by kernel_rfl) (by simp) ?_
  refine AllReadyH.cons rfl (fun K hK => ?_) AllReadyH.nil
  go_simp
  refine (HCM.out _ _ _ _ _ (by exact r910) (by exact r10)).mono ?_
  rintro e w11 ⟨rfl, hd11⟩
  have hb11 := hd11.below w10.heap.size
  clear hd11
  go_wp2_with fail
  refine hK.out _ _ hb11 (fun _ => ?_)
  refine wpAnyH_weaken (S' := fun w' => Below w11.heap.size w11 w') (fun w' h => (hb11).trans (h.mono (hb11).size)) ?_
  have hSw11 : (fun w' => Below w11.heap.size w11 w') w11 := Below.refl _ _
  clear hK K
  have hX11 := hX10.trans (hb11.mono hX10.size)
  clear hb11 hSw10 r910 r10
  refine wpAnyH_take (i := 34) (v := .bool true) rfl (by kernel_rfl) (by kernel_rfl) (by kernel_rfl) (fun _ _ _ h => h) (Or.inl ⟨by rfl, ?_⟩) (by assumption) ?_
  · (intro w hSw; clear hSw; first | (go_simp; done) | (go_simp; with_reducible rfl) | (go_simp; rw [IntKind.wrap_i64]; omega) | (go_simp; simp only [IntKind.wrap_i64, wrap64]; omega) | (go_simp; exact (Int.emod_emod_of_dvd _ (by decide))) | (go_simp; symm; go_num; done))
  try simp only [Act.put, List.getElem_toArray, List.getElem_cons_zero, List.getElem_cons_succ, List.setIfInBounds_toArray, List.set_cons_zero, List.set_cons_succ]
  refine wpAnyH_take (i := 35) (v := .bool true) rfl (by kernel_rfl) (by kernel_rfl) (by kernel_rfl) (fun _ _ _ h => h) (Or.inl ⟨by rfl, ?_⟩) (by assumption) ?_
  · (intro w hSw; clear hSw; first | (go_simp; done) | (go_simp; with_reducible rfl) | (go_simp; rw [IntKind.wrap_i64]; omega) | (go_simp; simp only [IntKind.wrap_i64, wrap64]; omega) | (go_simp; exact (Int.emod_emod_of_dvd _ (by decide))) | (go_simp; symm; go_num; done))
  try simp only [Act.put, List.getElem_toArray, List.getElem_cons_zero, List.getElem_cons_succ, List.setIfInBounds_toArray, List.set_cons_zero, List.set_cons_succ]
  refine wpAnyH_take (i := 36) (v := ?_) rfl (by kernel_rfl) (by kernel_rfl) (by kernel_rfl) (fun _ _ _ h => h) (Or.inl ⟨by rfl, ?_⟩) (by assumption) ?_
  rotate_left
  · (intro w hSw; clear hSw; first | (go_simp; done) | (go_simp; with_reducible rfl) | (go_simp; refine if_neg ?_; omega))
  try simp only [Act.put, List.getElem_toArray, List.getElem_cons_zero, List.getElem_cons_succ, List.setIfInBounds_toArray, List.set_cons_zero, List.set_cons_succ]
  refine wpAnyH_done (by kernel_rfl) ?_ _
  go_wp2
  go_ret
  exact ⟨by simp, hX11.os, hX11.tape, hX11.output, hX11.size, hX11.block⟩

end Go.Proofs.Ytaamkdejediccaa
