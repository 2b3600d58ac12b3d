/- slices.Insert of one value into a row of the call's own. -/
import Derived.Test.YtaamkdejediccaaSlcJ
namespace Go.Proofs.Ytaamkdejediccaa
open Go.RowKit

set_option maxHeartbeats 1000000 in
/-- slices.Insert of one value into a row of the call's own. -/
theorem insertB_any (v : Value) (n i vb : Nat) (xs : List Value) (u : Value) (w : World) (base : Nat) (hown : w.ownsRow base 5 1 v n xs) (hbase : base ≤ w.heap.size) (hi : i ≤ n) (hn : n ≤ 1000000) (hvb : v.ownBlock ≠ some vb) (hv : Blk w vb 5 [u])
    (h1c : ∀ v ∈ xs, v.oneCell' = true) (h1v : u.oneCell' = true) :
    Calls Try.prog 55 #[v, .int .i64 i, .slice (some ⟨vb, 0, none⟩) 1 1] w fun e w' => ∃ v', e = .returned v' ∧ w'.ownsRow base 5 1 v' (n + 1) (insV xs i u) ∧ Below base w w' ∧ Kept w w' v.ownBlock := by
  have hcl : xs.length = n := by simpa using hown.1
  by_cases hin : i = n
  · subst hin
    have hrd : Rd w (some ⟨vb, 0, none⟩) 1 [u] := hv.rd
    have happ := append_rd2 Try.bytesTy 22 hown hrd (fun y hy => by simp at hy; subst hy; exact h1v) (by omega) (by decide) hbase 1
    obtain ⟨v', w', hrun, hown', hb', hk'⟩ := happ
    have HINS : Hid (insV xs i u = xs ++ [u]) := Lib.hid (by unfold insV; rw [List.take_of_length_le (by omega), List.drop_of_length_le (by omega)])
    rcases hown.2 with ⟨rfl, rfl⟩ | ⟨g, cap, cur, rfl, _, _, hnc, hcm, _⟩
    · clear hown hcl
      go_enter Try.func55, Try.ntmps55
      go_wp2_with (at_builtin; refine Lib.wpList_append_run _ rfl _ _ _ _ rfl _ _ rfl rfl _ _ hrun ?_)
      go_ret
      exact ⟨v', rfl, by rw [HINS.out]; exact hown', hb', hk'⟩
    · unfold maxLen at hcm
      clear hown hcl
      go_enter Try.func55, Try.ntmps55
      go_wp2_with (at_builtin; refine Lib.wpList_append_run _ rfl _ _ _ _ rfl _ _ rfl rfl _ _ hrun ?_)
      all_goals
        go_ret
        exact ⟨v', rfl, by rw [HINS.out]; exact hown', hb', hk'⟩
  · rcases id hown.2 with ⟨rfl, rfl⟩ | ⟨g, cap, cur, rfl, hbg, hg, hnc, hcm, _⟩
    · omega
    · have hgw : g < w.heap.size := (Array.getElem?_eq_some_iff.1 hg).1
      by_cases hroom : n + 1 ≤ cap
      · refine (insertB_shift g n cap i vb xs u w base hown (by omega) hroom (by unfold maxLen at hcm; omega) (fun h => hvb (by rw [h]; rfl)) hv h1c h1v).mono ?_
        rintro e w' ⟨rfl, rfl⟩
        have hk : Kept w ((w.drew.setCells g (i + 1) (xs.drop i)).setCells g i [u]) (some g) := ((Kept.refl w (some g)).drew.setCells _ _).setCells _ _
        refine ⟨_, rfl, own_shift (w := w.drew) (show w.drew.ownsRow base 5 1 _ n xs from hown) (by omega) hroom, hk.below hbase ?_ ?_ ?_ (fun g' e => by injection e with e; omega), hk⟩
        · rw [setCells_os, setCells_os]; rfl
        · rw [setCells_tape, setCells_tape]; rfl
        · rw [setCells_output, setCells_output]; rfl
      · refine (insertB_grow g n cap i vb xs u w base hown (by omega) (by omega) hn hv h1c h1v).mono ?_
        rintro e w' ⟨G, ROW, hG, hGm, hR, hR0, rfl, rfl⟩
        have ho := own_grown (e := 5) (u := u) (zs := xs.drop i) ROW hbase (by omega) (by omega) hGm hR hR0 rfl
        rw [hcl] at ho
        have hk : Kept w ((((w.alloc (.cells ROW 5)).drew.setCells w.heap.size i [u]).drew).setCells w.heap.size (i + 1) (xs.drop i)) none := by
          refine ⟨?_, fun k hk _ => ?_⟩
          · rw [setCells_size, show ∀ W : World, W.drew.heap.size = W.heap.size from fun _ => rfl, setCells_size]; show w.heap.size ≤ (w.heap.push _).size; simp
          · rw [setCells_other _ _ _ _ (by omega), show ∀ W : World, W.drew.heap = W.heap from fun _ => rfl, setCells_other _ _ _ _ (by omega)]
            show (w.heap.push _)[k]? = _
            rw [Array.getElem?_push, if_neg (by omega)]
        refine ⟨_, rfl, ho, hk.below hbase ?_ ?_ ?_ (fun g' e => by cases e), hk.1, fun k hk' _ => hk.2 k hk' (by simp)⟩
        · rw [setCells_os, show ∀ W : World, W.drew.os = W.os from fun _ => rfl, setCells_os]; rfl
        · rw [setCells_tape, show ∀ W : World, W.drew.tape = W.tape from fun _ => rfl, setCells_tape]; rfl
        · rw [setCells_output, show ∀ W : World, W.drew.output = W.output from fun _ => rfl, setCells_output]; rfl

set_option maxHeartbeats 1000000 in
/-- slices.Insert of one value into a row of the call's own. -/
theorem insertW_any (v : Value) (n i vb : Nat) (xs : List Value) (u : Value) (w : World) (base : Nat) (hown : w.ownsRow base 30 1 v n xs) (hbase : base ≤ w.heap.size) (hi : i ≤ n) (hn : n ≤ 1000000) (hvb : v.ownBlock ≠ some vb) (hv : Blk w vb 30 [u])
    (h1c : ∀ v ∈ xs, v.oneCell' = true) (h1v : u.oneCell' = true) :
    Calls Try.prog 56 #[v, .int .i64 i, .slice (some ⟨vb, 0, none⟩) 1 1] w fun e w' => ∃ v', e = .returned v' ∧ w'.ownsRow base 30 1 v' (n + 1) (insV xs i u) ∧ Below base w w' ∧ Kept w w' v.ownBlock := by
  have hcl : xs.length = n := by simpa using hown.1
  by_cases hin : i = n
  · subst hin
    have hrd : Rd w (some ⟨vb, 0, none⟩) 1 [u] := hv.rd
    have happ := append_rd2 Try.wordsTy 38 hown hrd (fun y hy => by simp at hy; subst hy; exact h1v) (by omega) (by decide) hbase 1
    obtain ⟨v', w', hrun, hown', hb', hk'⟩ := happ
    have HINS : Hid (insV xs i u = xs ++ [u]) := Lib.hid (by unfold insV; rw [List.take_of_length_le (by omega), List.drop_of_length_le (by omega)])
    rcases hown.2 with ⟨rfl, rfl⟩ | ⟨g, cap, cur, rfl, _, _, hnc, hcm, _⟩
    · clear hown hcl
      go_enter Try.func56, Try.ntmps56
      go_wp2_with (at_builtin; refine Lib.wpList_append_run _ rfl _ _ _ _ rfl _ _ rfl rfl _ _ hrun ?_)
      go_ret
      exact ⟨v', rfl, by rw [HINS.out]; exact hown', hb', hk'⟩
    · unfold maxLen at hcm
      clear hown hcl
      go_enter Try.func56, Try.ntmps56
      go_wp2_with (at_builtin; refine Lib.wpList_append_run _ rfl _ _ _ _ rfl _ _ rfl rfl _ _ hrun ?_)
      all_goals
        go_ret
        exact ⟨v', rfl, by rw [HINS.out]; exact hown', hb', hk'⟩
  · rcases id hown.2 with ⟨rfl, rfl⟩ | ⟨g, cap, cur, rfl, hbg, hg, hnc, hcm, _⟩
    · omega
    · have hgw : g < w.heap.size := (Array.getElem?_eq_some_iff.1 hg).1
      by_cases hroom : n + 1 ≤ cap
      · refine (insertW_shift g n cap i vb xs u w base hown (by omega) hroom (by unfold maxLen at hcm; omega) (fun h => hvb (by rw [h]; rfl)) hv h1c h1v).mono ?_
        rintro e w' ⟨rfl, rfl⟩
        have hk : Kept w ((w.drew.setCells g (i + 1) (xs.drop i)).setCells g i [u]) (some g) := ((Kept.refl w (some g)).drew.setCells _ _).setCells _ _
        refine ⟨_, rfl, own_shift (w := w.drew) (show w.drew.ownsRow base 30 1 _ n xs from hown) (by omega) hroom, hk.below hbase ?_ ?_ ?_ (fun g' e => by injection e with e; omega), hk⟩
        · rw [setCells_os, setCells_os]; rfl
        · rw [setCells_tape, setCells_tape]; rfl
        · rw [setCells_output, setCells_output]; rfl
      · refine (insertW_grow g n cap i vb xs u w base hown (by omega) (by omega) hn hv h1c h1v).mono ?_
        rintro e w' ⟨G, ROW, hG, hGm, hR, hR0, rfl, rfl⟩
        have ho := own_grown (e := 30) (u := u) (zs := xs.drop i) ROW hbase (by omega) (by omega) hGm hR hR0 rfl
        rw [hcl] at ho
        have hk : Kept w ((((w.alloc (.cells ROW 30)).drew.setCells w.heap.size i [u]).drew).setCells w.heap.size (i + 1) (xs.drop i)) none := by
          refine ⟨?_, fun k hk _ => ?_⟩
          · rw [setCells_size, show ∀ W : World, W.drew.heap.size = W.heap.size from fun _ => rfl, setCells_size]; show w.heap.size ≤ (w.heap.push _).size; simp
          · rw [setCells_other _ _ _ _ (by omega), show ∀ W : World, W.drew.heap = W.heap from fun _ => rfl, setCells_other _ _ _ _ (by omega)]
            show (w.heap.push _)[k]? = _
            rw [Array.getElem?_push, if_neg (by omega)]
        refine ⟨_, rfl, ho, hk.below hbase ?_ ?_ ?_ (fun g' e => by cases e), hk.1, fun k hk' _ => hk.2 k hk' (by simp)⟩
        · rw [setCells_os, show ∀ W : World, W.drew.os = W.os from fun _ => rfl, setCells_os]; rfl
        · rw [setCells_tape, show ∀ W : World, W.drew.tape = W.tape from fun _ => rfl, setCells_tape]; rfl
        · rw [setCells_output, show ∀ W : World, W.drew.output = W.output from fun _ => rfl, setCells_output]; rfl

end Go.Proofs.Ytaamkdejediccaa
