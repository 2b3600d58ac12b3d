/- Walks: slices.Delete of one value, at bytes and at words. -/
import Derived.Test.YtaamkdejediccaaSlcI
namespace Go.Proofs.Ytaamkdejediccaa
open Go.RowKit

set_option maxHeartbeats 4000000 in
set_option maxRecDepth 100000 in
/-- slices.Delete of one value. -/
theorem deleteB_walk (g n c i : Nat) (xs : List Value) (w : World) (base : Nat) (hown : w.ownsRow base 5 1 (.slice (some ⟨g, 0, none⟩) n c) n xs) (hi : i < n) (hn : n ≤ 1000000) (hc : c ≤ 9223372036854775807) (h1c : ∀ v ∈ xs, v.oneCell' = true) :
    Calls Try.prog 57 #[.slice (some ⟨g, 0, none⟩) n c, .int .i64 i, .int .i64 ((i : Int) + 1)] w fun e w' =>
      e = .returned (.slice (some ⟨g, 0, none⟩) (n - 1) c) ∧ w' = (w.drew.setCells g i (xs.drop (i + 1))).setCells g (n - 1) [.int .u8 0] := by
  have hcl : xs.length = n := by simpa using hown.1
  have hcs : ∀ j v, xs[j]? = some v → w.cell? ⟨g, j, none⟩ = some v := fun j v h => by
    rw [hown.cellAt j (by have := (List.getElem?_eq_some_iff.1 h).1; omega)]; exact h
  have hnc : n ≤ c := (rd_own hown).1
  have hblk : ∃ cur : Array Value, w.heap[g]? = some (.cells cur 5 (0, 0)) ∧ cur.size = c := by
    rcases hown.2 with ⟨h2, _⟩ | ⟨g', cap, cur, hvv, _, hg, _, _, hcs, _⟩
    · cases h2
    · simp only [Value.slice.injEq, Option.some.injEq, Addr.mk.injEq, and_true, true_and] at hvv
      obtain ⟨rfl, rfl⟩ := hvv
      exact ⟨cur, hg, by omega⟩
  obtain ⟨cur, hgc, hcsz⟩ := hblk
  have hsp : ∀ j, j < n → (w.cell? ⟨g, j, none⟩).isSome = true := fun j hj => by
    rw [cell_of_row w g j _ 5 (0, 0) hgc, Array.getElem?_eq_getElem (by omega)]; rfl
  have hfz : ∀ j, w.frozen? ⟨g, j, none⟩ = false := fun j => by simp [World.frozen?, hgc]
  obtain ⟨i0, hi0, hz0, hzs, hzb⟩ := info_parts Try.bytesTy.hi
  obtain ⟨news, hnews⟩ : ∃ news, news = xs.drop (i + 1) := ⟨_, rfl⟩
  have hlen : news.length = n - (i + 1) := by rw [hnews, List.length_drop, hcl]
  obtain ⟨A, hA, hsrc⟩ : ∃ A : Addr, (if c = i + 1 then some (⟨g, 0, none⟩ : Addr) else some ⟨g, i + 1, none⟩) = some A ∧ Hid (∀ t u, news[t]? = some u → w.drew.cell? (A.add t) = some u) := by
    by_cases h : c = i + 1
    · refine ⟨⟨g, 0, none⟩, by simp [h], fun t u hu => ?_⟩
      rw [List.length_eq_zero_iff.1 (show news.length = 0 by omega)] at hu
      simp at hu
    · refine ⟨⟨g, i + 1, none⟩, by simp [h], fun t u hu => ?_⟩
      rw [Addr.add_lit]
      refine hcs (i + 1 + t) u ?_
      rw [hnews, List.getElem?_drop] at hu
      exact hu
  have s1 : Hid (news.length = (n - (i + 1)) * 1) := by rw [Nat.mul_one]; exact hlen
  have s2 : Hid (∀ u ∈ news, u.oneCell' = true) := by
    intro u hu
    rw [hnews] at hu
    exact h1c u (List.mem_of_mem_drop hu)
  have s3 : Hid (∀ t, t < news.length → (w.drew.cell? ⟨g, 0 + i * 1 + t, none⟩).isSome = true ∧ w.drew.frozen? ⟨g, 0 + i * 1 + t, none⟩ = false) := by
    intro t ht
    rw [Nat.mul_one, Nat.zero_add]
    exact ⟨hsp (i + t) (by omega), hfz _⟩
  obtain ⟨W1, hW1⟩ : ∃ W1, W1 = w.drew.setCells g (0 + i * 1) news := ⟨_, rfl⟩
  have hcl1 : ∀ ty, (Builtin.clear_ #[22] ty #[.slice (some ⟨g, i + (n - (i + 1)), none⟩) (n - (i + (n - (i + 1)))) (c - (i + (n - (i + 1))))]).run Try.prog W1 = .ok (.tuple #[]) (W1.setCells g (i + (n - (i + 1))) (List.replicate (n - (i + (n - (i + 1)))) (.int .u8 0))) :=
    fun ty => Lib.run_clear_slice W1 _ _ ty _ Try.underlying22 Try.zeroValue5 rfl rfl g (i + (n - (i + 1))) _ _ (by omega) (fun t ht => by rw [hW1]; exact World.isSome_setCells _ _ _ _ _ (hsp _ (by omega))) (fun t ht => by rw [hW1, World.frozen?_setCells]; exact hfz _)
  have hW : Hid (W1 = w.drew.setCells g (0 + i * 1) news) := hW1
  have hN : Hid (news = xs.drop (i + 1)) := hnews
  have hL : Hid (i + (n - (i + 1)) = n - 1) := by show i + (n - (i + 1)) = n - 1; omega
  have hL1 : Hid (n - (i + (n - (i + 1))) = 1) := by show n - (i + (n - (i + 1))) = 1; omega
  have hic : i ≤ c := by omega
  have hjc : i + 1 ≤ c := by omega
  have hw1 : IntKind.i64.wrap ((i : Int) + 1) = (i : Int) + 1 := by rw [IntKind.wrap_i64]; omega
  have hb1 : (0 : Int) ≤ (i : Int) + 1 := by omega
  have htn : ((i : Int) + 1).toNat = i + 1 := by omega
  have hz2 : ((i : Int) == (i : Int) + 1) = false := by rw [beq_eq_false_iff_ne]; omega
  have hb3 : (i : Int) + 1 ≤ (n : Int) := by omega
  have hb4 : (i : Int) ≤ (i : Int) + 1 := by omega
  have hb5 : (n : Int) ≤ (c : Int) := by omega
  clear hW1 hown hcs hsp hfz hgc hcsz hnews hlen h1c hcl
  go_enter Try.func57, Try.ntmps57
  go_wp2_with fail
  go_region_law (refine step_append_room rfl (.tmp 22) (.tmp 25) 22 rfl 5 i0 1 Try.underlying22 hi0 hzs g 0 i c (by simp [Act.eval, Act.put]) A (n - (i + 1)) (c - (i + 1)) news (by simp [Act.eval, Act.put]) s1.out hsrc.out s2.out (by omega) s3.out ?_; rw [← hW.out])
  go_wp2
  go_ret
  refine ⟨by rw [← hL.out]; rfl, ?_⟩
  rw [← hL.out, ← hN.out, hW.out, hL1.out, Nat.zero_add, Nat.mul_one]
  rfl

/-- slices.Delete of one value out of a row of the call's own. -/
theorem deleteB_any (v : Value) (n i : Nat) (xs : List Value) (w : World) (base : Nat) (hown : w.ownsRow base 5 1 v n xs) (hbase : base ≤ w.heap.size) (hi : i < n) (hn : n ≤ 1000000) (h1c : ∀ v ∈ xs, v.oneCell' = true) :
    Calls Try.prog 57 #[v, .int .i64 i, .int .i64 ((i : Int) + 1)] w fun e w' => ∃ v', e = .returned v' ∧ w'.ownsRow base 5 1 v' (n - 1) (delV xs i) ∧ Below base w w' ∧ Kept w w' v.ownBlock := by
  rcases id hown.2 with ⟨rfl, rfl⟩ | ⟨g, cap, cur, rfl, hbg, hg, hnc, hcm, _⟩
  · omega
  · refine (deleteB_walk g n cap i xs w base hown hi hn (by unfold maxLen at hcm; omega) h1c).mono ?_
    rintro e w' ⟨rfl, rfl⟩
    have hk : Kept w ((w.drew.setCells g i (xs.drop (i + 1))).setCells g (n - 1) [.int .u8 0]) (some g) := ((Kept.refl w (some g)).drew.setCells _ _).setCells _ _
    refine ⟨_, rfl, own_unshift (w := w.drew) (show w.drew.ownsRow base 5 1 _ n xs from hown) hi rfl, hk.below hbase ?_ ?_ ?_ (fun g' e => by injection e with e; omega), hk⟩
    · rw [setCells_os, setCells_os]; rfl
    · rw [setCells_tape, setCells_tape]; rfl
    · rw [setCells_output, setCells_output]; rfl

set_option maxHeartbeats 4000000 in
set_option maxRecDepth 100000 in
/-- slices.Delete of one value. -/
theorem deleteW_walk (g n c i : Nat) (xs : List Value) (w : World) (base : Nat) (hown : w.ownsRow base 30 1 (.slice (some ⟨g, 0, none⟩) n c) n xs) (hi : i < n) (hn : n ≤ 1000000) (hc : c ≤ 9223372036854775807) (h1c : ∀ v ∈ xs, v.oneCell' = true) :
    Calls Try.prog 58 #[.slice (some ⟨g, 0, none⟩) n c, .int .i64 i, .int .i64 ((i : Int) + 1)] w fun e w' =>
      e = .returned (.slice (some ⟨g, 0, none⟩) (n - 1) c) ∧ w' = (w.drew.setCells g i (xs.drop (i + 1))).setCells g (n - 1) [.int .u64 0] := by
  have hcl : xs.length = n := by simpa using hown.1
  have hcs : ∀ j v, xs[j]? = some v → w.cell? ⟨g, j, none⟩ = some v := fun j v h => by
    rw [hown.cellAt j (by have := (List.getElem?_eq_some_iff.1 h).1; omega)]; exact h
  have hnc : n ≤ c := (rd_own hown).1
  have hblk : ∃ cur : Array Value, w.heap[g]? = some (.cells cur 30 (0, 0)) ∧ cur.size = c := by
    rcases hown.2 with ⟨h2, _⟩ | ⟨g', cap, cur, hvv, _, hg, _, _, hcs, _⟩
    · cases h2
    · simp only [Value.slice.injEq, Option.some.injEq, Addr.mk.injEq, and_true, true_and] at hvv
      obtain ⟨rfl, rfl⟩ := hvv
      exact ⟨cur, hg, by omega⟩
  obtain ⟨cur, hgc, hcsz⟩ := hblk
  have hsp : ∀ j, j < n → (w.cell? ⟨g, j, none⟩).isSome = true := fun j hj => by
    rw [cell_of_row w g j _ 30 (0, 0) hgc, Array.getElem?_eq_getElem (by omega)]; rfl
  have hfz : ∀ j, w.frozen? ⟨g, j, none⟩ = false := fun j => by simp [World.frozen?, hgc]
  obtain ⟨i0, hi0, hz0, hzs, hzb⟩ := info_parts Try.wordsTy.hi
  obtain ⟨news, hnews⟩ : ∃ news, news = xs.drop (i + 1) := ⟨_, rfl⟩
  have hlen : news.length = n - (i + 1) := by rw [hnews, List.length_drop, hcl]
  obtain ⟨A, hA, hsrc⟩ : ∃ A : Addr, (if c = i + 1 then some (⟨g, 0, none⟩ : Addr) else some ⟨g, i + 1, none⟩) = some A ∧ Hid (∀ t u, news[t]? = some u → w.drew.cell? (A.add t) = some u) := by
    by_cases h : c = i + 1
    · refine ⟨⟨g, 0, none⟩, by simp [h], fun t u hu => ?_⟩
      rw [List.length_eq_zero_iff.1 (show news.length = 0 by omega)] at hu
      simp at hu
    · refine ⟨⟨g, i + 1, none⟩, by simp [h], fun t u hu => ?_⟩
      rw [Addr.add_lit]
      refine hcs (i + 1 + t) u ?_
      rw [hnews, List.getElem?_drop] at hu
      exact hu
  have s1 : Hid (news.length = (n - (i + 1)) * 1) := by rw [Nat.mul_one]; exact hlen
  have s2 : Hid (∀ u ∈ news, u.oneCell' = true) := by
    intro u hu
    rw [hnews] at hu
    exact h1c u (List.mem_of_mem_drop hu)
  have s3 : Hid (∀ t, t < news.length → (w.drew.cell? ⟨g, 0 + i * 1 + t, none⟩).isSome = true ∧ w.drew.frozen? ⟨g, 0 + i * 1 + t, none⟩ = false) := by
    intro t ht
    rw [Nat.mul_one, Nat.zero_add]
    exact ⟨hsp (i + t) (by omega), hfz _⟩
  obtain ⟨W1, hW1⟩ : ∃ W1, W1 = w.drew.setCells g (0 + i * 1) news := ⟨_, rfl⟩
  have hcl1 : ∀ ty, (Builtin.clear_ #[38] ty #[.slice (some ⟨g, i + (n - (i + 1)), none⟩) (n - (i + (n - (i + 1)))) (c - (i + (n - (i + 1))))]).run Try.prog W1 = .ok (.tuple #[]) (W1.setCells g (i + (n - (i + 1))) (List.replicate (n - (i + (n - (i + 1)))) (.int .u64 0))) :=
    fun ty => Lib.run_clear_slice W1 _ _ ty _ Try.underlying38 Try.zeroValue30 rfl rfl g (i + (n - (i + 1))) _ _ (by omega) (fun t ht => by rw [hW1]; exact World.isSome_setCells _ _ _ _ _ (hsp _ (by omega))) (fun t ht => by rw [hW1, World.frozen?_setCells]; exact hfz _)
  have hW : Hid (W1 = w.drew.setCells g (0 + i * 1) news) := hW1
  have hN : Hid (news = xs.drop (i + 1)) := hnews
  have hL : Hid (i + (n - (i + 1)) = n - 1) := by show i + (n - (i + 1)) = n - 1; omega
  have hL1 : Hid (n - (i + (n - (i + 1))) = 1) := by show n - (i + (n - (i + 1))) = 1; omega
  have hic : i ≤ c := by omega
  have hjc : i + 1 ≤ c := by omega
  have hw1 : IntKind.i64.wrap ((i : Int) + 1) = (i : Int) + 1 := by rw [IntKind.wrap_i64]; omega
  have hb1 : (0 : Int) ≤ (i : Int) + 1 := by omega
  have htn : ((i : Int) + 1).toNat = i + 1 := by omega
  have hz2 : ((i : Int) == (i : Int) + 1) = false := by rw [beq_eq_false_iff_ne]; omega
  have hb3 : (i : Int) + 1 ≤ (n : Int) := by omega
  have hb4 : (i : Int) ≤ (i : Int) + 1 := by omega
  have hb5 : (n : Int) ≤ (c : Int) := by omega
  clear hW1 hown hcs hsp hfz hgc hcsz hnews hlen h1c hcl
  go_enter Try.func58, Try.ntmps58
  go_wp2_with fail
  go_region_law (refine step_append_room rfl (.tmp 22) (.tmp 25) 38 rfl 30 i0 1 Try.underlying38 hi0 hzs g 0 i c (by simp [Act.eval, Act.put]) A (n - (i + 1)) (c - (i + 1)) news (by simp [Act.eval, Act.put]) s1.out hsrc.out s2.out (by omega) s3.out ?_; rw [← hW.out])
  go_wp2
  go_ret
  refine ⟨by rw [← hL.out]; rfl, ?_⟩
  rw [← hL.out, ← hN.out, hW.out, hL1.out, Nat.zero_add, Nat.mul_one]
  rfl

/-- slices.Delete of one value out of a row of the call's own. -/
theorem deleteW_any (v : Value) (n i : Nat) (xs : List Value) (w : World) (base : Nat) (hown : w.ownsRow base 30 1 v n xs) (hbase : base ≤ w.heap.size) (hi : i < n) (hn : n ≤ 1000000) (h1c : ∀ v ∈ xs, v.oneCell' = true) :
    Calls Try.prog 58 #[v, .int .i64 i, .int .i64 ((i : Int) + 1)] w fun e w' => ∃ v', e = .returned v' ∧ w'.ownsRow base 30 1 v' (n - 1) (delV xs i) ∧ Below base w w' ∧ Kept w w' v.ownBlock := by
  rcases id hown.2 with ⟨rfl, rfl⟩ | ⟨g, cap, cur, rfl, hbg, hg, hnc, hcm, _⟩
  · omega
  · refine (deleteW_walk g n cap i xs w base hown hi hn (by unfold maxLen at hcm; omega) h1c).mono ?_
    rintro e w' ⟨rfl, rfl⟩
    have hk : Kept w ((w.drew.setCells g i (xs.drop (i + 1))).setCells g (n - 1) [.int .u64 0]) (some g) := ((Kept.refl w (some g)).drew.setCells _ _).setCells _ _
    refine ⟨_, rfl, own_unshift (w := w.drew) (show w.drew.ownsRow base 30 1 _ n xs from hown) hi rfl, hk.below hbase ?_ ?_ ?_ (fun g' e => by injection e with e; omega), hk⟩
    · rw [setCells_os, setCells_os]; rfl
    · rw [setCells_tape, setCells_tape]; rfl
    · rw [setCells_output, setCells_output]; rfl

end Go.Proofs.Ytaamkdejediccaa
