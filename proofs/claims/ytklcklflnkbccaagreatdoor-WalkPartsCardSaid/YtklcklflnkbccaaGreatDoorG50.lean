import Derived.Test.YtklcklflnkbccaaGreatDoorG25
/- walk.Range: its row lies in a new block. -/
namespace Go.Proofs.YtklcklflnkbccaaGreatDoor
open Go.RowKit

section
variable {w w' : World} {x d p L : Nat} {s : St} {F : Nat → Prop}

/-- As RangePost; the row lies in a block that is new. -/
def RangeNew (r : Option (List It)) (w : World) (e : Ending) (w' : World) : Prop := Below w.heap.size w w' ∧ match r with
    | none => e = .returned (.tuple #[.slice none 0 0, .int .i64 5])
    | some l => ∃ A c, e = .returned (.tuple #[.slice A l.length c, .int .i64 0]) ∧ l.length ≤ c ∧ ItR w' A l ∧ ∀ a, A = some a → w.heap.size ≤ a.block

set_option maxHeartbeats 4000000 in
set_option maxRecDepth 100000 in
theorem range_new (h : Ix w x d p L s F) (from_ to : ByteArray) (n : Int) : Calls Tryz.prog 12 #[.pointer (some ⟨x, 0, none⟩), .string from_, .string to, .int .i64 n] w (RangeNew ((allK s).map fun l => (keepG (rangeG from_ to) l).take n.toNat) w) := by
  obtain ⟨w2, hw2⟩ : ∃ w2, w2 = (w.alloc (.cells #[.string from_] 9)).alloc (.cells #[.string to] 9) := ⟨_, rfl⟩
  have hb2 : Below w.heap.size w w2 := by
    have h1 : Below w.heap.size w (w.alloc (.cells #[.string from_] 9)) := (Below.refl _ _).alloc (Nat.le_refl _) _
    rw [hw2]; exact h1.alloc h1.size _
  have B2 : Blk w2 (w.heap.size + 1) 9 [.string to] := hw2 ▸ blk_two w _ _ _
  have B1 : Blk w2 w.heap.size 9 [.string from_] := by
    rw [hw2]
    exact (heap_alloc_old _ _ (by simp)).trans (heap_alloc_new _ _)
  have HAl := Lib.hid (allK_index (h.below hb2))
  have HB2 := Lib.hid hb2
  have HC1 := Lib.hid B1
  have HC2 := Lib.hid B2
  have HW2 := Lib.hid hw2
  clear h hb2 B1 B2 hw2
  go_enter Tryz.func12, Tryz.ntmps12
  go_wp2_with fail
  rw [← HW2.out]
  refine HAl.out.mono ?_
  rintro e w3 ⟨hb3, hp3⟩
  have HB3 := Lib.hid (HB2.out.trans (hb3.mono HB2.out.size))
  cases hk : allK s with
  | none =>
    rw [hk] at hp3
    replace hp3 : e = .returned (.tuple #[.slice none 0 0, .int .i64 5]) := hp3
    subst hp3
    have HKs := Lib.hid hk
    clear hb3 HAl hk
    go_wp2_with fail
    go_ret2
    refine ⟨HB3.out, ?_⟩
    rw [HKs.out]
    rfl
  | some l =>
    rw [hk] at hp3
    obtain ⟨A, c, rfl, hc, hr, hl⟩ := hp3
    have HKp := Lib.hid (keep_range from_ to w.heap.size (w.heap.size + 1) l A c w3 ((HC1.out.below hb3 HC1.out.lt).cell 0) ((HC2.out.below hb3 HC2.out.lt).cell 0) (by omega) hr)
    have HKs := Lib.hid hk
    clear hb3 HAl hk hr
    go_wp2_with fail
    refine HKp.out.mono ?_
    rintro e w4 ⟨v4, rfl, ho4, hb4⟩
    obtain ⟨A4, c4, rfl, hc4, hr4⟩ := own_itr ho4
    have HB4 := Lib.hid (HB3.out.trans (hb4.mono HB3.out.size))
    have HR4 := Lib.hid hr4
    have HN4 : Hid (∀ a, A4 = some a → w.heap.size ≤ a.block) := Lib.hid (fun a e => by subst e; exact Nat.le_trans HB3.out.size (ho4.lt a.block rfl).1)
    have HPo : Hid (∀ A' m, A' = A4 → m = (((keepG (rangeG from_ to) l).take n.toNat).length) → RangeNew ((allK s).map fun l => (keepG (rangeG from_ to) l).take n.toNat) w (.returned (.tuple #[.slice A' m c4, .int .i64 0])) w4) := Lib.hid (fun A' m e1 e2 => by
      subst e1 e2
      refine ⟨HB4.out, ?_⟩
      rw [HKs.out]
      exact ⟨_, _, rfl, by simp; omega, HR4.out.take _, HN4.out⟩)
    obtain ⟨m, hm⟩ : ∃ m, m = (keepG (rangeG from_ to) l).length := ⟨_, rfl⟩
    rw [← hm] at hc4 ⊢
    have HMm := Lib.hid hm
    clear ho4 hb4 hr4 HKp hm
    go_wp2_with fail
    all_goals (go_ret2)
    all_goals (refine HPo.out _ _ rfl ?_)
    all_goals (rw [List.length_take, ← HMm.out])
    all_goals (clear HPo HKs HMm HR4 HN4)
    all_goals (by_cases hq : n < 0)
    all_goals first
      | omega
      | (simp only [hq, if_true, if_false] at *; omega)
      | (simp_all; omega)
end

end Go.Proofs.YtklcklflnkbccaaGreatDoor
