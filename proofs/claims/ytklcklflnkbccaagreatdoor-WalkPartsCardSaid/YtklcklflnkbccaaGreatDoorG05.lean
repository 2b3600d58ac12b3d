import Derived.Deep.AppendLies
import Derived.ArgAppend
import Derived.Test.YtklcklflnkbccaaGreatDoorG01
import Derived.Test.YtklcklflnkbccaaGreatDoorG04
/- Walks of package nvm: Flush. -/
namespace Go.Proofs.YtklcklflnkbccaaGreatDoor
open Go.RowKit

/-- A line's mark is written. -/
theorem DevRep.mark {w : World} {d L : Nat} {ws : Nat → UInt64} {len mark : Nat → Nat} {g : Nat} {hb : Nat → Option Nat} (h : DevRep w d L ws len mark g hb) {i : Nat} (hi : i < L) (m : Nat) (hm : m ≤ len i + 1) :
    DevRep (w.setCell ⟨g, 66 * i + 65, none⟩ (.int .i64 (m : Int))) d L ws len (fun k => if k = i then m else mark k) g hb := by
  have hk : ∀ b, b ≠ g → (w.setCell ⟨g, 66 * i + 65, none⟩ (.int .i64 (m : Int))).heap[b]? = w.heap[b]? := fun b hb' => Below.heap_setCell w ⟨g, 66 * i + 65, none⟩ _ b hb'
  obtain ⟨st, hbx⟩ := h.box
  obtain ⟨cur, hg, hs, h1, h2⟩ := h.blk
  refine ⟨⟨st, (hk d (fun e => h.gd e.symm)).trans hbx⟩, h.gd, ⟨_, setCell_cur _ hg, by rw [Array.size_setIfInBounds]; exact hs, fun i' hi' k hk' => ?_, fun i' hi' => ?_⟩, h.bd, h.inj, fun i' hi' => ?_⟩
  · rw [Array.getElem?_setIfInBounds, if_neg (by omega)]
    exact h1 i' hi' k hk'
  · obtain ⟨A, c, e1, e2, hcc⟩ := h2 i' hi'
    refine ⟨A, c, ?_, ?_, hcc.keep (fun b hb' _ => hk b (h.bd i' hi' b hb').1)⟩
    · rw [Array.getElem?_setIfInBounds, if_neg (by omega)]; exact e1
    · by_cases e : i' = i
      · subst e
        rw [Array.getElem?_setIfInBounds, if_pos rfl, if_pos (by omega), if_pos rfl]
      · rw [Array.getElem?_setIfInBounds, if_neg (by omega), if_neg e]; exact e2
  · show (if i' = i then m else mark i') ≤ len i' + 1
    by_cases e : i' = i
    · rw [if_pos e]; subst e; exact hm
    · rw [if_neg e]; exact h.mrk i' hi'

set_option maxHeartbeats 2000000 in
theorem flush_dev (d L : Nat) (ws : Nat → UInt64) (len mark : Nat → Nat) (g : Nat) (hb : Nat → Option Nat) (off : Nat) (w : World) (hL : L ≤ 1024) (h : DevRep w d L ws len mark g hb) (hj : off < 64 * L) (hlen : len (off / 64) ≤ 1000001) :
    Calls Tryz.prog 142 #[.pointer (some ⟨d, 0, none⟩), .int .i64 (off : Int)] w fun e w' => e = .returned (.int .i64 0) ∧
      DevRep w' d L ws len (fun k => if k = off / 64 then len (off / 64) + 1 else mark k) g hb ∧ Touch (devOwn d L g hb) w w' := by
  obtain ⟨st, hbx⟩ := h.box
  obtain ⟨y0, y1, y2, y3, f0, f1, f2, f3⟩ := blk4' hbx
  have ha := ask_ok d L g off 1 (.int .i64 (-1)) (.int .i64 st) w hL hbx (by omega) (by decide) (by omega) (by decide)
  have HA := Lib.hid ha
  obtain ⟨cur, hg, hs, h1, h2⟩ := h.blk
  obtain ⟨A, c, e1, e2, hc⟩ := h2 (off / 64) (by omega)
  have z1 : w.cell? ⟨g, 66 * (off / 64) + 64, none⟩ = some (.slice A (len (off / 64)) c) := by rw [cell_of_row w g _ cur _ (0, 0) hg]; exact e1
  have z2 : w.frozen? ⟨g, 66 * (off / 64) + 65, none⟩ = false := by simp [World.frozen?, hg]
  have z3 : w.cell? ⟨g, 66 * (off / 64) + 65, none⟩ = some (.int .i64 (mark (off / 64) : Int)) := by rw [cell_of_row w g _ cur _ (0, 0) hg]; exact e2
  rw [show 66 * (off / 64) + 64 = off / 64 * 66 + 64 by omega] at z1
  rw [show 66 * (off / 64) + 65 = off / 64 * 66 + 65 by omega] at z2 z3
  have hm := h.mark (i := off / 64) (by omega) (len (off / 64) + 1) (Nat.le_refl _)
  have ht := (Touch.refl (devOwn d L g hb) w).setCell (p := ⟨g, 66 * (off / 64) + 65, none⟩) (.inl (.inr (.inl rfl))) (.int .i64 ((len (off / 64) + 1 : Nat) : Int))
  have HM := Lib.hid hm
  have HT := Lib.hid ht
  clear ha h hbx h1 h2 hc hg e1 e2 hm ht
  go_enter Tryz.func142, Tryz.ntmps142
  go_wp2_with fail
  refine HA.out.mono ?_
  rintro e w' ⟨rfl, rfl⟩
  clear HA
  go_wp2_with fail
  rw [show off / 64 * 66 = 66 * (off / 64) by omega, show ((len (off / 64) : Int) + 1) = ((len (off / 64) + 1 : Nat) : Int) by omega]
  have hR := HM.out
  have hT := HT.out
  clear HM HT
  generalize w.setCell ⟨g, 66 * (off / 64) + 65, none⟩ (.int .i64 ((len (off / 64) + 1 : Nat) : Int)) = w5 at hR hT ⊢
  obtain ⟨st5, hbx5⟩ := hR.box
  have HD := Lib.hid (done_dev d g L st5 _ hbx5)
  have HR := Lib.hid hR
  have HT := Lib.hid hT
  clear hR hT hbx5
  refine HD.out.mono ?_
  rintro e w' ⟨rfl, st', rfl⟩
  clear HD
  go_wp2_with fail
  go_ret
  exact ⟨rfl, HR.out.step st', HT.out.setCell (.inl (.inl rfl)) _⟩

set_option maxHeartbeats 2000000 in
theorem clone_none (A : Option Addr) (c : Nat) (w : World) :
    Calls Tryz.prog 173 #[.slice A 0 c] w fun e w' => ∃ B, e = .returned (.slice B 0 0) ∧ Below w.heap.size w w' := by
  rcases A with _ | ad
  · have q1 := fun W => Lib.run_eql_slice_nil (P := Tryz.prog) W 112 120 none 0 c 0 0 Tryz.underlying112
    go_enter Tryz.func173, Tryz.ntmps173
    go_wp2
    go_ret
    exact ⟨_, rfl, Below.refl _ _⟩
  · have q1 := fun W => Lib.run_eql_slice_nil (P := Tryz.prog) W 112 120 (some ad) 0 c 0 0 Tryz.underlying112
    obtain ⟨i, hi, hz0, hz1, hz2⟩ : ∃ i, Tryz.prog.info? 120 = some i ∧ i.zero = some (.agg #[.int .i64 0, .int .u64 0]) ∧ i.size = 2 ∧ i.bytes = 16 := by
      have hI : (Tryz.prog.info? 120).map (fun i => (i.zero, i.size, i.bytes)) = some (some (.agg #[.int .i64 0, .int .u64 0]), 2, 16) := by kernel_rfl
      exact info_parts hI
    have hr : (Builtin.append_ #[112, 112] 112 #[.slice (some ⟨w.heap.size, 0, none⟩) 0 0, .slice (some ad) 0 c]).run Tryz.prog (w.alloc (.cells #[] 120)) = .ok (.slice (some ⟨w.heap.size, 0, none⟩) 0 0) (w.alloc (.cells #[] 120)) := by
      simp [Builtin.append_, run_underlying Tryz.underlying112, sizeOf, typeInfo, hi, Builtin.lenOf, Builtin.firstCells, loadCells, loadCellsFrom, storeCells]
    have HR := Lib.hid hr
    clear hr
    go_enter Tryz.func173, Tryz.ntmps173
    go_wp2_with (at_builtin; go_loud (refine Lib.wpList_append_run _ rfl (.tmp 5) (.tmp 6) 112 112 rfl (.slice (some ⟨w.heap.size, 0, none⟩) 0 0) (.slice (some ad) 0 c) rfl rfl _ _ HR.out ?_))
    go_ret
    exact ⟨_, rfl, (Below.refl _ _).alloc (Nat.le_refl _) _⟩

/-- A line whose changes are all flushed is fenced. -/
theorem DevRep.clear {w : World} {d L : Nat} {ws : Nat → UInt64} {len mark : Nat → Nat} {g : Nat} {hb : Nat → Option Nat} (h : DevRep w d L ws len mark g hb) {i : Nat} (hi : i < L) {w1 : World} (k : Below w.heap.size w w1) (B : Option Addr) :
    DevRep ((w1.setCell ⟨g, 66 * i + 64, none⟩ (.slice B 0 0)).setCell ⟨g, 66 * i + 65, none⟩ (.int .i64 0)) d L ws (fun k => if k = i then 0 else len k) (fun k => if k = i then 0 else mark k) g (fun k => if k = i then none else hb k) := by
  have h := h.below k
  have hk : ∀ b, b ≠ g → ((w1.setCell ⟨g, 66 * i + 64, none⟩ (.slice B 0 0)).setCell ⟨g, 66 * i + 65, none⟩ (.int .i64 0)).heap[b]? = w1.heap[b]? := fun b hb' => (Below.heap_setCell _ ⟨g, 66 * i + 65, none⟩ _ b hb').trans (Below.heap_setCell w1 ⟨g, 66 * i + 64, none⟩ _ b hb')
  obtain ⟨st, hbx⟩ := h.box
  obtain ⟨cur, hg, hs, h1, h2⟩ := h.blk
  refine ⟨⟨st, (hk d (fun e => h.gd e.symm)).trans hbx⟩, h.gd, ⟨_, setCell_cur _ (setCell_cur _ hg), by rw [Array.size_setIfInBounds, Array.size_setIfInBounds]; exact hs, fun i' hi' k hk' => ?_, fun i' hi' => ?_⟩, fun i' hi' b hb' => ?_, fun a b ha hb' hab v hv => ?_, fun i' hi' => ?_⟩
  · rw [Array.getElem?_setIfInBounds, if_neg (by omega), Array.getElem?_setIfInBounds, if_neg (by omega)]
    exact h1 i' hi' k hk'
  · obtain ⟨A, c, e1, e2, hcc⟩ := h2 i' hi'
    by_cases e : i' = i
    · subst e
      refine ⟨B, 0, ?_, ?_, .inl ⟨if_pos rfl, if_pos rfl, rfl⟩⟩
      · rw [Array.getElem?_setIfInBounds, if_neg (by omega), Array.getElem?_setIfInBounds, if_pos rfl, if_pos (by omega), if_pos rfl]
      · rw [Array.getElem?_setIfInBounds, if_pos rfl, if_pos (by rw [Array.size_setIfInBounds]; omega), if_pos rfl]; rfl
    · refine ⟨A, c, ?_, ?_, ?_⟩
      · rw [Array.getElem?_setIfInBounds, if_neg (by omega), Array.getElem?_setIfInBounds, if_neg (by omega), if_neg e]; exact e1
      · rw [Array.getElem?_setIfInBounds, if_neg (by omega), Array.getElem?_setIfInBounds, if_neg (by omega), if_neg e]; exact e2
      · rw [if_neg e, if_neg e]
        exact hcc.keep (fun b hb' _ => hk b (h.bd i' hi' b hb').1)
  · by_cases e : i' = i
    · rw [if_pos e] at hb'; cases hb'
    · rw [if_neg e] at hb'; exact h.bd i' hi' b hb'
  · by_cases ea : a = i
    · rw [if_pos ea] at hv; cases hv
    · rw [if_neg ea] at hv
      by_cases eb : b = i
      · rw [if_pos eb]; exact fun x => by cases x
      · rw [if_neg eb]; exact h.inj a b ha hb' hab v hv
  · show (if i' = i then 0 else mark i') ≤ (if i' = i then 0 else len i') + 1
    by_cases e : i' = i
    · rw [if_pos e]; omega
    · rw [if_neg e, if_neg e]; exact h.mrk i' hi'

end Go.Proofs.YtklcklflnkbccaaGreatDoor

/- Walks of package slab: numbers of blocks and lines; what words say. -/
namespace Go.Proofs.YtklcklflnkbccaaGreatDoor
open Go.RowKit

theorem fieldN_lt (x low size : Nat) : fieldN x low size < 2 ^ size := Nat.mod_lt _ (Nat.pow_pos (by decide))
theorem kindN_lt (x : Nat) : kindN x < 4 := fieldN_lt x 16 2
theorem takenN_lt (x : Nat) : takenN x < 65536 := fieldN_lt x 0 16
theorem blocksN_le (c : Nat) : blocksN c ≤ 16 := by unfold blocksN; split <;> omega
theorem linesN_le (c : Nat) : linesN c ≤ 4 := by unfold linesN; split <;> omega
theorem withB_lt (x low size v : Nat) (hx : x < 18446744073709551616) (hs : low + size ≤ 64) : withB x low size v < 18446744073709551616 := by
  unfold withB
  have h1 : x &&& (ones64 - (2 ^ size - 1) * 2 ^ low) < 2 ^ 64 := Nat.lt_of_le_of_lt Nat.and_le_left hx
  have h2 : (v &&& (2 ^ size - 1)) * 2 ^ low < 2 ^ 64 := by
    have a : v &&& (2 ^ size - 1) ≤ 2 ^ size - 1 := Nat.and_le_right
    have b : 0 < 2 ^ size := Nat.pow_pos (by decide)
    have c : (v &&& (2 ^ size - 1)) * 2 ^ low < 2 ^ size * 2 ^ low := Nat.mul_lt_mul_of_pos_right (by omega) (Nat.pow_pos (by decide))
    rw [← Nat.pow_add] at c
    exact Nat.lt_of_lt_of_le c (Nat.pow_le_pow_right (by decide) (by omega))
  exact Nat.or_lt_two_pow h1 h2

theorem blocks_any (c : Nat) (w : World) (hc : c < 1000000) : Calls Tryz.prog 90 #[.int .i64 (c : Int)] w fun e w' => e = .returned (.int .i64 (blocksN c : Nat)) ∧ w = w' := by
  by_cases h1 : c = 1
  · subst h1
    go_enter Tryz.func90, Tryz.ntmps90
    go_wp2
    go_ret
    exact ⟨rfl, rfl⟩
  · by_cases h2 : c = 2
    · subst h2
      go_enter Tryz.func90, Tryz.ntmps90
      go_wp2
      go_ret
      exact ⟨rfl, rfl⟩
    · have t1 : ((c : Int) == 1) = false := by rw [beq_eq_false_iff_ne]; omega
      have t2 : ((c : Int) == 2) = false := by rw [beq_eq_false_iff_ne]; omega
      have e : blocksN c = 0 := by unfold blocksN; split <;> first | omega | rfl
      rw [e]
      go_enter Tryz.func90, Tryz.ntmps90
      go_wp2
      go_ret
      exact ⟨rfl, rfl⟩
theorem slabLines_any (c : Nat) (w : World) (hc : c < 1000000) : Calls Tryz.prog 92 #[.int .i64 (c : Int)] w fun e w' => e = .returned (.int .i64 (linesN c : Nat)) ∧ w = w' := by
  by_cases h1 : c = 1
  · subst h1
    go_enter Tryz.func92, Tryz.ntmps92
    go_wp2
    go_ret
    exact ⟨rfl, rfl⟩
  · by_cases h2 : c = 2
    · subst h2
      go_enter Tryz.func92, Tryz.ntmps92
      go_wp2
      go_ret
      exact ⟨rfl, rfl⟩
    · have t1 : ((c : Int) == 1) = false := by rw [beq_eq_false_iff_ne]; omega
      have t2 : ((c : Int) == 2) = false := by rw [beq_eq_false_iff_ne]; omega
      have e : linesN c = 0 := by unfold linesN; split <;> first | omega | rfl
      rw [e]
      go_enter Tryz.func92, Tryz.ntmps92
      go_wp2
      go_ret
      exact ⟨rfl, rfl⟩

theorem kind_any (x : Nat) (w : World) (hx : x < 18446744073709551616) : Calls Tryz.prog 93 #[.int .u64 (x : Int)] w fun e w' => e = .returned (.int .i64 (kindN x : Nat)) ∧ Dr w w' := by
  have hd := Dr.refl w
  have hk := kindN_lt x
  have e1 : IntKind.i64.wrap (kindN x : Int) = (kindN x : Int) := by rw [IntKind.wrap_i64]; omega
  go_enter Tryz.func93, Tryz.ntmps93
  go_wp2_with fail
  refine (field_any x 16 2 _ hx (by decide) (by decide)).mono ?_
  rintro e w' ⟨rfl, hd'⟩
  replace hd := hd.trans hd'
  rw [show fieldN x 16 2 = kindN x from rfl]
  go_wp2_with fail
  go_ret
  exact ⟨rfl, hd⟩

theorem taken_any (x : Nat) (w : World) (hx : x < 18446744073709551616) : Calls Tryz.prog 150 #[.int .u64 (x : Int)] w fun e w' => e = .returned (.int .u64 (takenN x : Nat)) ∧ Dr w w' := by
  have hd := Dr.refl w
  go_enter Tryz.func150, Tryz.ntmps150
  go_wp2_with fail
  refine (field_any x 0 16 _ hx (by decide) (by decide)).mono ?_
  rintro e w' ⟨rfl, hd'⟩
  replace hd := hd.trans hd'
  rw [show fieldN x 0 16 = takenN x from rfl]
  go_wp2_with fail
  go_ret
  exact ⟨rfl, hd⟩

end Go.Proofs.YtklcklflnkbccaaGreatDoor

/- Walks of package slab: Right, Class, Has, meets, Take, Drop. -/
namespace Go.Proofs.YtklcklflnkbccaaGreatDoor
open Go.RowKit

set_option maxHeartbeats 1000000 in
theorem rightS_any (x : Nat) (w : World) (hx : x < 18446744073709551616) : Calls Tryz.prog 84 #[.int .u64 (x : Int)] w fun e w' => e = .returned (.bool (rightW x)) ∧ Dr w w' := by
  have hd := Dr.refl w
  have hk := kindN_lt x
  have hb := blocksN_le (kindN x)
  by_cases h0 : x = 0
  · subst h0
    rw [show rightW 0 = true from rfl]
    go_enter Tryz.func84, Tryz.ntmps84
    go_wp2
    go_ret
    exact ⟨rfl, hd⟩
  · have t0 : ((x : Int) == 0) = false := by rw [beq_eq_false_iff_ne]; omega
    have HF := Lib.hid (fun W => field_any x 0 (blocksN (kindN x)) W hx (by omega) (by omega))
    have w1 := withB_lt x 0 (blocksN (kindN x)) 0 hx (by omega)
    have HW1 := Lib.hid (fun W => with_any x 0 (blocksN (kindN x)) 0 W hx (by decide) (by omega))
    have HW2 := Lib.hid (fun W => with_any (withB x 0 (blocksN (kindN x)) 0) 16 2 0 W w1 (by decide) (by decide))
    by_cases h1 : fieldN x 0 (blocksN (kindN x)) = 0
    · have HR : Hid (rightW x = false) := Lib.hid (by simp [rightW, h0, h1])
      have t1 : (((fieldN x 0 (blocksN (kindN x)) : Nat) : Int) != 0) = false := by rw [h1]; rfl
      generalize fieldN x 0 (blocksN (kindN x)) = fl at HF t1
      clear h1
      go_enter Tryz.func84, Tryz.ntmps84
      go_wp2_with fail
      refine (kind_any x _ hx).mono ?_
      rintro e w' ⟨rfl, hd'⟩
      replace hd := hd.trans hd'
      go_wp2_with fail
      refine (blocks_any (kindN x) _ (by omega)).mono ?_
      rintro e w' ⟨rfl, rfl⟩
      go_wp2_with fail
      refine (HF.out _).mono ?_
      rintro e w' ⟨rfl, hd'⟩
      replace hd := hd.trans hd'
      go_wp2_with fail
      rw [HR.out]
      go_ret
      exact ⟨rfl, hd⟩
    · have HR : Hid (rightW x = (withB (withB x 0 (blocksN (kindN x)) 0) 16 2 0 == 0)) := Lib.hid (by
        have e0 : (x == 0) = false := by rw [beq_eq_false_iff_ne]; exact h0
        have e1 : (fieldN x 0 (blocksN (kindN x)) != 0) = true := by rw [bne_iff_ne]; exact h1
        rw [rightW, e0, e1]; rfl)
      have t1 : (((fieldN x 0 (blocksN (kindN x)) : Nat) : Int) != 0) = true := by rw [bne_iff_ne]; omega
      have HT : Hid ((((withB (withB x 0 (blocksN (kindN x)) 0) 16 2 0 : Nat) : Int) == 0) = (withB (withB x 0 (blocksN (kindN x)) 0) 16 2 0 == 0)) := Lib.hid (by
        rw [Bool.eq_iff_iff, beq_iff_eq, beq_iff_eq]; omega)
      generalize fieldN x 0 (blocksN (kindN x)) = fl at HF t1
      clear h1
      go_enter Tryz.func84, Tryz.ntmps84
      go_wp2_with fail
      refine (kind_any x _ hx).mono ?_
      rintro e w' ⟨rfl, hd'⟩
      replace hd := hd.trans hd'
      go_wp2_with fail
      refine (blocks_any (kindN x) _ (by omega)).mono ?_
      rintro e w' ⟨rfl, rfl⟩
      go_wp2_with fail
      refine (HF.out _).mono ?_
      rintro e w' ⟨rfl, hd'⟩
      replace hd := hd.trans hd'
      go_wp2_with fail
      refine (HW1.out _).mono ?_
      rintro e w' ⟨rfl, hd'⟩
      replace hd := hd.trans hd'
      go_wp2_with fail
      refine (HW2.out _).mono ?_
      rintro e w' ⟨rfl, hd'⟩
      replace hd := hd.trans hd'
      go_wp2_with fail
      rw [HR.out, HT.out]
      go_ret
      exact ⟨rfl, hd⟩

theorem classW_lt (x : Nat) : classW x < 4 := by unfold classW; split; exact kindN_lt x; decide

theorem classS_any (x : Nat) (w : World) (hx : x < 18446744073709551616) : Calls Tryz.prog 61 #[.int .u64 (x : Int)] w fun e w' => e = .returned (.int .i64 (classW x : Nat)) ∧ Dr w w' := by
  have hd := Dr.refl w
  have HR := Lib.hid (fun W => rightS_any x W hx)
  cases hr : rightW x
  · rw [show classW x = 0 by simp [classW, hr]]
    rw [hr] at HR
    clear hr
    go_enter Tryz.func61, Tryz.ntmps61
    go_wp2_with fail
    refine (HR.out _).mono ?_
    rintro e w' ⟨rfl, hd'⟩
    replace hd := hd.trans hd'
    go_wp2_with fail
    go_ret
    exact ⟨rfl, hd⟩
  · rw [show classW x = kindN x by simp [classW, hr]]
    rw [hr] at HR
    clear hr
    go_enter Tryz.func61, Tryz.ntmps61
    go_wp2_with fail
    refine (HR.out _).mono ?_
    rintro e w' ⟨rfl, hd'⟩
    replace hd := hd.trans hd'
    go_wp2_with fail
    refine (kind_any x _ hx).mono ?_
    rintro e w' ⟨rfl, hd'⟩
    replace hd := hd.trans hd'
    go_wp2_with fail
    go_ret
    exact ⟨rfl, hd⟩

set_option maxHeartbeats 1000000 in
theorem hasS_any (x a : Nat) (w : World) (hx : x < 18446744073709551616) (ha : a < 1000000) : Calls Tryz.prog 91 #[.int .u64 (x : Int), .int .i64 (a : Int)] w fun e w' => e = .returned (.bool (hasW x a)) ∧ Dr w w' := by
  have hd := Dr.refl w
  have hc := classW_lt x
  have hb := blocksN_le (classW x)
  have t0 : decide ((0 : Int) ≤ (a : Int)) = true := by simp
  by_cases h1 : a < blocksN (classW x)
  · have HF := Lib.hid (fun W => field_any x a 1 W hx (by omega) (by omega))
    have t1 : decide ((a : Int) < ((blocksN (classW x) : Nat) : Int)) = true := decide_eq_true (by omega)
    have HT : Hid ((((fieldN x a 1 : Nat) : Int) == 1) = hasW x a) := Lib.hid (by
      rw [Bool.eq_iff_iff, beq_iff_eq]; simp [hasW, h1]; omega)
    go_enter Tryz.func91, Tryz.ntmps91
    go_wp2_with fail
    refine (classS_any x _ hx).mono ?_
    rintro e w' ⟨rfl, hd'⟩
    replace hd := hd.trans hd'
    go_wp2_with fail
    refine (blocks_any (classW x) _ (by omega)).mono ?_
    rintro e w' ⟨rfl, rfl⟩
    go_wp2_with fail
    refine (HF.out _).mono ?_
    rintro e w' ⟨rfl, hd'⟩
    replace hd := hd.trans hd'
    go_wp2_with fail
    rw [HT.out]
    go_ret
    exact ⟨rfl, hd⟩
  · have t1 : decide ((a : Int) < ((blocksN (classW x) : Nat) : Int)) = false := decide_eq_false (by omega)
    rw [show hasW x a = false by simp [hasW, h1]]
    go_enter Tryz.func91, Tryz.ntmps91
    go_wp2_with fail
    refine (classS_any x _ hx).mono ?_
    rintro e w' ⟨rfl, hd'⟩
    replace hd := hd.trans hd'
    go_wp2_with fail
    refine (blocks_any (classW x) _ (by omega)).mono ?_
    rintro e w' ⟨rfl, rfl⟩
    go_wp2_with fail
    go_ret
    exact ⟨rfl, hd⟩

end Go.Proofs.YtklcklflnkbccaaGreatDoor

/- Rows whose elements have several cells: one more at the end. No statement of the program. -/
namespace Go.Proofs.YtklcklflnkbccaaGreatDoor
open Go.RowKit

/-- A slice type, its element type of k cells, that one's zero and bytes. -/
structure RowTyK (P : Program) (t e : TypeId) (z : Value) (k bytes : Nat) : Prop where
  ht : P.underlying t = some (.slice e)
  hi : (P.info? e).map (fun i => (i.zero, i.size, i.bytes)) = some (some z, k, bytes)
  hz : z.cells.size = k

theorem append_one {P : Program} {t e : TypeId} {z : Value} {k bytes : Nat} (T : RowTyK P t e z k bytes) (ty : TypeId) {w : World} {base : Nat} {v : Value} {n : Nat} {xs news : List Value}
    (hown : w.ownsRow base e k v n xs) (b : Nat) (hb : Blk w b e news) (hk : news.length = k) (hk0 : 0 < k) (h1 : ∀ u ∈ news, u.oneCell' = true) (hm : n ≤ 1000000) (hby : bytes ≤ 1000) (hbase : base ≤ w.heap.size) (c : Nat) :
    ∃ g cap w', (Builtin.append_ #[t, t] ty #[v, .slice (some ⟨b, 0, none⟩) 1 c]).run P w = .ok (.slice (some ⟨g, 0, none⟩) (n + 1) cap) w' ∧ w'.ownsRow base e k (.slice (some ⟨g, 0, none⟩) (n + 1) cap) (n + 1) (xs ++ news) ∧ Below base w w' ∧ Kept w w' v.ownBlock ∧ (v.ownBlock = some g ∨ g = w.heap.size) := by
  obtain ⟨i, hi, hz0, hz1, hz2⟩ := info_parts T.hi
  have hnews : ∀ j u, news[j]? = some u → w.cell? ((⟨b, 0, none⟩ : Addr).add j) = some u := fun j u hu => by
    rw [Addr.add_lit, Nat.zero_add, hb.cell, hu]
  have hmul : (n + 1) * bytes ≤ 1000001 * 1000 := Nat.mul_le_mul (by omega) hby
  obtain ⟨g, cap, w', a1, a2, a3, a4, a5⟩ := run_append_lies (P := P) w t ty base e i z k bytes T.ht hi hz0 hz1 hz2 T.hz hk0 v n xs hown ⟨b, 0, none⟩ 1 c news (by rw [hk, Nat.one_mul]) hnews h1 (by decide) (by unfold maxLen; omega) (by omega) hbase _ rfl
  exact ⟨g, cap, w', a1, a2, (Below.refl _ _).grown a3 hbase (fun k hk => (hown.lt k hk).1), ⟨a3.size, fun j hj hr => a3.block j hj hr⟩, a4⟩

theorem wpList_app_one {P : Program} {ops : Array Oper} {rest : List Oper} {o : Oper} {a : Act} {w : World} {Q : Exit → Act → World → Prop} (hgd : o.guard = none) (s x : Operand) (t : TypeId)
    (ho : o.op = .call { callee := .builtin .append, args := #[s, x], argTypes := #[t, t] }) {e : TypeId} {z : Value} {k bytes : Nat} (T : RowTyK P t e z k bytes)
    (wr : World) (base : Nat) (v : Value) (n : Nat) (xs news : List Value) (hs : a.eval s = v) (hown : wr.ownsRow base e k v n xs) (hw : w = wr.alloc (.cells news.toArray e)) (b c : Nat) (hx : a.eval x = .slice (some ⟨b, 0, none⟩) 1 c) (hb : b = wr.heap.size)
    (hk : news.length = k) (hk0 : 0 < k) (h1 : ∀ u ∈ news, u.oneCell' = true) (hm : n ≤ 1000000) (hby : bytes ≤ 1000) (hbase : base ≤ wr.heap.size)
    (h : ∀ g cap w', w'.ownsRow base e k (.slice (some ⟨g, 0, none⟩) (n + 1) cap) (n + 1) (xs ++ news) → Below base wr w' → Kept wr w' v.ownBlock → (v.ownBlock = some g ∨ wr.heap.size ≤ g) → wpList P ops Q rest (a.put o.dst (.slice (some ⟨g, 0, none⟩) (n + 1) cap)) w') : wpList P ops Q (o :: rest) a w := by
  refine wpList_plain hgd fun K hK => ?_
  subst hw hb
  have hbl : Below wr.heap.size wr (wr.alloc (.cells news.toArray e)) := (Below.refl _ _).alloc (Nat.le_refl _) _
  have hown' : (wr.alloc (.cells news.toArray e)).ownsRow base e k v n xs := by
    refine ⟨hown.1, ?_⟩
    rcases hown.2 with h | ⟨g, cap, cur, h1, h2, h3, h4⟩
    · exact .inl h
    · exact .inr ⟨g, cap, cur, h1, h2, by rw [hbl.block g (Array.getElem?_eq_some_iff.1 h3).1]; exact h3, h4⟩
  obtain ⟨g, cap, w', hrun, h2, h3, h4, h5⟩ := append_one T o.type hown' wr.heap.size (heap_alloc_new wr _) hk hk0 h1 hm hby (by simp; omega) c
  unfold Oper.wp execOp
  simp only [ho, resolve, invoke, builtin, Sem.run_bind, Sem.run_pure, Result.andThen_ok, List.map_toArray, List.map_cons, List.map_nil, hs, hx, hrun]
  refine hK _ _ (h g cap w' h2 ((hbl.mono hbase).trans h3) ⟨Nat.le_trans hbl.size h4.1, fun j hj hr => (h4.2 j (Nat.lt_of_lt_of_le hj hbl.size) hr).trans (hbl.block j hj)⟩ (h5.imp id (fun e => by rw [e]; simp)))

end Go.Proofs.YtklcklflnkbccaaGreatDoor

/- Maps with integer keys, known whole. No statement of the program. -/
namespace Go.Proofs.YtklcklflnkbccaaGreatDoor
open Go.RowKit

/-- A map's block is written. -/
def putMap (W : World) (r : Nat) (es : Array MapEntry) (c : Nat) : World := { W with heap := W.heap.setIfInBounds r (.map es c) }

theorem putMap_size (W : World) (r : Nat) (es : Array MapEntry) (c : Nat) : (putMap W r es c).heap.size = W.heap.size := by simp [putMap]
theorem putMap_at (W : World) (r : Nat) (es : Array MapEntry) (c : Nat) (h : r < W.heap.size) : (putMap W r es c).heap[r]? = some (.map es c) := by simp [putMap, h]
theorem putMap_touch (W : World) (r : Nat) (es : Array MapEntry) (c : Nat) : Touch (fun b => b = r) W (putMap W r es c) :=
  ⟨rfl, rfl, rfl, by simp [putMap], fun k hk hn => by
    simp only [putMap]
    rw [Array.getElem?_setIfInBounds, if_neg (fun e => hn e.symm)]⟩

theorem getMap_run {P : Program} {w : World} {r : Nat} {es : Array MapEntry} {c : Nat} (hb : w.heap[r]? = some (.map es c)) : (getObj r).run P w = .ok (.map es c) w := by simp [getObj, Sem.run, hb]
theorem setMap_run {P : Program} {w : World} {r : Nat} {es : Array MapEntry} {c : Nat} (o : Obj) (hb : w.heap[r]? = some (.map es c)) : (setObj r o).run P w = .ok () { w with heap := w.heap.setIfInBounds r o } := by simp [setObj, Sem.run, hb]

theorem run_makeMap {P : Program} (t : TypeId) (w : World) : (Instr.makeMap t none).run P w = .ok (.map (some w.heap.size)) (w.alloc (.map #[] 0)) := by
  simp [Instr.makeMap, Result.andThen]

theorem run_checkKey_int {P : Program} {kt : TypeId} {d : IntKind} (hk : P.underlying kt = some (.int d)) (b : Bool) (n : Nat) (q : IntKind) (k : Int) (w : World) : (Instr.checkKey b (n + 1) kt (.int q k)).run P w = .ok () w := by
  simp [Instr.checkKey, run_underlying hk, Result.andThen]

theorem run_ins {P : Program} {t kt et : TypeId} {d : IntKind} (ht : P.underlying t = some (.map kt et)) (hk : P.underlying kt = some (.int d)) (W : World) (r : Nat) (es : Array MapEntry) (c : Nat) (k : Int) (v : Value)
    (h : W.heap[r]? = some (.map es c)) (hf : Instr.findNow (.int d) (.int d k) es.toList 0 = some none) :
    (Instr.mapUpdate t (.map (some r)) (.int d k) v).run P W = .ok () (putMap W r (es.push { key := .int d k, val := v, born := c }) (c + 1)) := by
  have h1 := run_underlying (P := P) ht
  have h2 := run_underlying (P := P) hk
  have h3 := fun w => run_checkKey_int (P := P) hk false 9999 d k w
  have h4 := getMap_run (P := P) h
  have h5 := fun o => setMap_run (P := P) o h
  simp [Instr.mapUpdate, h1, h2, h3, h4, h5, Instr.findKey, hf, putMap, Result.andThen]

theorem run_look {P : Program} {t kt et : TypeId} {d : IntKind} (ht : P.underlying t = some (.map kt et)) (hk : P.underlying kt = some (.int d)) (W : World) (r : Nat) (es : Array MapEntry) (c : Nat) (k : Int) (i : Nat) (v : Value)
    (h : W.heap[r]? = some (.map es c)) (hf : Instr.findNow (.int d) (.int d k) es.toList 0 = some (some (i, v))) :
    (Instr.lookup t (.map (some r)) (.int d k) false).run P W = .ok v W := by
  have h1 := run_underlying (P := P) ht
  have h2 := run_underlying (P := P) hk
  have h3 := fun b w => run_checkKey_int (P := P) hk b 9999 d k w
  have h4 := getMap_run (P := P) h
  simp [Instr.lookup, h1, h2, h3, h4, Instr.findKey, hf, Result.andThen]

end Go.Proofs.YtklcklflnkbccaaGreatDoor

/- Walks of package crc. -/
namespace Go.Proofs.YtklcklflnkbccaaGreatDoor
open Go.RowKit

def TabF (w : World) : Prop := ∀ j, j < 16 → w.cell? ⟨0, j, none⟩ = some (.int .u32 (foursN.getD j 0 : Nat))

theorem fours_lt (j : Nat) : foursN.getD j 0 < 4294967296 := by
  rcases Nat.lt_or_ge j 16 with h | h
  · have key : ∀ k : Fin 16, foursN.getD k.val 0 < 4294967296 := by decide
    exact key ⟨j, h⟩
  · rw [List.getD_eq_getElem?_getD, List.getElem?_eq_none (by simpa [foursN] using h)]; decide

theorem crc_and (y : Nat) (hy : y < 4294967296) : bits .and .u32 (y : Int) 15 = ((y % 16 : Nat) : Int) := by
  rw [show (15 : Int) = ((15 : Nat) : Int) from rfl, u32_and_nat _ _ hy (by decide), nat_mask4]
theorem crc_xor (y : Nat) (hy : y < 4294967296) : bits .xor .u32 ((y : Int) / 16) ((foursN.getD (y % 16) 0 : Nat) : Int) = (crcStep y : Nat) := by
  rw [show (y : Int) / 16 = ((y / 16 : Nat) : Int) by omega, u32_xor_nat _ _ (by omega) (fours_lt _)]; rfl

set_option maxHeartbeats 2000000 in
theorem crcNext_any (sum : Nat) (A : Option Addr) (n c : Nat) (l : List UInt8) (w : World) (hs : sum < 4294967296) (hn : n ≤ 1000000) (h : Bs w A n l) (hT : TabF w) :
    Calls Tryz.prog 171 #[.int .u32 (sum : Int), .slice A n c] w fun e w' => e = .returned (.int .u32 (crcNext sum l : Nat)) ∧ w = w' := by
  have hlen := h.len
  have e0 : bits .xor .u32 IntKind.u32.max (sum : Int) = ((crcTo sum l 0 : Nat) : Int) := by
    rw [show IntKind.u32.max = ((4294967295 : Nat) : Int) from rfl, u32_xor_nat _ _ (by decide) hs, crcTo_zero, Nat.xor_comm]
  have HH := Lib.hid h
  clear h
  go_enter Tryz.func171, Tryz.ntmps171
  go_wp2_with fail
  go_loop [5, 12] (fun x i => ∃ k : Nat, k ≤ n ∧ i = .int .i64 k ∧ x = .int .u32 ((crcTo sum l k : Nat) : Int)) (fun _ i => n - (intOf i).toNat)
  case atStart => exact ⟨0, Nat.zero_le _, rfl, rfl⟩
  case round =>
    obtain ⟨k, hk, rfl, rfl⟩ := hrel
    have hlt := crcTo_lt sum l hs k (by omega)
    by_cases hkn : k < n
    · obtain ⟨hkl, b, off, rfl, hb, hc⟩ := HH.out.at hkn
      have hcb : l[k].toNat < 256 := UInt8.toNat_lt _
      have HS := Lib.hid (crcTo_succ sum l k hkl)
      generalize crcTo sum l k = x at *
      generalize l[k].toNat = b at *
      have hy : x ^^^ b < 4294967296 := Nat.xor_lt_two_pow (n := 32) hlt (by omega)
      have a1 : bits .xor .u32 (x : Int) (b : Int) = ((x ^^^ b : Nat) : Int) := u32_xor_nat _ _ hlt (by omega)
      have a2 := crc_and _ hy
      have a3 := crc_xor _ hy
      have c1 := hT ((x ^^^ b) % 16) (Nat.mod_lt _ (by decide))
      have HB : Hid (crcByte x b = crcStep (crcStep (x ^^^ b))) := Lib.hid rfl
      generalize x ^^^ b = y at *
      have hz := crcStep_lt y hy
      generalize crcStep y = z at *
      have b2 := crc_and _ hz
      have b3 := crc_xor _ hz
      have c2 := hT (z % 16) (Nat.mod_lt _ (by decide))
      generalize foursN.getD (y % 16) 0 = f1 at *
      generalize foursN.getD (z % 16) 0 = f2 at *
      go_wp2
      trace_state
      go_round
      case rel => exact ⟨k + 1, by omega, by go_num, by rw [HS.out, HB.out]⟩
      case measure => simp [intOf]; omega
    · have hkn : k = n := by omega
      subst hkn
      have e1 : bits .xor .u32 IntKind.u32.max ((crcTo sum l k : Nat) : Int) = (crcNext sum l : Nat) := by
        rw [show IntKind.u32.max = ((4294967295 : Nat) : Int) from rfl, u32_xor_nat _ _ (by decide) hlt, Nat.xor_comm, ← hlen, crcTo_all]
      go_wp2
      go_ret
      exact ⟨rfl, rfl⟩

theorem crcSum_any (A : Option Addr) (n c : Nat) (l : List UInt8) (w : World) (hn : n ≤ 1000000) (h : Bs w A n l) (hT : TabF w) :
    Calls Tryz.prog 134 #[.slice A n c] w fun e w' => e = .returned (.int .u32 (crcNext 0 l : Nat)) ∧ w = w' := by
  have HN := Lib.hid (crcNext_any 0 A n c l w (by decide) hn h hT)
  go_enter Tryz.func134, Tryz.ntmps134
  go_wp2_with fail
  refine HN.out.mono ?_
  rintro e w' ⟨rfl, rfl⟩
  go_wp2_with fail
  go_ret
  exact ⟨rfl, rfl⟩

end Go.Proofs.YtklcklflnkbccaaGreatDoor

/- Rows that grow by one element in a drawn region. No statement of the program. -/
namespace Go.Proofs.YtklcklflnkbccaaGreatDoor
open Go.RowKit

theorem step_app_one {P : Program} {ops : Array Oper} {o : Oper} {a : Act} {w : World} {K : Act → World → Prop} {Q : Exit → Act → World → Prop} {E : Prop} (hgd : o.guard = none) (s x : Operand) (t : TypeId)
    (ho : o.op = .call { callee := .builtin .append, args := #[s, x], argTypes := #[t, t] }) {e : TypeId} {z : Value} {k bytes : Nat} (T : RowTyK P t e z k bytes)
    (wr : World) (base : Nat) (v : Value) (n : Nat) (xs news : List Value) (hs : a.eval s = v) (hown : wr.ownsRow base e k v n xs) (hw : w.heap = wr.heap.push (.cells news.toArray e))
    (hos : w.os = wr.os) (htape : w.tape = wr.tape) (hout : w.output = wr.output) (gx c : Nat) (hx : a.eval x = .slice (some ⟨gx, 0, none⟩) 1 c) (hgx : wr.heap.size = gx)
    (hk : news.length = k) (hk0 : 0 < k) (h1 : ∀ u ∈ news, u.oneCell' = true) (hm : n ≤ 1000000) (hby : bytes ≤ 1000) (hbase : base ≤ wr.heap.size)
    (h : ∀ g cap w', w'.ownsRow base e k (.slice (some ⟨g, 0, none⟩) (n + 1) cap) (n + 1) (xs ++ news) → Below base wr w' → Kept wr w' v.ownBlock → (v.ownBlock = some g ∨ wr.heap.size ≤ g) → K (a.put o.dst (.slice (some ⟨g, 0, none⟩) (n + 1) cap)) w') :
    if Region.wanted o (yielded ops a.tmps) = true then Oper.wp P o a w K Q else E := by
  have hwt : Region.wanted o (yielded ops a.tmps) = true := by simp [Region.wanted, hgd]
  rw [if_pos hwt]
  subst hgx
  have hbl : Below wr.heap.size wr w := ⟨hos, htape, hout, by rw [hw]; simp, fun k hk => by rw [hw, Array.getElem?_push, if_neg (by omega)]⟩
  have hown' : w.ownsRow base e k v n xs := by
    refine ⟨hown.1, ?_⟩
    rcases hown.2 with h | ⟨g, cap, cur, h1, h2, h3, h4⟩
    · exact .inl h
    · exact .inr ⟨g, cap, cur, h1, h2, by rw [hbl.block g (Array.getElem?_eq_some_iff.1 h3).1]; exact h3, h4⟩
  have hb : Blk w wr.heap.size e news := by unfold Blk; rw [hw, Array.getElem?_push, if_pos rfl]
  obtain ⟨g, cap, w', hrun, h2, h3, h4, h5⟩ := append_one T o.type hown' wr.heap.size hb hk hk0 h1 hm hby (Nat.le_trans hbase hbl.size) c
  unfold Oper.wp execOp
  simp only [ho, resolve, invoke, builtin, Sem.run_bind, Sem.run_pure, Result.andThen_ok, List.map_toArray, List.map_cons, List.map_nil, hs, hx, hrun]
  exact h g cap w' h2 ((hbl.mono hbase).trans h3) ⟨Nat.le_trans hbl.size h4.1, fun j hj hr => (h4.2 j (Nat.lt_of_lt_of_le hj hbl.size) hr).trans (hbl.block j hj)⟩ (h5.imp id (fun e => by rw [e]; exact hbl.size))

end Go.Proofs.YtklcklflnkbccaaGreatDoor

/- Maps from numbers to numbers: a key that is not there is put; one that is there has another value. No statement of the program. -/
namespace Go.Proofs.YtklcklflnkbccaaGreatDoor
open Go.RowKit

/-- A map's entries, in the order in which they were put. -/
def metE : Nat → List (Int × Int) → List MapEntry
  | _, [] => []
  | i, (o, v) :: t => { key := .int .i64 o, val := .int .i64 v, born := i } :: metE (i + 1) t

theorem metE_app (o v : Int) : ∀ (l : List (Int × Int)) (i : Nat), metE i (l ++ [(o, v)]) = metE i l ++ [{ key := .int .i64 o, val := .int .i64 v, born := i + l.length }]
  | [], i => rfl
  | (a, b) :: t, i => by
    simp only [List.cons_append, metE, metE_app o v t (i + 1), List.length_cons]
    rw [show i + 1 + t.length = i + (t.length + 1) by omega]
theorem metE_len : ∀ (l : List (Int × Int)) (i : Nat), (metE i l).length = l.length
  | [], _ => rfl
  | (_, _) :: t, i => by simp [metE, metE_len t]

theorem find_no (k : Int) : ∀ (l : List (Int × Int)) (i n : Nat), (∀ p ∈ l, p.1 ≠ k) → Instr.findNow (.int .i64) (.int .i64 k) (metE i l) n = some none
  | [], _, _, _ => rfl
  | (a, b) :: t, i, n, h => by
    have ha : (k == a) = false := by rw [beq_eq_false_iff_ne]; exact fun e => h (a, b) (List.mem_cons_self ..) e.symm
    simp only [metE, Instr.findNow, Instr.sameNow, if_true, ha]
    exact find_no k t (i + 1) (n + 1) (fun p hp => h p (List.mem_cons_of_mem _ hp))
theorem find_yes (k v : Int) (l2 : List (Int × Int)) : ∀ (l1 : List (Int × Int)) (i n : Nat), (∀ p ∈ l1, p.1 ≠ k) → Instr.findNow (.int .i64) (.int .i64 k) (metE i (l1 ++ (k, v) :: l2)) n = some (some (n + l1.length, .int .i64 v))
  | [], _, _, _ => by simp [metE, Instr.findNow, Instr.sameNow]
  | (a, b) :: t, i, n, h => by
    have ha : (k == a) = false := by rw [beq_eq_false_iff_ne]; exact fun e => h (a, b) (List.mem_cons_self ..) e.symm
    simp only [List.cons_append, metE, Instr.findNow, Instr.sameNow, if_true, ha]
    rw [find_yes k v l2 t (i + 1) (n + 1) (fun p hp => h p (List.mem_cons_of_mem _ hp))]
    simp only [List.length_cons]
    rw [show n + 1 + t.length = n + (t.length + 1) by omega]
theorem metE_mod (k v v' : Int) (l2 : List (Int × Int)) : ∀ (l1 : List (Int × Int)) (i : Nat), (metE i (l1 ++ (k, v) :: l2)).modify l1.length (fun e => { e with key := .int .i64 k, val := .int .i64 v' }) = metE i (l1 ++ (k, v') :: l2)
  | [], i => rfl
  | (a, b) :: t, i => by
    simp only [List.cons_append, metE, List.length_cons, List.modify_succ_cons]
    rw [metE_mod k v v' l2 t (i + 1)]

/-- A map in memory. -/
def MapIs (w : World) (mb : Nat) (l : List (Int × Int)) : Prop := w.heap[mb]? = some (.map (metE 0 l).toArray l.length)

theorem MapIs.lt {w : World} {mb : Nat} {l : List (Int × Int)} (h : MapIs w mb l) : mb < w.heap.size := (Array.getElem?_eq_some_iff.1 h).1
theorem MapIs.below {w w' : World} {mb : Nat} {l : List (Int × Int)} (h : MapIs w mb l) (k : Below w.heap.size w w') : MapIs w' mb l := (k.block _ h.lt).trans h

section
variable {P : Program} {t : TypeId}

theorem look_no {kt : TypeId} (ht : P.underlying t = some (.map kt kt)) (hk : P.underlying kt = some (.int .i64)) (hz : ∀ W, (zeroValue kt).run P W = .ok (.int .i64 0) W) (W : World) (mb : Nat) (l : List (Int × Int)) (k : Int) (h : MapIs W mb l) (hn : ∀ p ∈ l, p.1 ≠ k) :
    (Instr.lookup t (.map (some mb)) (.int .i64 k) false).run P W = .ok (.int .i64 0) W := by
  have h1 := run_underlying (P := P) ht
  have h2 := run_underlying (P := P) hk
  have h3 := fun b w => run_checkKey_int (P := P) hk b 9999 .i64 k w
  have h4 := getMap_run (P := P) h
  have hf := find_no k l 0 0 hn
  simp [Instr.lookup, h1, h2, h3, h4, Instr.findKey, hf, hz, Result.andThen]
theorem look_yes {kt et : TypeId} (ht : P.underlying t = some (.map kt et)) (hk : P.underlying kt = some (.int .i64)) (W : World) (mb : Nat) (l1 l2 : List (Int × Int)) (k v : Int) (h : MapIs W mb (l1 ++ (k, v) :: l2)) (hn : ∀ p ∈ l1, p.1 ≠ k) :
    (Instr.lookup t (.map (some mb)) (.int .i64 k) false).run P W = .ok (.int .i64 v) W :=
  run_look ht hk W mb _ _ k _ _ h (by simpa using find_yes k v l2 l1 0 0 hn)
theorem upd_no {kt et : TypeId} (ht : P.underlying t = some (.map kt et)) (hk : P.underlying kt = some (.int .i64)) (W : World) (mb : Nat) (l : List (Int × Int)) (k v : Int) (h : MapIs W mb l) (hn : ∀ p ∈ l, p.1 ≠ k) :
    (Instr.mapUpdate t (.map (some mb)) (.int .i64 k) (.int .i64 v)).run P W = .ok () (putMap W mb (metE 0 (l ++ [(k, v)])).toArray (l ++ [(k, v)]).length) := by
  rw [run_ins ht hk W mb _ _ k _ h (by simpa using find_no k l 0 0 hn), metE_app]
  simp
theorem upd_yes {kt et : TypeId} (ht : P.underlying t = some (.map kt et)) (hk : P.underlying kt = some (.int .i64)) (W : World) (mb : Nat) (l1 l2 : List (Int × Int)) (k v v' : Int) (h : MapIs W mb (l1 ++ (k, v) :: l2)) (hn : ∀ p ∈ l1, p.1 ≠ k) :
    (Instr.mapUpdate t (.map (some mb)) (.int .i64 k) (.int .i64 v')).run P W = .ok () (putMap W mb (metE 0 (l1 ++ (k, v') :: l2)).toArray (l1 ++ (k, v') :: l2).length) := by
  have h1 := run_underlying (P := P) ht
  have h2 := run_underlying (P := P) hk
  have h3 := fun w => run_checkKey_int (P := P) hk false 9999 .i64 k w
  have h4 := getMap_run (P := P) h
  have h5 := fun o => setMap_run (P := P) o h
  have hf := find_yes k v l2 l1 0 0 hn
  have hm := metE_mod k v v' l2 l1 0
  have hkey : (((metE 0 (l1 ++ (k, v) :: l2)).toArray[l1.length]?).map (·.key)).getD (.int .i64 k) = .int .i64 k := by
    have : ∀ (l1 : List (Int × Int)) (i : Nat), (((metE i (l1 ++ (k, v) :: l2))[l1.length]?).map (·.key)).getD (.int .i64 k) = .int .i64 k := by
      intro l1
      induction l1 with
      | nil => intro i; rfl
      | cons p t ih => intro i; obtain ⟨a, b⟩ := p; simpa [metE] using ih (i + 1)
    simpa using this l1 0
  have hks : ∀ W, (Instr.keyThatStays (.int .i64 k) (.int .i64 k)).run P W = .ok (.int .i64 k) W := fun W => by
    have hb : Instr.sameBits 10000 (.int .i64 k) (.int .i64 k) = true := by show Instr.sameBits (9999 + 1) _ _ = true; simp [Instr.sameBits]
    simp [Instr.keyThatStays, hb]
  have hlen : (l1 ++ (k, v') :: l2).length = (l1 ++ (k, v) :: l2).length := by simp
  have harr : (metE 0 (l1 ++ (k, v) :: l2)).toArray.modify l1.length (fun e => { e with key := .int .i64 k, val := .int .i64 v' }) = (metE 0 (l1 ++ (k, v') :: l2)).toArray := by
    rw [← hm]; simp
  rw [hlen]
  simp only [Nat.zero_add] at hf
  simp only [Instr.mapUpdate, Sem.run_bind, h1, Result.andThen_ok, h4, h3, Instr.findKey, h2, hf, Sem.run_pure, hkey, hks, h5, harr, putMap]
end

end Go.Proofs.YtklcklflnkbccaaGreatDoor

/- append onto a slice without room: nothing old turns. No statement of the program. -/
namespace Go.Proofs.YtklcklflnkbccaaGreatDoor
open Go.RowKit

/-- Where such an append leaves its elements. -/
def CutAt (w w' : World) (e : TypeId) (A A' : Option Addr) (m : Nat) : Prop := (A' = A ∧ m = 0) ∨ ∃ g cs, A' = some ⟨g, 0, none⟩ ∧ w.heap.size ≤ g ∧ w'.heap[g]? = some (.cells cs e (0, 0))

theorem append_cut {P : Program} {t e : TypeId} {z : Value} {bytes : Nat} (T : RowTy P t e z bytes) (ty : TypeId) {w : World} {A : Option Addr} {n : Nat} {xs news : List Value} (hA : Rd w A n xs) (hA0 : ∀ a, A = some a → ∃ g, a = ⟨g, 0, none⟩) (hn0 : A = none → n = 0)
    {B : Option Addr} {m : Nat} (hr : Rd w B m news) (h1 : ∀ u ∈ news, u.oneCell' = true) (hm : n + m ≤ 1000000) (hby : bytes ≤ 64) (c : Nat) :
    ∃ A' C w', (Builtin.append_ #[t, t] ty #[.slice A n n, .slice B m c]).run P w = .ok (.slice A' (n + m) C) w' ∧ n + m ≤ C ∧ Rd w' A' (n + m) (xs ++ news) ∧ Below w.heap.size w w' ∧ CutAt w w' e A A' m := by
  obtain ⟨i, hi, hz0, hz1, hz2⟩ := info_parts T.hi
  rcases B with _ | bd
  · have h0 : m = 0 := by
      rcases Nat.eq_zero_or_pos m with h0 | h0
      · exact h0
      · obtain ⟨_, _, e, _⟩ := hr.2 h0; cases e
    subst h0
    have hn : news = [] := List.eq_nil_of_length_eq_zero hr.1
    subst hn
    refine ⟨A, n, w, ?_, Nat.le_refl _, by simpa using hA, Below.refl _ _, .inl ⟨rfl, rfl⟩⟩
    rcases A with _ | a
    · have hn := hn0 rfl
      subst hn
      simp [Builtin.append_, run_underlying T.ht, sizeOf, typeInfo, hi, Builtin.lenOf, Builtin.firstCells]
    · simp [Builtin.append_, run_underlying T.ht, sizeOf, typeInfo, hi, Builtin.lenOf, Builtin.firstCells, storeCells]
  · have hcells : ∀ j u, news[j]? = some u → w.cell? (bd.add j) = some u := by
      intro j u hu
      have hj : j < m := by
        have := (List.getElem?_eq_some_iff.1 hu).1
        have := hr.1
        omega
      obtain ⟨b, off, e, _, hc⟩ := hr.2 (by omega)
      injection e with e
      subst e
      rw [Addr.add_lit, hc j hj, hu]
    rcases A with _ | a
    · have hn := hn0 rfl
      subst hn
      have hxs : xs = [] := List.eq_nil_of_length_eq_zero hA.1
      subst hxs
      obtain ⟨v', w', hrun, h2, h3, h4⟩ := append_rd2 T ty (World.ownsRow_nil w w.heap.size e 1) hr h1 (by omega) hby (Nat.le_refl _) c
      obtain ⟨A', C, rfl, hc, hrd⟩ := rd_of_own h2
      refine ⟨A', C, w', hrun, hc, hrd, h3, ?_⟩
      rcases h2.2 with ⟨e1, e2⟩ | ⟨g, cap, cur, e1, e2, e3, _⟩
      · simp only [Value.slice.injEq] at e1
        exact .inl ⟨e1.1, by omega⟩
      · simp only [Value.slice.injEq] at e1
        exact .inr ⟨g, _, e1.1, e2, e3⟩
    · obtain ⟨g, rfl⟩ := hA0 a rfl
      rcases Nat.eq_zero_or_pos m with h0 | h0
      · subst h0
        have hn : news = [] := List.eq_nil_of_length_eq_zero hr.1
        subst hn
        have hrun := run_append_room_cells (P := P) w t ty e i T.ht hi g 0 n n bd 0 c [] (by simp) (by simp) (by simp) (by omega) (by simp) (by simp)
        exact ⟨_, n, w, hrun, Nat.le_refl _, by simpa using hA, Below.refl _ _, .inl ⟨rfl, rfl⟩⟩
      · have holds : ∀ j u, xs[j]? = some u → w.cell? ((⟨g, 0, none⟩ : Addr).add j) = some u := by
          intro j u hu
          have hj : j < n := by
            have := (List.getElem?_eq_some_iff.1 hu).1
            have := hA.1
            omega
          obtain ⟨b, off, e, _, hc⟩ := hA.2 (by omega)
          injection e with e
          injection e with e1 e2
          subst e1 e2
          rw [Addr.add_lit, hc j hj, hu]
        have hmul : (n + m) * bytes ≤ 1000000 * 64 := Nat.mul_le_mul hm hby
        obtain ⟨v', w', hrun, h2, h3⟩ := run_append_arg_grows (P := P) w t ty e i z 1 bytes T.ht hi hz0 hz1 hz2 T.hz (by decide) ⟨g, 0, none⟩ n n xs (by have := hA.1; omega) holds bd m c news (by have := hr.1; omega) hcells (by omega) (by unfold maxLen; omega) (by omega)
        obtain ⟨A', C, rfl, hc, hrd⟩ := rd_of_own h2
        refine ⟨A', C, w', hrun, hc, hrd, (Below.refl _ _).grown h3 (Nat.le_refl _) (fun k hk => nomatch hk), ?_⟩
        rcases h2.2 with ⟨e1, e2⟩ | ⟨g', cap, cur, e1, e2, e3, _⟩
        · omega
        · simp only [Value.slice.injEq] at e1
          exact .inr ⟨g', _, e1.1, e2, e3⟩

theorem step_app_cut {P : Program} {ops : Array Oper} {o : Oper} {a : Act} {w : World} {K : Act → World → Prop} {Q : Exit → Act → World → Prop} {E : Prop} (hgd : o.guard = none) (s x : Operand) (t : TypeId)
    (ho : o.op = .call { callee := .builtin .append, args := #[s, x], argTypes := #[t, t] }) {e : TypeId} {z : Value} {bytes : Nat} (T : RowTy P t e z bytes)
    (A : Option Addr) (n : Nat) (xs : List Value) (hs : a.eval s = .slice A n n) (hA : Rd w A n xs) (hA0 : ∀ a, A = some a → ∃ g, a = ⟨g, 0, none⟩) (hn0 : A = none → n = 0)
    (B : Option Addr) (m c : Nat) (news : List Value) (hx : a.eval x = .slice B m c) (hr : Rd w B m news) (h1 : ∀ u ∈ news, u.oneCell' = true) (hm : n + m ≤ 1000000) (hby : bytes ≤ 64)
    (h : ∀ A' C w', n + m ≤ C → Rd w' A' (n + m) (xs ++ news) → Below w.heap.size w w' → CutAt w w' e A A' m → K (a.put o.dst (.slice A' (n + m) C)) w') :
    if Region.wanted o (yielded ops a.tmps) = true then Oper.wp P o a w K Q else E := by
  have hwt : Region.wanted o (yielded ops a.tmps) = true := by simp [Region.wanted, hgd]
  rw [if_pos hwt]
  obtain ⟨A', C, w', hrun, h2, h3, h4, h5⟩ := append_cut T o.type hA hA0 hn0 hr h1 hm hby c
  unfold Oper.wp execOp
  simp only [ho, resolve, invoke, builtin, Sem.run_bind, Sem.run_pure, Result.andThen_ok, List.map_toArray, List.map_cons, List.map_nil, hs, hx, hrun]
  exact h A' C w' h2 h3 h4 h5

/-- The same, of one value that was laid just ahead of it. -/
theorem step_app_cut1 {P : Program} {ops : Array Oper} {o : Oper} {a : Act} {w : World} {K : Act → World → Prop} {Q : Exit → Act → World → Prop} {E : Prop} (hgd : o.guard = none) (s x : Operand) (t : TypeId)
    (ho : o.op = .call { callee := .builtin .append, args := #[s, x], argTypes := #[t, t] }) {e : TypeId} {z : Value} {bytes : Nat} (T : RowTy P t e z bytes)
    (wr : World) (A : Option Addr) (n : Nat) (xs : List Value) (hs : a.eval s = .slice A n n) (hA : Rd wr A n xs) (hA0 : ∀ a, A = some a → ∃ g, a = ⟨g, 0, none⟩) (hn0 : A = none → n = 0)
    (u : Value) (hw : w.heap = wr.heap.push (.cells #[u] e)) (hos : w.os = wr.os) (htape : w.tape = wr.tape) (hout : w.output = wr.output) (gx c : Nat) (hx : a.eval x = .slice (some ⟨gx, 0, none⟩) 1 c) (hgx : wr.heap.size = gx)
    (h1 : u.oneCell' = true) (hm : n + 1 ≤ 1000000) (hby : bytes ≤ 64)
    (h : ∀ A' C w', n + 1 ≤ C → Rd w' A' (n + 1) (xs ++ [u]) → Below wr.heap.size wr w' → CutAt wr w' e A A' 1 → K (a.put o.dst (.slice A' (n + 1) C)) w') :
    if Region.wanted o (yielded ops a.tmps) = true then Oper.wp P o a w K Q else E := by
  subst hgx
  have hbl : Below wr.heap.size wr w := ⟨hos, htape, hout, by rw [hw]; simp, fun k hk => by rw [hw, Array.getElem?_push, if_neg (by omega)]⟩
  have hb : Blk w wr.heap.size e [u] := by unfold Blk; rw [hw, Array.getElem?_push, if_pos rfl]
  refine step_app_cut hgd s x t ho T A n xs hs (Rd.below hA hbl) hA0 hn0 (some ⟨wr.heap.size, 0, none⟩) 1 c [u] hx hb.rd (fun v hv => by rw [List.mem_singleton] at hv; exact hv ▸ h1) hm hby ?_
  intro A' C w' q1 q2 q3 q4
  refine h A' C w' q1 q2 (hbl.trans (q3.mono hbl.size)) ?_
  rcases q4 with h2 | ⟨g, cs, h2, h3, h4⟩
  · exact .inl h2
  · exact .inr ⟨g, cs, h2, Nat.le_trans hbl.size h3, h4⟩

theorem wpList_app_cut {P : Program} {ops : Array Oper} {rest : List Oper} {o : Oper} {a : Act} {w : World} {Q : Exit → Act → World → Prop} (hgd : o.guard = none) (s x : Operand) (t : TypeId)
    (ho : o.op = .call { callee := .builtin .append, args := #[s, x], argTypes := #[t, t] }) {e : TypeId} {z : Value} {bytes : Nat} (T : RowTy P t e z bytes)
    (A : Option Addr) (n : Nat) (xs : List Value) (hs : a.eval s = .slice A n n) (hA : Rd w A n xs) (hA0 : ∀ a, A = some a → ∃ g, a = ⟨g, 0, none⟩) (hn0 : A = none → n = 0)
    (B : Option Addr) (m c : Nat) (news : List Value) (hx : a.eval x = .slice B m c) (hr : Rd w B m news) (h1 : ∀ u ∈ news, u.oneCell' = true) (hm : n + m ≤ 1000000) (hby : bytes ≤ 64)
    (h : ∀ A' C w', n + m ≤ C → Rd w' A' (n + m) (xs ++ news) → Below w.heap.size w w' → CutAt w w' e A A' m → wpList P ops Q rest (a.put o.dst (.slice A' (n + m) C)) w') : wpList P ops Q (o :: rest) a w := by
  refine wpList_plain hgd fun K hK => ?_
  obtain ⟨A', C, w', hrun, h2, h3, h4, h5⟩ := append_cut T o.type hA hA0 hn0 hr h1 hm hby c
  unfold Oper.wp execOp
  simp only [ho, resolve, invoke, builtin, Sem.run_bind, Sem.run_pure, Result.andThen_ok, List.map_toArray, List.map_cons, List.map_nil, hs, hx, hrun]
  exact hK _ _ (h A' C w' h2 h3 h4 h5)

end Go.Proofs.YtklcklflnkbccaaGreatDoor

/- append of whole rows whose elements have several cells. No statement of the program. -/
namespace Go.Proofs.YtklcklflnkbccaaGreatDoor
open Go.RowKit

theorem append_rdk {P : Program} {t e : TypeId} {z : Value} {k bytes : Nat} (T : RowTyK P t e z k bytes) (hk0 : 0 < k) (ty : TypeId) {w : World} {base : Nat} {v : Value} {n : Nat} {xs news : List Value}
    (hown : w.ownsRow base e k v n xs) {A : Option Addr} {m : Nat} (hr : Rd w A (m * k) news)
    (h1 : ∀ u ∈ news, u.oneCell' = true) (hm : n + m ≤ 1000000) (hby : bytes ≤ 1000) (hbase : base ≤ w.heap.size) (c : Nat) :
    ∃ v' w', (Builtin.append_ #[t, t] ty #[v, .slice A m c]).run P w = .ok v' w' ∧ w'.ownsRow base e k v' (n + m) (xs ++ news) ∧ Below base w w' ∧ Kept w w' v.ownBlock := by
  obtain ⟨i, hi, hz0, hz1, hz2⟩ := info_parts T.hi
  rcases A with _ | ad
  · have h0 : m = 0 := by
      rcases Nat.eq_zero_or_pos m with h0 | h0
      · exact h0
      · obtain ⟨_, _, e, _⟩ := hr.2 (Nat.mul_pos h0 hk0); cases e
    subst h0
    have hn : news = [] := List.eq_nil_of_length_eq_zero (by have := hr.1; omega)
    subst hn
    refine ⟨v, w, ?_, by simpa using hown, Below.refl _ _, Kept.refl _ _⟩
    rcases hown.2 with ⟨rfl, rfl⟩ | ⟨g, cap, cur, rfl, _, _, hnc, _⟩
    · simp [Builtin.append_, run_underlying T.ht, sizeOf, typeInfo, hi, Builtin.lenOf, Builtin.firstCells]
    · simp [Builtin.append_, run_underlying T.ht, sizeOf, typeInfo, hi, Builtin.lenOf, Builtin.firstCells, hnc, storeCells]
  · have hcells : ∀ j u, news[j]? = some u → w.cell? (ad.add j) = some u := by
      intro j u hu
      have hj : j < m * k := by
        have := (List.getElem?_eq_some_iff.1 hu).1
        have := hr.1
        omega
      obtain ⟨b, off, e, _, hc⟩ := hr.2 (by omega)
      injection e with e
      subst e
      rw [Addr.add_lit, hc j hj, hu]
    have hmul : (n + m) * bytes ≤ 1000000 * 1000 := Nat.mul_le_mul hm hby
    obtain ⟨v', w', hrun, h2, h3, _⟩ := run_append_own (P := P) w base t ty e i z k bytes T.ht hi hz0 hz1 hz2 T.hz hk0 v n xs hown ad m c news hr.1 hcells h1
      (by unfold maxLen; omega) (by omega) hbase
    exact ⟨v', w', hrun, h2, (Below.refl _ _).grown h3 hbase (fun k hk => (hown.lt k hk).1), h3.size, fun k hk hne => h3.block k hk (fun h => hne h)⟩

theorem wpList_app_rows {P : Program} {ops : Array Oper} {rest : List Oper} {o : Oper} {a : Act} {w : World} {Q : Exit → Act → World → Prop} (hgd : o.guard = none) (s x : Operand) (t : TypeId)
    (ho : o.op = .call { callee := .builtin .append, args := #[s, x], argTypes := #[t, t] }) {e : TypeId} {z : Value} {k bytes : Nat} (T : RowTyK P t e z k bytes) (hk0 : 0 < k)
    (base : Nat) (v : Value) (n : Nat) (xs : List Value) (hs : a.eval s = v) (hown : w.ownsRow base e k v n xs) (A : Option Addr) (m c : Nat) (news : List Value) (hx : a.eval x = .slice A m c) (hr : Rd w A (m * k) news)
    (h1 : ∀ u ∈ news, u.oneCell' = true) (hm : n + m ≤ 1000000) (hby : bytes ≤ 1000) (hbase : base ≤ w.heap.size)
    (h : ∀ v' w', w'.ownsRow base e k v' (n + m) (xs ++ news) → Below base w w' → Kept w w' v.ownBlock → wpList P ops Q rest (a.put o.dst v') w') : wpList P ops Q (o :: rest) a w := by
  refine wpList_plain hgd fun K hK => ?_
  obtain ⟨v', w', hrun, h2, h3, h4⟩ := append_rdk T hk0 o.type hown hr h1 hm hby hbase c
  unfold Oper.wp execOp
  simp only [ho, resolve, invoke, builtin, Sem.run_bind, Sem.run_pure, Result.andThen_ok, List.map_toArray, List.map_cons, List.map_nil, hs, hx, hrun]
  exact hK _ _ (h v' w' h2 h3 h4)

end Go.Proofs.YtklcklflnkbccaaGreatDoor
