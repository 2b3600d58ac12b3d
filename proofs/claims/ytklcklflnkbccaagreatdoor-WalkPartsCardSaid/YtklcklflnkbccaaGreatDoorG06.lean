import Derived.Deep.RegionWith
import Derived.IntWalk
import Derived.Test.YtklcklflnkbccaaGreatDoorG05
/- Walks of package nvm: line.fence. -/
namespace Go.Proofs.YtklcklflnkbccaaGreatDoor
open Go.RowKit

set_option maxHeartbeats 2000000 in
theorem fence_line_no (g i : Nat) (w : World) (z3 : w.cell? ⟨g, 66 * i + 65, none⟩ = some (.int .i64 0)) :
    Calls Tryz.prog 143 #[.pointer (some ⟨g, 66 * i, none⟩)] w fun e w' => e = .returned (.tuple #[]) ∧ w = w' := by
  go_enter Tryz.func143, Tryz.ntmps143
  go_wp2
  go_end0
  exact ⟨rfl, rfl⟩

theorem slice_ch (A : Option Addr) (n c : Nat) (hn : n ≤ 1000000) : ∃ D, ∀ W, (Instr.slice 112 (.slice A n c) (some (.int .i64 (n : Int))) none none).run Tryz.prog W = .ok (.slice D 0 (c - n)) W := by
  obtain ⟨i, hi, hz0, hz1, hz2⟩ : ∃ i, Tryz.prog.info? 120 = some i ∧ i.zero = some (.agg #[.int .i64 0, .int .u64 0]) ∧ i.size = 2 ∧ i.bytes = 16 := by
    have hI : (Tryz.prog.info? 120).map (fun i => (i.zero, i.size, i.bytes)) = some (some (.agg #[.int .i64 0, .int .u64 0]), 2, 16) := by kernel_rfl
    exact info_parts hI
  refine ⟨if c = n then A else A.map (·.add (n * 2)), fun W => ?_⟩
  have e2 := run_sliceBound (P := Tryz.prog) (w := W) .i64 (n : Int) n .sliceB (by omega) (by omega)
  have e3 : (sizeOf 120).run Tryz.prog W = .ok 2 W := by simp [sizeOf, typeInfo, hi, hz1]
  simp [Instr.slice, run_underlying Tryz.underlying112, Instr.sliceBounds, e2]

set_option maxHeartbeats 2000000 in
set_option maxRecDepth 100000 in
theorem fence_line (g i n c : Nat) (A : Option Addr) (w : World) (hn : n ≤ 1000000) (z1 : w.cell? ⟨g, 66 * i + 64, none⟩ = some (.slice A n c)) (z3 : w.cell? ⟨g, 66 * i + 65, none⟩ = some (.int .i64 ((n : Int) + 1)))
    (f1 : w.frozen? ⟨g, 66 * i + 64, none⟩ = false) (f2 : w.frozen? ⟨g, 66 * i + 65, none⟩ = false) :
    Calls Tryz.prog 143 #[.pointer (some ⟨g, 66 * i, none⟩)] w fun e w' => e = .returned (.tuple #[]) ∧ ∃ B w1, Below w.heap.size w w1 ∧ w' = (w1.setCell ⟨g, 66 * i + 64, none⟩ (.slice B 0 0)).setCell ⟨g, 66 * i + 65, none⟩ (.int .i64 0) := by
  have hglt : g < w.heap.size := World.block_lt_of_cell? w _ z1
  obtain ⟨D, hD⟩ := slice_ch A n c hn
  have b1 : IntKind.i64.wrap ((n : Int) + 1 - 1) = (n : Int) := by rw [Int.add_sub_cancel]; exact IntWalk.i64_in _ (by omega)
  have b2 : IntKind.i64.wrap (n : Int) = (n : Int) := IntWalk.i64_in _ (by omega)
  have t1 : decide ((0 : Int) < (n : Int) + 1) = true := decide_eq_true (by omega)
  go_enter Tryz.func143, Tryz.ntmps143
  go_wp2_with fail
  go_region_with (go_at_call 173; go_loud (refine (clone_none _ _ _).mono ?_; rintro e w1 ⟨B, rfl, hb1⟩; have k1 := (hb1.cell (p := ⟨g, 66 * i + 64, none⟩) hglt).trans z1; have k2 := (hb1.frozen (p := ⟨g, 66 * i + 64, none⟩) hglt).trans f1; have k3 := (hb1.cell (p := ⟨g, 66 * i + 65, none⟩) hglt).trans z3; have k4 := (hb1.frozen (p := ⟨g, 66 * i + 65, none⟩) hglt).trans f2))
  all_goals (go_wp2_with fail)
  all_goals (go_end0)
  all_goals (exact ⟨rfl, B, w1, ⟨hb1.os, hb1.tape, hb1.output, hb1.size, hb1.block⟩, rfl⟩)

end Go.Proofs.YtklcklflnkbccaaGreatDoor

/- Walks of package nvm: Fence. -/
namespace Go.Proofs.YtklcklflnkbccaaGreatDoor
open Go.RowKit

/-- What a fence leaves, of the lines below k. -/
def lenF (k : Nat) (len mark : Nat → Nat) (i : Nat) : Nat := if i < k ∧ mark i ≠ 0 then 0 else len i
def markF (k : Nat) (mark : Nat → Nat) (i : Nat) : Nat := if i < k then 0 else mark i
def hbF (k : Nat) (mark : Nat → Nat) (hb : Nat → Option Nat) (i : Nat) : Option Nat := if i < k ∧ mark i ≠ 0 then none else hb i

theorem lenF_zero (len mark : Nat → Nat) : lenF 0 len mark = len := by funext i; simp [lenF]
theorem markF_zero (mark : Nat → Nat) : markF 0 mark = mark := by funext i; simp [markF]
theorem hbF_zero (mark : Nat → Nat) (hb : Nat → Option Nat) : hbF 0 mark hb = hb := by funext i; simp [hbF]
theorem lenF_no (k : Nat) (len mark : Nat → Nat) (h : mark k = 0) : lenF (k + 1) len mark = lenF k len mark := by
  funext i; unfold lenF
  by_cases e : i = k
  · subst e; simp [h]
  · simp only [show (i < k + 1) = (i < k) by apply propext; omega]
theorem markF_no (k : Nat) (mark : Nat → Nat) (h : mark k = 0) : markF (k + 1) mark = markF k mark := by
  funext i; unfold markF
  by_cases e : i = k
  · subst e; simp [h]
  · simp only [show (i < k + 1) = (i < k) by apply propext; omega]
theorem hbF_no (k : Nat) (mark : Nat → Nat) (hb : Nat → Option Nat) (h : mark k = 0) : hbF (k + 1) mark hb = hbF k mark hb := by
  funext i; unfold hbF
  by_cases e : i = k
  · subst e; simp [h]
  · simp only [show (i < k + 1) = (i < k) by apply propext; omega]
theorem lenF_yes (k : Nat) (len mark : Nat → Nat) (h : mark k ≠ 0) : lenF (k + 1) len mark = fun i => if i = k then 0 else lenF k len mark i := by
  funext i; unfold lenF
  by_cases e : i = k
  · subst e; simp [h]
  · simp only [show (i < k + 1) = (i < k) by apply propext; omega, if_neg e]
theorem markF_yes (k : Nat) (mark : Nat → Nat) : markF (k + 1) mark = fun i => if i = k then 0 else markF k mark i := by
  funext i; unfold markF
  by_cases e : i = k
  · subst e; simp
  · simp only [show (i < k + 1) = (i < k) by apply propext; omega, if_neg e]
theorem hbF_yes (k : Nat) (mark : Nat → Nat) (hb : Nat → Option Nat) (h : mark k ≠ 0) : hbF (k + 1) mark hb = fun i => if i = k then none else hbF k mark hb i := by
  funext i; unfold hbF
  by_cases e : i = k
  · subst e; simp [h]
  · simp only [show (i < k + 1) = (i < k) by apply propext; omega, if_neg e]

/-- A line's fence, on the device. -/
theorem fence_at (d L : Nat) (ws : Nat → UInt64) (len mark : Nat → Nat) (g : Nat) (hb : Nat → Option Nat) (k : Nat) (w : World) (hk : k < L) (h : DevRep w d L ws (lenF k len mark) (markF k mark) g (hbF k mark hb))
    (hm : mark k = 0 ∨ mark k = len k + 1) (hlen : len k ≤ 1000000) :
    Calls Tryz.prog 143 #[.pointer (some ⟨g, 66 * k, none⟩)] w fun e w' => e = .returned (.tuple #[]) ∧
      DevRep w' d L ws (lenF (k + 1) len mark) (markF (k + 1) mark) g (hbF (k + 1) mark hb) ∧ Touch (fun b => b = g) w w' := by
  obtain ⟨cur, hg, hs, h1, h2⟩ := h.blk
  obtain ⟨A, c, e1, e2, hc⟩ := h2 k hk
  have l1 : lenF k len mark k = len k := by simp [lenF]
  have m1 : markF k mark k = mark k := by simp [markF]
  rw [l1] at e1
  rw [m1] at e2
  have z1 : w.cell? ⟨g, 66 * k + 64, none⟩ = some (.slice A (len k) c) := by rw [cell_of_row w g _ cur _ (0, 0) hg]; exact e1
  have z3 : w.cell? ⟨g, 66 * k + 65, none⟩ = some (.int .i64 (mark k : Int)) := by rw [cell_of_row w g _ cur _ (0, 0) hg]; exact e2
  have f1 : w.frozen? ⟨g, 66 * k + 64, none⟩ = false := by simp [World.frozen?, hg]
  have f2 : w.frozen? ⟨g, 66 * k + 65, none⟩ = false := by simp [World.frozen?, hg]
  by_cases h0 : mark k = 0
  · rw [h0] at z3
    refine (fence_line_no g k w z3).mono ?_
    rintro e w' ⟨rfl, rfl⟩
    refine ⟨rfl, ?_, Touch.refl _ _⟩
    rw [lenF_no _ _ _ h0, markF_no _ _ h0, hbF_no _ _ _ h0]
    exact h
  · have hm' : mark k = len k + 1 := hm.resolve_left h0
    rw [hm', Int.natCast_add] at z3
    refine (fence_line g k (len k) c A w hlen z1 z3 f1 f2).mono ?_
    rintro e w' ⟨rfl, B, w1, hb1, rfl⟩
    refine ⟨rfl, ?_, Touch.setCell (F := fun b => b = g) (Touch.setCell (F := fun b => b = g) (Touch.of_below hb1) (p := ⟨g, 66 * k + 64, none⟩) (.inl rfl) _) (p := ⟨g, 66 * k + 65, none⟩) (.inl rfl) _⟩
    rw [lenF_yes _ _ _ h0, markF_yes, hbF_yes _ _ _ h0]
    exact h.clear hk hb1 B

set_option maxHeartbeats 2000000 in
theorem fence_dev (d L : Nat) (ws : Nat → UInt64) (len mark : Nat → Nat) (g : Nat) (hb : Nat → Option Nat) (w : World) (hL : L ≤ 1024) (hL0 : 0 < L) (h : DevRep w d L ws len mark g hb)
    (hm : ∀ i, i < L → mark i = 0 ∨ mark i = len i + 1) (hlen : ∀ i, i < L → len i ≤ 1000000) :
    Calls Tryz.prog 109 #[.pointer (some ⟨d, 0, none⟩)] w fun e w' => e = .returned (.int .i64 0) ∧
      DevRep w' d L ws (lenF L len mark) (markF L mark) g (hbF L mark hb) ∧ Touch (devOwn d L g hb) w w' := by
  obtain ⟨st, hbx⟩ := h.box
  obtain ⟨y0, y1, y2, y3, f0, f1, f2, f3⟩ := blk4' hbx
  have ha := ask_ok d L g 0 1 (.int .i64 (-1)) (.int .i64 st) w hL hbx (by omega) (by decide) (by decide) (by decide)
  have HA := Lib.hid ha
  have H := Lib.hid h
  have HM := Lib.hid hm
  have HL := Lib.hid hlen
  clear ha h hbx hm hlen
  go_enter Tryz.func109, Tryz.ntmps109
  go_wp2_with fail
  refine HA.out.mono ?_
  rintro e w' ⟨rfl, rfl⟩
  clear HA
  go_wp2_with fail
  clear y0 y1 y2 y3 f0 f1 f2 f3
  go_loopw [15] (fun i wr => ∃ k : Nat, k ≤ L ∧ i = .int .i64 k ∧ DevRep wr d L ws (lenF k len mark) (markF k mark) g (hbF k mark hb) ∧ Touch (fun b => b = g) w wr) (fun i _ => L - (intOf i).toNat)
  case atStart => exact ⟨0, Nat.zero_le _, rfl, by rw [lenF_zero, markF_zero, hbF_zero]; exact H.out, Touch.refl _ _⟩
  case round =>
    obtain ⟨k, hk, rfl, hr, ht⟩ := hrel
    obtain ⟨st2, hbx2⟩ := hr.box
    obtain ⟨y0, y1, y2, y3, f0, f1, f2, f3⟩ := blk4' hbx2
    by_cases hlt : k < L
    · have HF := Lib.hid (fence_at d L ws len mark g hb k wr hlt hr (HM.out k hlt) (HL.out k hlt))
      have HT := Lib.hid ht
      clear hr ht hbx2
      go_wp2_with fail
      rw [show k * 66 = 66 * k by omega]
      refine HF.out.mono ?_
      rintro e w2 ⟨rfl, hr2, ht2⟩
      have ht3 := HT.out.trans ht2 (fun b hb' => .inl hb')
      clear HF HT y0 y1 y2 y3 f0 f1 f2 f3 ht2
      go_wp2_with fail
      go_roundw
      case rel => exact ⟨k + 1, by omega, by go_num, hr2, ht3⟩
      case measure => simp [intOf]; omega
    · have hkn : k = L := by omega
      subst hkn
      have HD := Lib.hid (done_dev d g k st2 wr hbx2)
      have HR := Lib.hid hr
      have HT := Lib.hid ht
      clear hr ht hbx2
      go_wp2_with fail
      refine HD.out.mono ?_
      rintro e w2 ⟨rfl, st', rfl⟩
      clear HD
      go_wp2_with fail
      go_ret
      exact ⟨rfl, HR.out.step st', (HT.out.mono (fun b e => .inr (.inl e))).setCell (.inl (.inl rfl)) _⟩

end Go.Proofs.YtklcklflnkbccaaGreatDoor

/- Walks of package nvm: New. -/
namespace Go.Proofs.YtklcklflnkbccaaGreatDoor
open Go.RowKit

def zeroLine : Array Value := (List.replicate 64 (Value.int .u8 0) ++ [Value.slice none 0 0, Value.int .i64 0]).toArray

theorem Tryz.zeroOfLine : (Tryz.prog.info? 114).bind (fun i => i.zero.map (fun z => (z.cells, i.size, i.bytes))) = some (zeroLine, 66, 96) := by kernel_rfl

theorem zero_bytes (i : Nat) : leBytes (lineW (fun _ => 0) i) = List.replicate 64 0 := by
  have : lineW (fun _ => 0) i = List.replicate 8 0 := by
    apply List.ext_getElem
    · simp [lineW]
    · intro t h1 h2; rw [lineW_get, List.getElem_replicate]
  rw [this]; decide

theorem made_line (L i k : Nat) (hi : i < L) (hk : k < 66) : (madeCells zeroLine (L * 66))[66 * i + k]? = zeroLine[k]? := by
  have hs : zeroLine.size = 66 := rfl
  have : 66 * i + k < L * 66 := by omega
  unfold madeCells
  rw [Array.getElem?_map, hs]
  simp only [Array.getElem?_range, this, if_true, Option.map_some]
  rw [show (66 * i + k) % 66 = k by omega, getElem!_pos zeroLine k (by rw [hs]; exact hk), Array.getElem?_eq_getElem (by rw [hs]; exact hk)]

theorem DevRep.made {w : World} {d g L : Nat} {st : Int} (hd : Blk w d 117 [.slice (some ⟨g, 0, none⟩) L L, .bool false, .int .i64 (-1), .int .i64 st]) (hne : g ≠ d) (hg : w.heap[g]? = some (.cells (madeCells zeroLine (L * 66)) 114 (0, 0))) :
    DevRep w d L (fun _ => 0) (fun _ => 0) (fun _ => 0) g (fun _ => none) := by
  refine ⟨⟨st, hd⟩, hne, ⟨_, hg, by rw [size_madeCells]; omega, fun i hi k hk => ?_, fun i hi => ⟨none, 0, ?_, ?_, .inl ⟨rfl, rfl, rfl⟩⟩⟩, fun i hi h hh => (by cases hh), fun i j hi hj hij h hh => (by cases hh), fun i hi => Nat.zero_le _⟩
  · rw [made_line L i k hi (by omega), zero_bytes, List.getElem?_replicate, if_pos hk]
    show (List.replicate 64 (Value.int .u8 0) ++ [Value.slice none 0 0, Value.int .i64 0]).toArray[k]? = _
    rw [List.getElem?_toArray, List.getElem?_append_left (by simpa using hk), List.getElem?_replicate, if_pos hk]
    rfl
  · rw [made_line L i 64 hi (by decide)]; rfl
  · rw [made_line L i 65 hi (by decide)]; rfl

set_option maxHeartbeats 1000000 in
set_option maxRecDepth 100000 in
theorem new_dev (L : Nat) (w : World) (hL0 : 1 ≤ L) (hL : L ≤ 1024) :
    Calls Tryz.prog 66 #[.int .i64 (L : Int)] w fun e w' => ∃ d g, e = .returned (.pointer (some ⟨d, 0, none⟩)) ∧
      DevRep w' d L (fun _ => 0) (fun _ => 0) (fun _ => 0) g (fun _ => none) ∧ w.heap.size ≤ d ∧ w.heap.size ≤ g ∧ Below w.heap.size w w' := by
  obtain ⟨i0, z, hi, hz0, hz1, hz2, hz3⟩ : ∃ i z, Tryz.prog.info? 114 = some i ∧ i.zero = some z ∧ i.size = 66 ∧ i.bytes = 96 ∧ z.cells = zeroLine := by
    have h := Tryz.zeroOfLine
    cases hh : Tryz.prog.info? 114 with
    | none => rw [hh] at h; cases h
    | some i =>
      rw [hh] at h
      cases hz : i.zero with
      | none => simp [hz] at h
      | some z => simp [hz] at h; exact ⟨i, z, rfl, hz, h.2.1, h.2.2, h.1⟩
  go_enter Tryz.func66, Tryz.ntmps66
  go_wp2_with (at_make; refine wpList_make_full _ rfl _ _ 115 rfl w.heap.size 114 i0 z 66 Tryz.underlying115 hi hz0 hz1 .i64 .i64 _ _ L rfl rfl rfl rfl (by rw [hz2]; omega) (by unfold maxLen; omega) (Nat.le_refl _) ?_; intro w0 hown0 hgrow0)
  have hb0 : Below w.heap.size w w0 := (Below.refl _ _).grown hgrow0 (Nat.le_refl _) (by simp)
  rw [hz3] at hown0
  have hg : w0.heap[w.heap.size]? = some (.cells (madeCells zeroLine (L * 66)) 114 (0, 0)) := by
    rcases hown0.2 with ⟨h, _⟩ | ⟨g, cap, cur, h, _, hgg, _, _, hcs, ht⟩
    · cases h
    · simp only [Value.slice.injEq, Option.some.injEq, Addr.mk.injEq, and_true, true_and] at h
      obtain ⟨rfl, rfl⟩ := h
      rw [List.take_of_length_le (by rw [Array.length_toList]; omega)] at ht
      rw [hgg, Array.toList_inj.1 ht]
  have hsz : w.heap.size < w0.heap.size := (Array.getElem?_eq_some_iff.1 hg).1
  clear hgrow0 hown0
  go_ret
  refine ⟨w0.heap.size, w.heap.size, rfl, DevRep.made (heap_alloc_new w0 _) (by omega) ((heap_alloc_old w0 _ hsz).trans hg), by omega, Nat.le_refl _, hb0.alloc (by omega) _⟩

end Go.Proofs.YtklcklflnkbccaaGreatDoor

/- Walks of package sure: store, flush (the makers of steps), within. -/
namespace Go.Proofs.YtklcklflnkbccaaGreatDoor
open Go.RowKit

/-- A step that stores: its closure, and what lies in its boxes. -/
theorem store_mk (d : Nat) (off x : Int) (w : World) :
    Calls Tryz.prog 107 #[.pointer (some ⟨d, 0, none⟩), .int .i64 off, .int .u64 x] w fun e w' => e = .returned (.func (.func 140) #[] #[.pointer (some ⟨w.heap.size, 0, none⟩), .pointer (some ⟨w.heap.size + 1, 0, none⟩), .pointer (some ⟨w.heap.size + 1 + 1, 0, none⟩)]) ∧
      w' = ((w.alloc (.cells #[.pointer (some ⟨d, 0, none⟩)] 48)).alloc (.cells #[.int .i64 off] 3)).alloc (.cells #[.int .u64 x] 33) := by
  go_enter Tryz.func107, Tryz.ntmps107
  go_wp2
  go_ret
  exact ⟨rfl, rfl⟩

/-- A step that flushes. -/
theorem flush_mk (d : Nat) (off : Int) (w : World) :
    Calls Tryz.prog 108 #[.pointer (some ⟨d, 0, none⟩), .int .i64 off] w fun e w' => e = .returned (.func (.func 141) #[] #[.pointer (some ⟨w.heap.size, 0, none⟩), .pointer (some ⟨w.heap.size + 1, 0, none⟩)]) ∧
      w' = (w.alloc (.cells #[.pointer (some ⟨d, 0, none⟩)] 48)).alloc (.cells #[.int .i64 off] 3) := by
  go_enter Tryz.func108, Tryz.ntmps108
  go_wp2
  go_ret
  exact ⟨rfl, rfl⟩

set_option maxHeartbeats 1000000 in
theorem within_ok (d L g off n : Nat) (v2 v3 : Value) (w : World) (hL0 : 1 ≤ L) (hL : L ≤ 1024) (h : Blk w d 117 [.slice (some ⟨g, 0, none⟩) L L, .bool false, v2, v3]) (h8 : off % 8 = 0) (hn : off + 8 * n ≤ L * 64) :
    Calls Tryz.prog 122 #[.pointer (some ⟨d, 0, none⟩), .int .i64 (off : Int), .int .i64 (n : Int)] w fun e w' => e = .returned (.int .i64 0) ∧ w = w' := by
  have hs := size_dev d L g (.bool false) v2 v3 w hL h
  have HS := Lib.hid hs
  obtain ⟨N, hN⟩ : ∃ N, N = L * 64 := ⟨_, rfl⟩
  rw [← hN] at hs HS hn
  have t1 : ((N : Int) == 0) = false := by rw [beq_eq_false_iff_ne]; omega
  have t2 : decide ((off : Int) < 0) = false := decide_eq_false (by omega)
  have t3 : decide ((N : Int) < (off : Int)) = false := decide_eq_false (by omega)
  have t4 : ((off : Int) % 8 != 0) = false := by
    have : (off : Int) % 8 = 0 := by omega
    rw [this]; rfl
  have t5 : decide ((n : Int) < 0) = false := decide_eq_false (by omega)
  have t6 : decide (((N : Int) - (off : Int)) / 8 < (n : Int)) = false := decide_eq_false (by omega)
  have hN2 : N ≤ 65536 := by omega
  have hle : off ≤ N := by omega
  clear hs h
  go_enter Tryz.func122, Tryz.ntmps122
  go_wp2_with fail
  refine HS.out.mono ?_
  rintro e w' ⟨rfl, rfl⟩
  clear HS hN
  go_wp2_with fail
  go_ret
  exact ⟨rfl, rfl⟩

end Go.Proofs.YtklcklflnkbccaaGreatDoor

/- Walks of package sure: the steps themselves. -/
namespace Go.Proofs.YtklcklflnkbccaaGreatDoor
open Go.RowKit

/-- A store's step, as Store answers. -/
theorem step_store {Q : Ending → World → Prop} (b1 b2 b3 : Nat) (D : Value) (off x : Int) (w : World) (h1 : w.cell? ⟨b1, 0, none⟩ = some D) (hD : ∃ A, D = .pointer A) (h2 : w.cell? ⟨b2, 0, none⟩ = some (.int .i64 off)) (h3 : w.cell? ⟨b3, 0, none⟩ = some (.int .u64 x))
    (hc : Calls Tryz.prog 21 #[D, .int .i64 off, .int .u64 x] w fun e w' => e = .returned (.int .i64 0) ∧ Q e w') :
    Calls Tryz.prog 140 #[.pointer (some ⟨b1, 0, none⟩), .pointer (some ⟨b2, 0, none⟩), .pointer (some ⟨b3, 0, none⟩)] w fun e w' => e = .returned (.int .i64 0) ∧ Q e w' := by
  obtain ⟨A, rfl⟩ := hD
  have HC := Lib.hid hc
  clear hc
  go_enter Tryz.func140, Tryz.ntmps140
  go_wp2_with fail
  refine HC.out.mono ?_
  rintro e w' ⟨rfl, hq⟩
  go_wp2_with fail
  go_ret
  exact ⟨rfl, hq⟩

theorem step_flush {Q : Ending → World → Prop} (b1 b2 : Nat) (D : Value) (off : Int) (w : World) (h1 : w.cell? ⟨b1, 0, none⟩ = some D) (hD : ∃ A, D = .pointer A) (h2 : w.cell? ⟨b2, 0, none⟩ = some (.int .i64 off))
    (hc : Calls Tryz.prog 142 #[D, .int .i64 off] w fun e w' => e = .returned (.int .i64 0) ∧ Q e w') :
    Calls Tryz.prog 141 #[.pointer (some ⟨b1, 0, none⟩), .pointer (some ⟨b2, 0, none⟩)] w fun e w' => e = .returned (.int .i64 0) ∧ Q e w' := by
  obtain ⟨A, rfl⟩ := hD
  have HC := Lib.hid hc
  clear hc
  go_enter Tryz.func141, Tryz.ntmps141
  go_wp2_with fail
  refine HC.out.mono ?_
  rintro e w' ⟨rfl, hq⟩
  go_wp2_with fail
  go_ret
  exact ⟨rfl, hq⟩

end Go.Proofs.YtklcklflnkbccaaGreatDoor

/- Walks of package sure: run. -/
namespace Go.Proofs.YtklcklflnkbccaaGreatDoor
open Go.RowKit

set_option maxHeartbeats 2000000 in
set_option maxRecDepth 20000 in
/-- The steps one after the other: I says what holds behind k of them. -/
theorem run_steps (A : Option Addr) (n c : Nat) (Fs : Nat → Nat) (firsts caps : Nat → Array Value) (I : Nat → World → Prop) (w : World) (hn : n ≤ 1000000) (h0 : I 0 w)
    (hf : ∀ k, k < n → ∀ W, (callFunc (Fs k) (firsts k ++ caps k)).run Tryz.prog W = .ok (.enter (Fs k) (firsts k ++ caps k)) W)
    (hrd : ∀ k W, I k W → Rd W A n ((List.range n).map fun k => Value.func (.func (Fs k)) (firsts k) (caps k)))
    (hst : ∀ k W, k < n → I k W → Calls Tryz.prog (Fs k) (firsts k ++ caps k) W fun e w' => e = .returned (.int .i64 0) ∧ I (k + 1) w') :
    Calls Tryz.prog 106 #[.slice A n c] w fun e w' => e = .returned (.int .i64 0) ∧ I n w' := by
  have HRD := Lib.hid hrd
  have HST := Lib.hid hst
  have HFF := Lib.hid hf
  clear hrd hst hf
  go_enter Tryz.func106, Tryz.ntmps106
  go_wp2_with fail
  go_loopw [8] (fun i wr => ∃ k : Nat, k ≤ n ∧ i = .int .i64 k ∧ I k wr) (fun i _ => n - (intOf i).toNat)
  case atStart => exact ⟨0, Nat.zero_le _, rfl, h0⟩
  case round =>
    obtain ⟨k, hk, rfl, hI⟩ := hrel
    by_cases hlt : k < n
    · obtain ⟨b, off, rfl, hb, hcl⟩ := (HRD.out k wr hI).2 (by omega)
      have hc := hcl k hlt
      simp only [List.getElem?_map, List.getElem?_range hlt, Option.map_some] at hc
      have hcall := HST.out k wr hlt hI
      have HC := Lib.hid hcall
      have hcf := HFF.out k hlt
      clear hcl hcall h0
      go_wp2_with fail
      refine HC.out.mono ?_
      rintro e w2 ⟨rfl, hI2⟩
      clear HC hc hcf
      go_wp2_with fail
      go_roundw
      case rel => exact ⟨k + 1, by omega, by go_num, hI2⟩
      case measure => simp [intOf]; omega
    · have hkn : k = n := by omega
      subst hkn
      go_wp2_with fail
      go_ret
      exact ⟨rfl, hI⟩

end Go.Proofs.YtklcklflnkbccaaGreatDoor

/- The device's steps, seen from an earlier world. -/
namespace Go.Proofs.YtklcklflnkbccaaGreatDoor
open Go.RowKit

/-- The device in W; of w0's blocks only those have turned that it owned there. -/
def Dv (w0 : World) (d L g : Nat) (hb0 : Nat → Option Nat) (ws : Nat → UInt64) (len mark : Nat → Nat) (W : World) : Prop :=
  ∃ hb, (∀ b, devOwn d L g hb b → devOwn d L g hb0 b ∨ w0.heap.size ≤ b) ∧ DevRep W d L ws len mark g hb ∧ Touch (devOwn d L g hb0) w0 W

theorem Dv.start {w0 W : World} {d L g : Nat} {hb0 : Nat → Option Nat} {ws : Nat → UInt64} {len mark : Nat → Nat} (h : DevRep w0 d L ws len mark g hb0) (hb : Below w0.heap.size w0 W) : Dv w0 d L g hb0 ws len mark W :=
  ⟨hb0, fun _ h => .inl h, h.below hb, Touch.of_below hb⟩

theorem store_in {w0 W : World} {d L g : Nat} {hb0 : Nat → Option Nat} {ws : Nat → UInt64} {len mark : Nat → Nat} (h : Dv w0 d L g hb0 ws len mark W) (hL : L ≤ 1024) (j : Nat) (x : UInt64) (hj : j < 8 * L) (hlen : len (j / 8) ≤ 1000000) :
    Calls Tryz.prog 21 #[.pointer (some ⟨d, 0, none⟩), .int .i64 ((8 * j : Nat) : Int), .int .u64 (x.toNat : Int)] W fun e w' => e = .returned (.int .i64 0) ∧
      ∃ len', (len' = len ∨ len' = fun k => if k = j / 8 then len (j / 8) + 1 else len k) ∧ Dv w0 d L g hb0 (fun i => if i = j then x else ws i) len' mark w' := by
  obtain ⟨hb, ho, hr, ht⟩ := h
  by_cases he : ws j = x
  · subst he
    refine (store_same d L ws len mark g hb j W hL hr hj).mono ?_
    rintro e w' ⟨rfl, st, rfl⟩
    refine ⟨rfl, len, .inl rfl, hb, ho, ?_, ht.setCell (.inl (.inl rfl)) _⟩
    rw [show (fun i => if i = j then ws j else ws i) = ws by funext i; by_cases e : i = j <;> simp [e]]
    exact hr.step st
  · refine (store_new d L ws len mark g hb j x W hL hr hj he hlen).mono ?_
    rintro e w' ⟨rfl, g2, hg2, hr2, ht2⟩
    refine ⟨rfl, _, .inr rfl, _, fun b hb' => ?_, hr2, ht.trans ht2 (fun b h => ho b h)⟩
    rcases hb' with h | h | ⟨i, hi, h⟩
    · exact .inl (.inl h)
    · exact .inl (.inr (.inl h))
    · change (if i = j / 8 then some g2 else hb i) = some b at h
      by_cases e : i = j / 8
      · rw [if_pos e] at h
        injection h with h
        subst h
        rcases hg2 with hg2 | hg2
        · exact ho _ (.inr (.inr ⟨j / 8, by omega, hg2⟩))
        · exact .inr (Nat.le_trans ht.size hg2)
      · rw [if_neg e] at h
        exact ho _ (.inr (.inr ⟨i, hi, h⟩))

theorem flush_in {w0 W : World} {d L g : Nat} {hb0 : Nat → Option Nat} {ws : Nat → UInt64} {len mark : Nat → Nat} (h : Dv w0 d L g hb0 ws len mark W) (hL : L ≤ 1024) (off : Nat) (hj : off < 64 * L) (hlen : len (off / 64) ≤ 1000001) :
    Calls Tryz.prog 142 #[.pointer (some ⟨d, 0, none⟩), .int .i64 (off : Int)] W fun e w' => e = .returned (.int .i64 0) ∧
      Dv w0 d L g hb0 ws len (fun k => if k = off / 64 then len (off / 64) + 1 else mark k) w' := by
  obtain ⟨hb, ho, hr, ht⟩ := h
  refine (flush_dev d L ws len mark g hb off W hL hr hj hlen).mono ?_
  rintro e w' ⟨rfl, hr2, ht2⟩
  exact ⟨rfl, hb, ho, hr2, ht.trans ht2 (fun b h => ho b h)⟩

theorem fence_in {w0 W : World} {d L g : Nat} {hb0 : Nat → Option Nat} {ws : Nat → UInt64} {len mark : Nat → Nat} (h : Dv w0 d L g hb0 ws len mark W) (hL : L ≤ 1024) (hL0 : 0 < L)
    (hm : ∀ i, i < L → mark i = 0 ∨ mark i = len i + 1) (hlen : ∀ i, i < L → len i ≤ 1000000) :
    Calls Tryz.prog 109 #[.pointer (some ⟨d, 0, none⟩)] W fun e w' => e = .returned (.int .i64 0) ∧
      Dv w0 d L g hb0 ws (lenF L len mark) (markF L mark) w' := by
  obtain ⟨hb, ho, hr, ht⟩ := h
  refine (fence_dev d L ws len mark g hb W hL hL0 hr hm hlen).mono ?_
  rintro e w' ⟨rfl, hr2, ht2⟩
  refine ⟨rfl, _, fun b hb' => ?_, hr2, ht.trans ht2 (fun b h => ho b h)⟩
  rcases hb' with h | h | ⟨i, hi, h⟩
  · exact .inl (.inl h)
  · exact .inl (.inr (.inl h))
  · unfold hbF at h
    by_cases e : i < L ∧ mark i ≠ 0
    · rw [if_pos e] at h; cases h
    · rw [if_neg e] at h
      exact ho _ (.inr (.inr ⟨i, hi, h⟩))

end Go.Proofs.YtklcklflnkbccaaGreatDoor

/- Walks of package sure: Put. -/
namespace Go.Proofs.YtklcklflnkbccaaGreatDoor
open Go.RowKit

def putI (W0 : World) (d L g : Nat) (hb : Nat → Option Nat) (ws : Nat → UInt64) (j : Nat) (x : UInt64) (k : Nat) (W : World) : Prop :=
  match k with
  | 0 => Dv W0 d L g hb ws (fun _ => 0) (fun _ => 0) W
  | 1 => ∃ m, m ≤ 1 ∧ Dv W0 d L g hb (fun i => if i = j then x else ws i) (fun k => if k = j / 8 then m else 0) (fun _ => 0) W
  | 2 => ∃ m, m ≤ 1 ∧ Dv W0 d L g hb (fun i => if i = j then x else ws i) (fun k => if k = j / 8 then m else 0) (fun k => if k = j / 8 then m + 1 else 0) W
  | _ => Dv W0 d L g hb (fun i => if i = j then x else ws i) (fun _ => 0) (fun _ => 0) W

theorem putI_touch {W0 : World} {d L g : Nat} {hb : Nat → Option Nat} {ws : Nat → UInt64} {j : Nat} {x : UInt64} {k : Nat} {W : World} (h : putI W0 d L g hb ws j x k W) : Touch (devOwn d L g hb) W0 W := by
  match k, h with
  | 0, ⟨_, _, _, t⟩ => exact t
  | 1, ⟨_, _, _, _, _, t⟩ => exact t
  | 2, ⟨_, _, _, _, _, t⟩ => exact t
  | _ + 3, ⟨_, _, _, t⟩ => exact t

theorem put_0 {W0 W : World} {d L g : Nat} {hb : Nat → Option Nat} {ws : Nat → UInt64} {j : Nat} {x : UInt64} (hL : L ≤ 1024) (hj : j < 8 * L) (h : putI W0 d L g hb ws j x 0 W) :
    Calls Tryz.prog 21 #[.pointer (some ⟨d, 0, none⟩), .int .i64 ((8 * j : Nat) : Int), .int .u64 (x.toNat : Int)] W fun e w' => e = .returned (.int .i64 0) ∧ putI W0 d L g hb ws j x 1 w' := by
  refine (store_in (len := fun _ => 0) (mark := fun _ => 0) h hL j x hj (Nat.zero_le _)).mono ?_
  rintro e w' ⟨rfl, len', hl, hd⟩
  refine ⟨rfl, ?_⟩
  rcases hl with rfl | rfl
  · exact ⟨0, by omega, by simpa using hd⟩
  · exact ⟨1, by omega, by simpa using hd⟩

theorem put_1 {W0 W : World} {d L g : Nat} {hb : Nat → Option Nat} {ws : Nat → UInt64} {j : Nat} {x : UInt64} (hL : L ≤ 1024) (hj : j < 8 * L) (h : putI W0 d L g hb ws j x 1 W) :
    Calls Tryz.prog 142 #[.pointer (some ⟨d, 0, none⟩), .int .i64 ((8 * j : Nat) : Int)] W fun e w' => e = .returned (.int .i64 0) ∧ putI W0 d L g hb ws j x 2 w' := by
  obtain ⟨m, hm, h⟩ := h
  have e8 : 8 * j / 64 = j / 8 := by omega
  refine (flush_in h hL (8 * j) (by omega) (by rw [e8, if_pos rfl]; omega)).mono ?_
  rintro e w' ⟨rfl, hd⟩
  rw [e8] at hd
  exact ⟨rfl, m, hm, by simpa using hd⟩

theorem put_2 {W0 W : World} {d L g : Nat} {hb : Nat → Option Nat} {ws : Nat → UInt64} {j : Nat} {x : UInt64} (hL : L ≤ 1024) (hL0 : 0 < L) (hj : j < 8 * L) (h : putI W0 d L g hb ws j x 2 W) :
    Calls Tryz.prog 109 #[.pointer (some ⟨d, 0, none⟩)] W fun e w' => e = .returned (.int .i64 0) ∧ putI W0 d L g hb ws j x 3 w' := by
  obtain ⟨m, hm, h⟩ := h
  refine (fence_in h hL hL0 (fun i _ => by by_cases e : i = j / 8 <;> simp [e]) (fun i _ => by by_cases e : i = j / 8 <;> simp [e]; omega)).mono ?_
  rintro e w' ⟨rfl, hb', ho, hr, ht⟩
  refine ⟨rfl, hb', ho, ?_, ht⟩
  have e1 : (fun i => lenF L (fun k => if k = j / 8 then m else 0) (fun k => if k = j / 8 then m + 1 else 0) i) = fun _ => 0 := by
    funext i; unfold lenF
    by_cases e : i = j / 8
    · subst e; rw [if_pos ⟨by omega, by simp⟩]
    · simp [e]
  have e2 : (fun i => markF L (fun k => if k = j / 8 then m + 1 else 0) i) = fun _ => 0 := by
    funext i; unfold markF
    by_cases e : i = j / 8
    · subst e; rw [if_pos (by omega)]
    · simp [e]
  have e1' : lenF L (fun k => if k = j / 8 then m else 0) (fun k => if k = j / 8 then m + 1 else 0) = fun _ => 0 := e1
  have e2' : markF L (fun k => if k = j / 8 then m + 1 else 0) = fun _ => 0 := e2
  rw [e1', e2'] at hr
  exact hr

end Go.Proofs.YtklcklflnkbccaaGreatDoor

/- Walks of package sure: Put. -/
namespace Go.Proofs.YtklcklflnkbccaaGreatDoor
open Go.RowKit

theorem callFn_store (l : Array Value) (W : World) : (callFunc 140 l).run Tryz.prog W = .ok (.enter 140 l) W := by
  simp [callFunc, Tryz.func140, Tryz.f140]
theorem callFn_flush (l : Array Value) (W : World) : (callFunc 141 l).run Tryz.prog W = .ok (.enter 141 l) W := by
  simp [callFunc, Tryz.func141, Tryz.f141]
theorem callFn_fence (l : Array Value) (W : World) : (callFunc 109 l).run Tryz.prog W = .ok (.enter 109 l) W := by
  simp [callFunc, Tryz.func109, Tryz.f109]

end Go.Proofs.YtklcklflnkbccaaGreatDoor

/- Walks of package sure: Put's run. -/
namespace Go.Proofs.YtklcklflnkbccaaGreatDoor
open Go.RowKit

theorem put_run (d L g : Nat) (hb : Nat → Option Nat) (ws : Nat → UInt64) (j : Nat) (x : UInt64) (w W0 : World) (hL0 : 0 < L) (hL : L ≤ 1024) (h : DevRep w d L ws (fun _ => 0) (fun _ => 0) g hb) (hj : j < 8 * L) (hB : Below w.heap.size w W0)
    (b1 b2 b3 b4 b5 s : Nat) (T : TypeId) (hb1 : w.heap.size ≤ b1) (hb2 : w.heap.size ≤ b2) (hb3 : w.heap.size ≤ b3) (hb4 : w.heap.size ≤ b4) (hb5 : w.heap.size ≤ b5) (hs : w.heap.size ≤ s)
    (c1 : W0.cell? ⟨b1, 0, none⟩ = some (.pointer (some ⟨d, 0, none⟩))) (c2 : W0.cell? ⟨b2, 0, none⟩ = some (.int .i64 ((8 * j : Nat) : Int))) (c3 : W0.cell? ⟨b3, 0, none⟩ = some (.int .u64 (x.toNat : Int)))
    (c4 : W0.cell? ⟨b4, 0, none⟩ = some (.pointer (some ⟨d, 0, none⟩))) (c5 : W0.cell? ⟨b5, 0, none⟩ = some (.int .i64 ((8 * j : Nat) : Int)))
    (cs : W0.heap[s]? = some (.cells #[.func (.func 140) #[] #[.pointer (some ⟨b1, 0, none⟩), .pointer (some ⟨b2, 0, none⟩), .pointer (some ⟨b3, 0, none⟩)], .func (.func 141) #[] #[.pointer (some ⟨b4, 0, none⟩), .pointer (some ⟨b5, 0, none⟩)], .func (.func 109) #[.pointer (some ⟨d, 0, none⟩)] #[]] T (0, 0))) :
    Calls Tryz.prog 106 #[.slice (some ⟨s, 0, none⟩) 3 3] W0 fun e w' => e = .returned (.int .i64 0) ∧ putI W0 d L g hb ws j x 3 w' := by
  have hown : ∀ b, w.heap.size ≤ b → ¬ devOwn d L g hb b := fun b hle ho => by have := h.lt b ho; omega
  have keep : ∀ {k W}, putI W0 d L g hb ws j x k W → ∀ (b : Nat) (v : Value), w.heap.size ≤ b → W0.cell? ⟨b, 0, none⟩ = some v → W.cell? ⟨b, 0, none⟩ = some v := fun hi b v hle hc =>
    (World.cell?_of_block (a := ⟨b, 0, none⟩) ((putI_touch hi).block b (World.block_lt_of_cell? W0 ⟨b, 0, none⟩ hc) (hown b hle))).trans hc
  refine run_steps _ 3 3 (fun k => if k = 0 then 140 else if k = 1 then 141 else 109)
    (fun k => if k = 2 then #[.pointer (some ⟨d, 0, none⟩)] else #[])
    (fun k => if k = 0 then #[.pointer (some ⟨b1, 0, none⟩), .pointer (some ⟨b2, 0, none⟩), .pointer (some ⟨b3, 0, none⟩)] else if k = 1 then #[.pointer (some ⟨b4, 0, none⟩), .pointer (some ⟨b5, 0, none⟩)] else #[])
    (putI W0 d L g hb ws j x) W0 (by decide) (Dv.start (h.below hB) (Below.refl _ _)) ?_ ?_ ?_
  · intro k hk W
    match k, hk with
    | 0, _ => exact callFn_store _ W
    | 1, _ => exact callFn_flush _ W
    | 2, _ => exact callFn_fence _ W
  · intro k W hi
    have hcs := ((putI_touch hi).block s (Array.getElem?_eq_some_iff.1 cs).1 (hown s hs)).trans cs
    refine ⟨rfl, fun _ => ⟨s, 0, rfl, (Array.getElem?_eq_some_iff.1 hcs).1, fun t ht => ?_⟩⟩
    rw [Nat.zero_add, cell_of_row W s t _ T (0, 0) hcs]
    match t, ht with
    | 0, _ => rfl
    | 1, _ => rfl
    | 2, _ => rfl
  · intro k W hk hi
    match k, hk with
    | 0, _ => exact step_store b1 b2 b3 _ _ _ W (keep hi _ _ hb1 c1) ⟨_, rfl⟩ (keep hi _ _ hb2 c2) (keep hi _ _ hb3 c3) (put_0 hL hj hi)
    | 1, _ => exact step_flush b4 b5 _ _ W (keep hi _ _ hb4 c4) ⟨_, rfl⟩ (keep hi _ _ hb5 c5) (put_1 hL hj hi)
    | 2, _ => exact put_2 hL hL0 hj hi

end Go.Proofs.YtklcklflnkbccaaGreatDoor

/- Walks of package sure: Put. -/
namespace Go.Proofs.YtklcklflnkbccaaGreatDoor
open Go.RowKit

theorem Dv.back {w W0 W : World} {d L g : Nat} {hb : Nat → Option Nat} {ws : Nat → UInt64} {len mark : Nat → Nat} (h : Dv W0 d L g hb ws len mark W) (hB : Below w.heap.size w W0) : Dv w d L g hb ws len mark W := by
  obtain ⟨hb', ho, hr, ht⟩ := h
  exact ⟨hb', fun b h => (ho b h).imp id (fun e => Nat.le_trans hB.size e), hr, (Touch.of_below hB).trans ht (fun b h => .inl h)⟩

set_option maxHeartbeats 2000000 in
set_option maxRecDepth 20000 in
theorem put_dev (d L g : Nat) (hb : Nat → Option Nat) (ws : Nat → UInt64) (j : Nat) (x : UInt64) (w : World) (hL0 : 0 < L) (hL : L ≤ 1024) (h : DevRep w d L ws (fun _ => 0) (fun _ => 0) g hb) (hj : j < 8 * L) :
    Calls Tryz.prog 74 #[.pointer (some ⟨d, 0, none⟩), .int .i64 ((8 * j : Nat) : Int), .int .u64 (x.toNat : Int)] w fun e w' => e = .returned (.int .i64 0) ∧
      Dv w d L g hb (fun i => if i = j then x else ws i) (fun _ => 0) (fun _ => 0) w' := by
  have H := Lib.hid h
  clear h
  go_enter Tryz.func74, Tryz.ntmps74
  go_wp2_with fail
  refine (store_mk d _ _ w).mono ?_
  rintro e w' ⟨rfl, rfl⟩
  go_wp2_with fail
  refine (flush_mk d _ _).mono ?_
  rintro e w' ⟨rfl, rfl⟩
  go_wp2_with fail
  have hB := ((((((Below.refl w.heap.size w).alloc (Nat.le_refl _) (.cells #[.pointer (some ⟨d, 0, none⟩)] 48)).alloc (by simp) (.cells #[.int .i64 (8 * (j : Int))] 3)).alloc (by simp; omega) (.cells #[.int .u64 (x.toNat : Int)] 33)).alloc (by simp; omega) (.cells #[.pointer (some ⟨d, 0, none⟩)] 48)).alloc (by simp; omega) (.cells #[.int .i64 (8 * (j : Int))] 3)).alloc (by simp; omega)
    (.cells #[.func (.func 140) #[] #[.pointer (some ⟨w.heap.size, 0, none⟩), .pointer (some ⟨w.heap.size + 1, 0, none⟩), .pointer (some ⟨w.heap.size + 1 + 1, 0, none⟩)], .func (.func 141) #[] #[.pointer (some ⟨w.heap.size + 1 + 1 + 1, 0, none⟩), .pointer (some ⟨w.heap.size + 1 + 1 + 1 + 1, 0, none⟩)], .func (.func 109) #[.pointer (some ⟨d, 0, none⟩)] #[]] 188)
  refine (put_run d L g hb ws j x w _ hL0 hL H.out hj hB w.heap.size (w.heap.size + 1) (w.heap.size + 1 + 1) (w.heap.size + 1 + 1 + 1) (w.heap.size + 1 + 1 + 1 + 1) (w.heap.size + 1 + 1 + 1 + 1 + 1) 188 (by omega) (by omega) (by omega) (by omega) (by omega) (by omega) ((World.cell?_alloc_past _ _ _ (by first | (simp; done) | (simp; omega))).trans <| ((World.cell?_alloc_past _ _ _ (by first | (simp; done) | (simp; omega))).trans <| ((World.cell?_alloc_past _ _ _ (by first | (simp; done) | (simp; omega))).trans <| ((World.cell?_alloc_past _ _ _ (by first | (simp; done) | (simp; omega))).trans <| ((World.cell?_alloc_past _ _ _ (by first | (simp; done) | (simp; omega))).trans <| by simp))))) (by simp [World.cell?_alloc_past, World.cell?_alloc_at]) (by simp [World.cell?_alloc_past, World.cell?_alloc_at]) (by simp [World.cell?_alloc_past, World.cell?_alloc_at]) (by simp [World.cell?_alloc_past, World.cell?_alloc_at]) (by rw [show w.heap.size + 1 + 1 + 1 + 1 + 1 = ((((((w.alloc (.cells #[.pointer (some ⟨d, 0, none⟩)] 48)).alloc (.cells #[.int .i64 (8 * (j : Int))] 3)).alloc (.cells #[.int .u64 (x.toNat : Int)] 33)).alloc (.cells #[.pointer (some ⟨d, 0, none⟩)] 48)).alloc (.cells #[.int .i64 (8 * (j : Int))] 3))).heap.size by simp]; exact heap_alloc_new _ _)).mono ?_
  rintro e w' ⟨rfl, hp⟩
  have hd := Dv.back (w := w) hp hB
  clear hp hB H
  go_wp2_with fail
  go_ret
  exact ⟨rfl, hd⟩

end Go.Proofs.YtklcklflnkbccaaGreatDoor

/- Walks of package sure: Get. -/
namespace Go.Proofs.YtklcklflnkbccaaGreatDoor
open Go.RowKit

/-- The words from j on: n of them. -/
def wordsFrom (ws : Nat → UInt64) (j n : Nat) : List UInt64 := (List.range n).map fun t => ws (j + t)
/-- .. of which the first k are read. -/
def partFrom (ws : Nat → UInt64) (j n k : Nat) : List UInt64 := (List.range n).map fun t => if t < k then ws (j + t) else 0

theorem partFrom_zero (ws : Nat → UInt64) (j n : Nat) : partFrom ws j n 0 = List.replicate n 0 := by
  apply List.ext_getElem <;> simp [partFrom]
theorem partFrom_all (ws : Nat → UInt64) (j n : Nat) : partFrom ws j n n = wordsFrom ws j n := by
  apply List.ext_getElem
  · simp [partFrom, wordsFrom]
  · intro t h1 h2
    have : t < n := by simpa [partFrom] using h1
    simp [partFrom, wordsFrom, this]
theorem partFrom_set (ws : Nat → UInt64) (j n k : Nat) : ((partFrom ws j n k).map wv).set k (wv (ws (j + k))) = (partFrom ws j n (k + 1)).map wv := by
  rw [← List.map_set]
  congr 1
  apply List.ext_getElem
  · simp [partFrom]
  · intro t h1 h2
    rw [List.getElem_set]
    by_cases e : k = t
    · subst e; rw [if_pos rfl]; simp [partFrom]
    · rw [if_neg e]
      have : (t < k + 1) = (t < k) := by apply propext; omega
      simp [partFrom, this]

end Go.Proofs.YtklcklflnkbccaaGreatDoor

/- Walks of package sure: Get. -/
namespace Go.Proofs.YtklcklflnkbccaaGreatDoor
open Go.RowKit

set_option maxHeartbeats 2000000 in
theorem get_dev (d L : Nat) (ws : Nat → UInt64) (len mark : Nat → Nat) (g : Nat) (hb : Nat → Option Nat) (j n : Nat) (w : World) (hL0 : 0 < L) (hL : L ≤ 1024) (h : DevRep w d L ws len mark g hb) (hj : j + n ≤ 8 * L) :
    Calls Tryz.prog 82 #[.pointer (some ⟨d, 0, none⟩), .int .i64 ((8 * j : Nat) : Int), .int .i64 (n : Int)] w fun e w' => ∃ v, e = .returned (.tuple #[v, .int .i64 0]) ∧
      w'.ownsRow w.heap.size 33 1 v n ((wordsFrom ws j n).map wv) ∧ Below w.heap.size w w' := by
  obtain ⟨i0, hi, hz0, hz1, hz2⟩ := info_parts Tryz.wordsTy.hi
  obtain ⟨st, hbx⟩ := h.box
  have HW := Lib.hid (within_ok d L g (8 * j) n _ _ w (by omega) hL hbx (by omega) (by omega))
  have H := Lib.hid h
  clear h hbx
  go_enter Tryz.func82, Tryz.ntmps82
  go_wp2_with fail
  refine HW.out.mono ?_
  rintro e w' ⟨rfl, rfl⟩
  clear HW
  go_wp2_with (at_make; refine wpList_make_full _ rfl _ _ 94 rfl w.heap.size 33 i0 (.int .u64 0) 1 Tryz.underlying94 hi hz0 hz1 .i64 .i64 _ _ n rfl rfl rfl rfl (by rw [hz2]; omega) (by unfold maxLen; omega) (Nat.le_refl _) ?_; intro w0 hown0 hgrow0)
  rw [made_words, ← partFrom_zero ws j n] at hown0
  have hb0 : Below w.heap.size w w0 := (Below.refl _ _).grown hgrow0 (Nat.le_refl _) (by simp)
  clear hgrow0
  go_loopw [24] (fun i wr => ∃ k : Nat, k ≤ n ∧ i = .int .i64 k ∧ wr.ownsRow w.heap.size 33 1 (.slice (some ⟨w.heap.size, 0, none⟩) n n) n ((partFrom ws j n k).map wv) ∧ Below w.heap.size w wr) (fun i _ => n - (intOf i).toNat)
  case atStart => exact ⟨0, Nat.zero_le _, rfl, hown0, hb0⟩
  case round =>
    obtain ⟨k, hk, rfl, hown, hbr⟩ := hrel
    clear hown0 hb0
    by_cases hlt : k < n
    · have HL := Lib.hid (load_dev d L ws len mark g hb (j + k) wr hL (H.out.below hbr) (by omega))
      obtain ⟨⟨v0, hv0⟩, hf0⟩ := own_has hown hlt
      have hown2 := own_set (u := wv (ws (j + k))) hown hlt
      rw [partFrom_set] at hown2
      have HO := Lib.hid hown2
      have hb2 := hbr.setCell (p := ⟨w.heap.size, k, none⟩) (Nat.le_refl _) (wv (ws (j + k)))
      have HB := Lib.hid hb2
      clear hown hown2 hb2 hbr
      go_wp2_with fail
      rw [show (8 * (j : Int) + 8 * (k : Int)) = ((8 * (j + k) : Nat) : Int) by omega]
      refine HL.out.mono ?_
      rintro e w2 ⟨rfl, rfl⟩
      clear HL
      go_wp2_with fail
      go_roundw
      case rel => exact ⟨k + 1, by omega, by go_num, HO.out, HB.out⟩
      case measure => simp [intOf]; omega
    · have hkn : k = n := by omega
      subst hkn
      rw [partFrom_all] at hown
      go_wp2_with fail
      go_ret2
      exact ⟨_, rfl, hown, hbr⟩

end Go.Proofs.YtklcklflnkbccaaGreatDoor

/- Steps lying in memory. -/
namespace Go.Proofs.YtklcklflnkbccaaGreatDoor
open Go.RowKit

/-- A store's step, its boxes at B and beyond. -/
def SStep (w : World) (B d : Nat) (v : Value) (j : Nat) (x : UInt64) : Prop :=
  ∃ b1 b2 b3, v = .func (.func 140) #[] #[.pointer (some ⟨b1, 0, none⟩), .pointer (some ⟨b2, 0, none⟩), .pointer (some ⟨b3, 0, none⟩)] ∧ B ≤ b1 ∧ B ≤ b2 ∧ B ≤ b3 ∧
    w.heap[b1]? = some (.cells #[.pointer (some ⟨d, 0, none⟩)] 48 (0, 0)) ∧ w.heap[b2]? = some (.cells #[.int .i64 ((8 * j : Nat) : Int)] 3 (0, 0)) ∧ w.heap[b3]? = some (.cells #[.int .u64 (x.toNat : Int)] 33 (0, 0))

/-- A flush's step. -/
def FStep (w : World) (B d : Nat) (v : Value) (off : Nat) : Prop :=
  ∃ b1 b2, v = .func (.func 141) #[] #[.pointer (some ⟨b1, 0, none⟩), .pointer (some ⟨b2, 0, none⟩)] ∧ B ≤ b1 ∧ B ≤ b2 ∧
    w.heap[b1]? = some (.cells #[.pointer (some ⟨d, 0, none⟩)] 48 (0, 0)) ∧ w.heap[b2]? = some (.cells #[.int .i64 (off : Int)] 3 (0, 0))

/-- Blocks of other types than the row's stay. -/
def Stays (T : TypeId) (w w' : World) : Prop := ∀ (b : Nat) (cs : Array Value) (t : TypeId) (fz : Nat × Nat), t ≠ T → w.heap[b]? = some (.cells cs t fz) → w'.heap[b]? = some (.cells cs t fz)

theorem Stays.refl (T : TypeId) (w : World) : Stays T w w := fun _ _ _ _ _ h => h
theorem Stays.trans {T : TypeId} {w w' w'' : World} (h : Stays T w w') (k : Stays T w' w'') : Stays T w w'' := fun b cs t fz ht e => k b cs t fz ht (h b cs t fz ht e)
theorem Stays.below {T : TypeId} {w w' : World} (h : Below w.heap.size w w') : Stays T w w' := fun b _ _ _ _ e => (h.block b (Array.getElem?_eq_some_iff.1 e).1).trans e
theorem Stays.grown {T : TypeId} {w w' : World} {base n : Nat} {v : Value} {xs : List Value} (ho : w.ownsRow base T 1 v n xs) (h : w.grownBy w' v.ownBlock) : Stays T w w' := by
  intro b cs t fz ht e
  refine (h.block b (Array.getElem?_eq_some_iff.1 e).1 (fun hb => ?_)).trans e
  rcases ho.2 with ⟨rfl, _⟩ | ⟨g, cap, cur, rfl, _, hg, _⟩
  · cases hb
  · have : b = g := by simpa [Value.ownBlock] using hb
    subst this
    rw [e] at hg
    injection hg with hg
    injection hg with _ h2 _
    exact ht h2

theorem SStep.stays {w w' : World} {B d : Nat} {v : Value} {j : Nat} {x : UInt64} (h : SStep w B d v j x) (k : Stays 188 w w') : SStep w' B d v j x := by
  obtain ⟨b1, b2, b3, e, h1, h2, h3, c1, c2, c3⟩ := h
  exact ⟨b1, b2, b3, e, h1, h2, h3, k _ _ _ _ (by decide) c1, k _ _ _ _ (by decide) c2, k _ _ _ _ (by decide) c3⟩
theorem FStep.stays {w w' : World} {B d : Nat} {v : Value} {off : Nat} (h : FStep w B d v off) (k : Stays 188 w w') : FStep w' B d v off := by
  obtain ⟨b1, b2, e, h1, h2, c1, c2⟩ := h
  exact ⟨b1, b2, e, h1, h2, k _ _ _ _ (by decide) c1, k _ _ _ _ (by decide) c2⟩

end Go.Proofs.YtklcklflnkbccaaGreatDoor

/- Rows of steps grow. -/
namespace Go.Proofs.YtklcklflnkbccaaGreatDoor
open Go.RowKit

theorem Tryz.stepsTy : RowTy Tryz.prog 215 188 .nilFunc 8 := ⟨Tryz.underlying215, by kernel_rfl, rfl⟩

theorem Stays.kept {T : TypeId} {w w' : World} {base n : Nat} {v : Value} {xs : List Value} (ho : w.ownsRow base T 1 v n xs) (h : Kept w w' v.ownBlock) : Stays T w w' := by
  intro b cs t fz ht e
  refine (h.2 b (Array.getElem?_eq_some_iff.1 e).1 (fun hb => ?_)).trans e
  rcases ho.2 with ⟨rfl, _⟩ | ⟨g, cap, cur, rfl, _, hg, _⟩
  · cases hb
  · have : b = g := by simpa [Value.ownBlock] using hb
    subst this
    rw [e] at hg
    injection hg with hg
    injection hg with _ h2 _
    exact ht h2

/-- A store's step is made. -/
theorem store_step_mk (B d j : Nat) (x : UInt64) (w : World) (hB : B ≤ w.heap.size) :
    Calls Tryz.prog 107 #[.pointer (some ⟨d, 0, none⟩), .int .i64 ((8 * j : Nat) : Int), .int .u64 (x.toNat : Int)] w fun e w' => ∃ v, e = .returned v ∧ SStep w' B d v j x ∧ v.oneCell' = true ∧ Below w.heap.size w w' := by
  refine (store_mk d _ _ w).mono ?_
  rintro e w' ⟨rfl, rfl⟩
  have s1 : (w.alloc (.cells #[.pointer (some ⟨d, 0, none⟩)] 48)).heap.size = w.heap.size + 1 := by simp
  have s2 : ((w.alloc (.cells #[.pointer (some ⟨d, 0, none⟩)] 48)).alloc (.cells #[.int .i64 ((8 * j : Nat) : Int)] 3)).heap.size = w.heap.size + 1 + 1 := by simp
  refine ⟨_, rfl, ⟨w.heap.size, w.heap.size + 1, w.heap.size + 1 + 1, rfl, hB, by omega, by omega, ?_, ?_, ?_⟩, rfl, (((Below.refl _ _).alloc (Nat.le_refl _) _).alloc (by omega) _).alloc (by omega) _⟩
  · exact (heap_alloc_old _ _ (by omega)).trans ((heap_alloc_old _ _ (by omega)).trans (heap_alloc_new _ _))
  · refine (heap_alloc_old _ _ (by omega)).trans ?_
    rw [← s1]; exact heap_alloc_new _ _
  · rw [← s2]; exact heap_alloc_new _ _

/-- A flush's step is made. -/
theorem flush_step_mk (B d off : Nat) (w : World) (hB : B ≤ w.heap.size) :
    Calls Tryz.prog 108 #[.pointer (some ⟨d, 0, none⟩), .int .i64 (off : Int)] w fun e w' => ∃ v, e = .returned v ∧ FStep w' B d v off ∧ v.oneCell' = true ∧ Below w.heap.size w w' := by
  refine (flush_mk d _ w).mono ?_
  rintro e w' ⟨rfl, rfl⟩
  have s1 : (w.alloc (.cells #[.pointer (some ⟨d, 0, none⟩)] 48)).heap.size = w.heap.size + 1 := by simp
  refine ⟨_, rfl, ⟨w.heap.size, w.heap.size + 1, rfl, hB, by omega, ?_, ?_⟩, rfl, ((Below.refl _ _).alloc (Nat.le_refl _) _).alloc (by omega) _⟩
  · exact (heap_alloc_old _ _ (by omega)).trans (heap_alloc_new _ _)
  · rw [← s1]; exact heap_alloc_new _ _

end Go.Proofs.YtklcklflnkbccaaGreatDoor
