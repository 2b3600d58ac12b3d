import Derived.RegionTactic
import Derived.IntWalk
import Derived.BigQuiet
import Derived.Test.YtcelabojehaioaaGreatDoorG05
import Derived.Test.YtcelabojehaioaaGreatDoorG15
/- A table's book in memory; the methods of stamp's pile: Len, Less, Swap. -/
namespace Go.Proofs.YtcelabojehaioaaGreatDoor
open Go.RowKit

/-- A book: stamps, what is open, marks and how many of them, sets, and the block of what was noted. -/
structure Bk where
  ats : Nat → UInt64
  ops : Nat → Bool
  mks : Nat → Mk
  many : Nat
  st : Nat → Value
  nt : Nat

def BkAt (w : World) (bk : Nat) (b : Bk) : Prop :=
  ∃ cur : Array Value, w.heap[bk]? = some (.cells cur 214 (0, 0)) ∧ cur.size = 58 ∧ (∀ i, i < 8 → cur[i]? = some (wv (b.ats i))) ∧ (∀ i, i < 8 → cur[8 + i]? = some (.bool (b.ops i))) ∧
    (∀ i, i < 16 → cur[16 + i * 2]? = some (wv (b.mks i).1) ∧ cur[16 + i * 2 + 1]? = some (.int .i64 ((b.mks i).2 : Int))) ∧ cur[48]? = some (.int .i64 (b.many : Int)) ∧ (∀ i, i < 8 → cur[49 + i]? = some (b.st i)) ∧ cur[57]? = some (.map (some b.nt))

section
variable {w w' : World} {bk : Nat} {b : Bk}

theorem BkAt.lt (h : BkAt w bk b) : bk < w.heap.size := by
  obtain ⟨cur, h1, _⟩ := h
  exact (Array.getElem?_eq_some_iff.1 h1).1
theorem BkAt.keep (h : BkAt w bk b) (k : w'.heap[bk]? = w.heap[bk]?) : BkAt w' bk b := by
  obtain ⟨cur, h1, h2⟩ := h
  exact ⟨cur, k.trans h1, h2⟩
theorem BkAt.below (h : BkAt w bk b) (k : Below w.heap.size w w') : BkAt w' bk b := h.keep (k.block _ h.lt)
theorem BkAt.touch {F : Nat → Prop} (h : BkAt w bk b) (t : Touch F w w') (hn : ¬ F bk) : BkAt w' bk b := h.keep (t.block _ h.lt hn)
theorem BkAt.frozen (h : BkAt w bk b) (i : Nat) : w.frozen? ⟨bk, i, none⟩ = false := by
  obtain ⟨cur, h1, _⟩ := h
  simp [World.frozen?, h1]
theorem BkAt.cellAt (h : BkAt w bk b) (i : Nat) (hi : i < 8) : w.cell? ⟨bk, i, none⟩ = some (.int .u64 ((b.ats i).toNat : Int)) := by
  obtain ⟨cur, h1, _, h3, _⟩ := h
  rw [cell_of_row w bk i cur _ (0, 0) h1, h3 i hi]; rfl
theorem BkAt.cellOp (h : BkAt w bk b) (i : Nat) (hi : i < 8) : w.cell? ⟨bk, 8 + i, none⟩ = some (.bool (b.ops i)) := by
  obtain ⟨cur, h1, _, _, h4, _⟩ := h
  rw [cell_of_row w bk (8 + i) cur _ (0, 0) h1, h4 i hi]
theorem BkAt.cellMk (h : BkAt w bk b) (i : Nat) (hi : i < 16) : w.cell? ⟨bk, 16 + i * 2, none⟩ = some (.int .u64 ((b.mks i).1.toNat : Int)) ∧ w.cell? ⟨bk, 16 + i * 2 + 1, none⟩ = some (.int .i64 ((b.mks i).2 : Int)) := by
  obtain ⟨cur, h1, _, _, _, h5, _⟩ := h
  rw [cell_of_row w bk (16 + i * 2) cur _ (0, 0) h1, cell_of_row w bk (16 + i * 2 + 1) cur _ (0, 0) h1, (h5 i hi).1, (h5 i hi).2]
  exact ⟨rfl, rfl⟩
theorem BkAt.cellMany (h : BkAt w bk b) : w.cell? ⟨bk, 48, none⟩ = some (.int .i64 (b.many : Int)) := by
  obtain ⟨cur, h1, _, _, _, _, h6, _⟩ := h
  rw [cell_of_row w bk 48 cur _ (0, 0) h1, h6]
theorem BkAt.cellSt (h : BkAt w bk b) (i : Nat) (hi : i < 8) : w.cell? ⟨bk, 49 + i, none⟩ = some (b.st i) := by
  obtain ⟨cur, h1, _, _, _, _, _, h7, _⟩ := h
  rw [cell_of_row w bk (49 + i) cur _ (0, 0) h1, h7 i hi]
theorem BkAt.cellNt (h : BkAt w bk b) : w.cell? ⟨bk, 57, none⟩ = some (.map (some b.nt)) := by
  obtain ⟨cur, h1, _, _, _, _, _, _, h8⟩ := h
  rw [cell_of_row w bk 57 cur _ (0, 0) h1, h8]

/-- A cell of the book is written. -/
theorem set_cur {cur : Array Value} {i : Nat} {v : Value} (hi : i < cur.size) (k : Nat) : (cur.setIfInBounds i v)[k]? = if k = i then some v else cur[k]? := by
  rw [Array.getElem?_setIfInBounds]
  by_cases e : i = k
  · subst e; rw [if_pos rfl, if_pos rfl, if_pos hi]
  · rw [if_neg e, if_neg (fun h => e h.symm)]
theorem BkAt.setAt (h : BkAt w bk b) (i : Nat) (hi : i < 8) (x : UInt64) : BkAt (w.setCell ⟨bk, i, none⟩ (.int .u64 (x.toNat : Int))) bk { b with ats := fun k => if k = i then x else b.ats k } := by
  obtain ⟨cur, h1, h2, h3, h4, h5, h6, h7, h8⟩ := h
  have key := fun k => set_cur (cur := cur) (i := i) (v := .int .u64 (x.toNat : Int)) (by omega) k
  refine ⟨_, setCell_cur _ h1, by simpa using h2, fun k hk => ?_, fun k hk => ?_, fun k hk => ⟨?_, ?_⟩, ?_, fun k hk => ?_, ?_⟩
  · rw [key]; dsimp only; split
    · rfl
    · exact h3 k hk
  · rw [key, if_neg (by omega)]; exact h4 k hk
  · rw [key, if_neg (by omega)]; exact (h5 k hk).1
  · rw [key, if_neg (by omega)]; exact (h5 k hk).2
  · rw [key, if_neg (by omega)]; exact h6
  · rw [key, if_neg (by omega)]; exact h7 k hk
  · rw [key, if_neg (by omega)]; exact h8
theorem BkAt.setOp (h : BkAt w bk b) (i : Nat) (hi : i < 8) (x : Bool) : BkAt (w.setCell ⟨bk, 8 + i, none⟩ (.bool x)) bk { b with ops := fun k => if k = i then x else b.ops k } := by
  obtain ⟨cur, h1, h2, h3, h4, h5, h6, h7, h8⟩ := h
  have key := fun k => set_cur (cur := cur) (i := 8 + i) (v := .bool x) (by omega) k
  refine ⟨_, setCell_cur _ h1, by simpa using h2, fun k hk => ?_, fun k hk => ?_, fun k hk => ⟨?_, ?_⟩, ?_, fun k hk => ?_, ?_⟩
  · rw [key, if_neg (by omega)]; exact h3 k hk
  · rw [key]; dsimp only
    by_cases e : k = i
    · rw [if_pos (by omega), if_pos e]
    · rw [if_neg (by omega), if_neg e]; exact h4 k hk
  · rw [key, if_neg (by omega)]; exact (h5 k hk).1
  · rw [key, if_neg (by omega)]; exact (h5 k hk).2
  · rw [key, if_neg (by omega)]; exact h6
  · rw [key, if_neg (by omega)]; exact h7 k hk
  · rw [key, if_neg (by omega)]; exact h8
theorem BkAt.setMk (h : BkAt w bk b) (i : Nat) (hi : i < 16) (m : Mk) : BkAt ((w.setCell ⟨bk, 16 + i * 2, none⟩ (.int .u64 (m.1.toNat : Int))).setCell ⟨bk, 16 + i * 2 + 1, none⟩ (.int .i64 (m.2 : Int))) bk { b with mks := fun k => if k = i then m else b.mks k } := by
  obtain ⟨cur, h1, h2, h3, h4, h5, h6, h7, h8⟩ := h
  have key := fun k => set_cur (cur := cur) (i := 16 + i * 2) (v := .int .u64 (m.1.toNat : Int)) (by omega) k
  have key2 := fun k => set_cur (cur := cur.setIfInBounds (16 + i * 2) (.int .u64 (m.1.toNat : Int))) (i := 16 + i * 2 + 1) (v := .int .i64 (m.2 : Int)) (by simp; omega) k
  refine ⟨_, setCell_cur _ (setCell_cur _ h1), by simpa using h2, fun k hk => ?_, fun k hk => ?_, fun k hk => ⟨?_, ?_⟩, ?_, fun k hk => ?_, ?_⟩
  · rw [key2, if_neg (by omega), key, if_neg (by omega)]; exact h3 k hk
  · rw [key2, if_neg (by omega), key, if_neg (by omega)]; exact h4 k hk
  · rw [key2, if_neg (by omega), key]; dsimp only
    by_cases e : k = i
    · rw [if_pos (by omega), if_pos e]; rfl
    · rw [if_neg (by omega), if_neg e]; exact (h5 k hk).1
  · rw [key2]; dsimp only
    by_cases e : k = i
    · rw [if_pos (by omega), if_pos e]
    · rw [if_neg (by omega), key, if_neg (by omega), if_neg e]; exact (h5 k hk).2
  · rw [key2, if_neg (by omega), key, if_neg (by omega)]; exact h6
  · rw [key2, if_neg (by omega), key, if_neg (by omega)]; exact h7 k hk
  · rw [key2, if_neg (by omega), key, if_neg (by omega)]; exact h8
theorem BkAt.setMany (h : BkAt w bk b) (n : Nat) : BkAt (w.setCell ⟨bk, 48, none⟩ (.int .i64 (n : Int))) bk { b with many := n } := by
  obtain ⟨cur, h1, h2, h3, h4, h5, h6, h7, h8⟩ := h
  have key := fun k => set_cur (cur := cur) (i := 48) (v := .int .i64 (n : Int)) (by omega) k
  refine ⟨_, setCell_cur _ h1, by simpa using h2, fun k hk => ?_, fun k hk => ?_, fun k hk => ⟨?_, ?_⟩, ?_, fun k hk => ?_, ?_⟩
  · rw [key, if_neg (by omega)]; exact h3 k hk
  · rw [key, if_neg (by omega)]; exact h4 k hk
  · rw [key, if_neg (by omega)]; exact (h5 k hk).1
  · rw [key, if_neg (by omega)]; exact (h5 k hk).2
  · rw [key, if_pos rfl]
  · rw [key, if_neg (by omega)]; exact h7 k hk
  · rw [key, if_neg (by omega)]; exact h8
theorem BkAt.setSt (h : BkAt w bk b) (i : Nat) (hi : i < 8) (x : Value) : BkAt (w.setCell ⟨bk, 49 + i, none⟩ x) bk { b with st := fun k => if k = i then x else b.st k } := by
  obtain ⟨cur, h1, h2, h3, h4, h5, h6, h7, h8⟩ := h
  have key := fun k => set_cur (cur := cur) (i := 49 + i) (v := x) (by omega) k
  refine ⟨_, setCell_cur _ h1, by simpa using h2, fun k hk => ?_, fun k hk => ?_, fun k hk => ⟨?_, ?_⟩, ?_, fun k hk => ?_, ?_⟩
  · rw [key, if_neg (by omega)]; exact h3 k hk
  · rw [key, if_neg (by omega)]; exact h4 k hk
  · rw [key, if_neg (by omega)]; exact (h5 k hk).1
  · rw [key, if_neg (by omega)]; exact (h5 k hk).2
  · rw [key, if_neg (by omega)]; exact h6
  · rw [key]; dsimp only
    by_cases e : k = i
    · rw [if_pos (by omega), if_pos e]
    · rw [if_neg (by omega), if_neg e]; exact h7 k hk
  · rw [key, if_neg (by omega)]; exact h8

/-- Two marks change their places. -/
def swapM (f : Nat → Mk) (i j k : Nat) : Mk := if k = i then f j else if k = j then f i else f k
def keyM (f : Nat → Mk) (k : Nat) : Nat := (f k).1.toNat
theorem keyM_swap (f : Nat → Mk) (i j : Nat) : keyM (swapM f i j) = swapF (keyM f) i j := by
  funext k
  unfold keyM swapM swapF
  split
  · rfl
  · split <;> rfl

theorem pileLen (h : BkAt w bk b) : Calls Tryz.prog 286 #[.pointer (some ⟨bk, 16, none⟩)] w fun e w' => e = .returned (.int .i64 (b.many : Int)) ∧ w = w' := by
  have c := h.cellMany
  clear h
  go_enter Tryz.func286, Tryz.ntmps286
  go_wp2
  go_ret
  exact ⟨rfl, rfl⟩

set_option maxHeartbeats 2000000 in
theorem pileLess (h : BkAt w bk b) (i j : Nat) (hi : i < 16) (hj : j < 16) : Calls Tryz.prog 287 #[.pointer (some ⟨bk, 16, none⟩), .int .i64 (i : Int), .int .i64 (j : Int)] w fun e w' => e = .returned (.bool (decide (keyM b.mks i < keyM b.mks j))) ∧ Dr w w' := by
  have ci := (h.cellMk i hi).1
  have cj := (h.cellMk j hj).1
  have HK : Hid (decide (keyM b.mks i < keyM b.mks j) = decide ((b.mks i).1.toNat < (b.mks j).1.toNat)) := Lib.hid rfl
  generalize (b.mks i).1 = x at *
  generalize (b.mks j).1 = y at *
  clear h
  go_enter Tryz.func287, Tryz.ntmps287
  go_wp2_with fail
  go_quiet (fail)
  go_wp2_with fail
  rw [HK.out]
  go_ret
  exact ⟨rfl, _, rfl⟩

end

end Go.Proofs.YtcelabojehaioaaGreatDoor

/- The methods of stamp's pile: Swap, Push, Pop; behind an interface. -/
namespace Go.Proofs.YtcelabojehaioaaGreatDoor
open Go.RowKit

section
variable {w w' : World} {bk : Nat} {b : Bk}

theorem Bk.swap_ij (f : Nat → Mk) (i j : Nat) : (fun k => if k = j then f i else (fun k => if k = i then f j else f k) k) = swapM f i j := by
  funext k
  unfold swapM
  by_cases h1 : k = i
  · by_cases h2 : k = j
    · rw [if_pos h2, if_pos h1, ← h1, ← h2]
    · rw [if_neg h2, if_pos h1]; dsimp only; rw [if_pos h1]
  · by_cases h2 : k = j
    · rw [if_pos h2, if_neg h1, if_pos h2]
    · rw [if_neg h2, if_neg h1, if_neg h2]; dsimp only; rw [if_neg h1]
theorem Bk.swap_ji (f : Nat → Mk) (i j : Nat) : (fun k => if k = i then f j else (fun k => if k = j then f i else f k) k) = swapM f i j := by
  funext k
  unfold swapM
  by_cases h1 : k = i
  · simp only [if_pos h1]
  · simp only [if_neg h1]

theorem BkAt.dr (h : BkAt w bk b) (k : Dr w w') : BkAt w' bk b := h.below (k.below _)

set_option maxHeartbeats 4000000 in
set_option maxRecDepth 100000 in
theorem pileSwap (h : BkAt w bk b) (i j : Nat) (hi : i < 16) (hj : j < 16) : Calls Tryz.prog 290 #[.pointer (some ⟨bk, 16, none⟩), .int .i64 (i : Int), .int .i64 (j : Int)] w fun e w' => e = .returned (.tuple #[]) ∧ BkAt w' bk { b with mks := swapM b.mks i j } ∧ Touch (fun k => k = bk) w w' := by
  have HS : Hid (∀ W, Dr w W → BkAt ((((W.setCell ⟨bk, 16 + i * 2, none⟩ (.int .u64 ((b.mks j).1.toNat : Int))).setCell ⟨bk, 16 + i * 2 + 1, none⟩ (.int .i64 ((b.mks j).2 : Int))).setCell ⟨bk, 16 + j * 2, none⟩ (.int .u64 ((b.mks i).1.toNat : Int))).setCell ⟨bk, 16 + j * 2 + 1, none⟩ (.int .i64 ((b.mks i).2 : Int))) bk { b with mks := swapM b.mks i j } ∧
      Touch (fun k => k = bk) w ((((W.setCell ⟨bk, 16 + i * 2, none⟩ (.int .u64 ((b.mks j).1.toNat : Int))).setCell ⟨bk, 16 + i * 2 + 1, none⟩ (.int .i64 ((b.mks j).2 : Int))).setCell ⟨bk, 16 + j * 2, none⟩ (.int .u64 ((b.mks i).1.toNat : Int))).setCell ⟨bk, 16 + j * 2 + 1, none⟩ (.int .i64 ((b.mks i).2 : Int)))) := Lib.hid (fun W k => by
    have h1 := ((h.dr k).setMk i hi (b.mks j)).setMk j hj (b.mks i)
    simp only [Bk.swap_ij] at h1
    exact ⟨h1, ((((Touch.of_below (F := fun k => k = bk) (k.below _)).setCell (p := ⟨bk, 16 + i * 2, none⟩) (.inl rfl) _).setCell (p := ⟨bk, 16 + i * 2 + 1, none⟩) (.inl rfl) _).setCell (p := ⟨bk, 16 + j * 2, none⟩) (.inl rfl) _).setCell (p := ⟨bk, 16 + j * 2 + 1, none⟩) (.inl rfl) _⟩)
  have HS2 : Hid (∀ W, Dr w W → BkAt ((((W.setCell ⟨bk, 16 + j * 2, none⟩ (.int .u64 ((b.mks i).1.toNat : Int))).setCell ⟨bk, 16 + j * 2 + 1, none⟩ (.int .i64 ((b.mks i).2 : Int))).setCell ⟨bk, 16 + i * 2, none⟩ (.int .u64 ((b.mks j).1.toNat : Int))).setCell ⟨bk, 16 + i * 2 + 1, none⟩ (.int .i64 ((b.mks j).2 : Int))) bk { b with mks := swapM b.mks i j } ∧
      Touch (fun k => k = bk) w ((((W.setCell ⟨bk, 16 + j * 2, none⟩ (.int .u64 ((b.mks i).1.toNat : Int))).setCell ⟨bk, 16 + j * 2 + 1, none⟩ (.int .i64 ((b.mks i).2 : Int))).setCell ⟨bk, 16 + i * 2, none⟩ (.int .u64 ((b.mks j).1.toNat : Int))).setCell ⟨bk, 16 + i * 2 + 1, none⟩ (.int .i64 ((b.mks j).2 : Int)))) := Lib.hid (fun W k => by
    have h1 := ((h.dr k).setMk j hj (b.mks i)).setMk i hi (b.mks j)
    simp only [Bk.swap_ji] at h1
    exact ⟨h1, ((((Touch.of_below (F := fun k => k = bk) (k.below _)).setCell (p := ⟨bk, 16 + j * 2, none⟩) (.inl rfl) _).setCell (p := ⟨bk, 16 + j * 2 + 1, none⟩) (.inl rfl) _).setCell (p := ⟨bk, 16 + i * 2, none⟩) (.inl rfl) _).setCell (p := ⟨bk, 16 + i * 2 + 1, none⟩) (.inl rfl) _⟩)
  have e1 := h.cellMk i hi
  have e2 := h.cellMk j hj
  obtain ⟨i0, i1⟩ := e1
  obtain ⟨j0, j1⟩ := e2
  have fi0 := h.frozen (16 + i * 2)
  have fi1 := h.frozen (16 + i * 2 + 1)
  have fj0 := h.frozen (16 + j * 2)
  have fj1 := h.frozen (16 + j * 2 + 1)
  have hA := h.setMk i hi (b.mks j)
  have hB := h.setMk j hj (b.mks i)
  obtain ⟨kA0, kA1⟩ := hA.cellMk j hj
  obtain ⟨kB0, kB1⟩ := hB.cellMk i hi
  have gA0 := hA.frozen (16 + j * 2)
  have gA1 := hA.frozen (16 + j * 2 + 1)
  have gB0 := hB.frozen (16 + i * 2)
  have gB1 := hB.frozen (16 + i * 2 + 1)
  have bi : (i : Int) < 16 := by omega
  have bj : (j : Int) < 16 := by omega
  clear hA hB h
  go_enter Tryz.func290, Tryz.ntmps290
  go_wp2_with fail
  go_region
  all_goals (go_wp2_with fail)
  all_goals (go_end0)
  all_goals (first
    | exact ⟨rfl, (HS.out w (Dr.refl w)).1.dr (Dr.drew _), (HS.out w (Dr.refl w)).2.drew⟩
    | exact ⟨rfl, (HS2.out w (Dr.refl w)).1.dr (Dr.drew _), (HS2.out w (Dr.refl w)).2.drew⟩)

theorem assertMark (x y : Int) (w : World) : (Instr.typeAssert (.iface 205 (.agg #[.int .u64 x, .int .i64 y])) 20 205 true).run Tryz.prog w = .ok (.tuple #[.agg #[.int .u64 x, .int .i64 y], .bool true]) w := by kernel_rfl

def mkV (m : Mk) : Value := .agg #[.int .u64 (m.1.toNat : Int), .int .i64 (m.2 : Int)]

set_option maxHeartbeats 4000000 in
set_option maxRecDepth 100000 in
theorem pilePush (h : BkAt w bk b) (m : Mk) (hn : b.many < 16) : Calls Tryz.prog 289 #[.pointer (some ⟨bk, 16, none⟩), .iface 205 (mkV m)] w fun e w' => e = .returned (.tuple #[]) ∧ BkAt w' bk { b with mks := fun k => if k = b.many then m else b.mks k, many := b.many + 1 } ∧ Touch (fun k => k = bk) w w' := by
  have ta := assertMark (m.1.toNat : Int) (m.2 : Int)
  unfold mkV
  have cm := h.cellMany
  have fm := h.frozen 48
  obtain ⟨i0, i1⟩ := h.cellMk b.many hn
  have g0 := h.frozen (16 + b.many * 2)
  have g1 := h.frozen (16 + b.many * 2 + 1)
  have h2 := h.setMk b.many hn m
  have cm2 := h2.cellMany
  have fm2 := h2.frozen 48
  have HF : Hid (BkAt (((w.setCell ⟨bk, 16 + b.many * 2, none⟩ (.int .u64 (m.1.toNat : Int))).setCell ⟨bk, 16 + b.many * 2 + 1, none⟩ (.int .i64 (m.2 : Int))).setCell ⟨bk, 48, none⟩ (.int .i64 ((b.many + 1 : Nat) : Int))) bk { b with mks := fun k => if k = b.many then m else b.mks k, many := b.many + 1 } ∧
    Touch (fun k => k = bk) w (((w.setCell ⟨bk, 16 + b.many * 2, none⟩ (.int .u64 (m.1.toNat : Int))).setCell ⟨bk, 16 + b.many * 2 + 1, none⟩ (.int .i64 (m.2 : Int))).setCell ⟨bk, 48, none⟩ (.int .i64 ((b.many + 1 : Nat) : Int)))) :=
    Lib.hid ⟨h2.setMany (b.many + 1), (((Touch.refl (fun k => k = bk) w).setCell (p := ⟨bk, 16 + b.many * 2, none⟩) (.inl rfl) _).setCell (p := ⟨bk, 16 + b.many * 2 + 1, none⟩) (.inl rfl) _).setCell (p := ⟨bk, 48, none⟩) (.inl rfl) _⟩
  have hbk := h.lt
  obtain ⟨n, hnd⟩ : ∃ n, n = b.many := ⟨_, rfl⟩
  simp only [← hnd] at cm i0 i1 g0 g1 hn cm2 fm2 HF ⊢
  rw [show ((n + 1 : Nat) : Int) = (n : Int) + 1 by omega] at HF
  have bi : (n : Int) < 16 := by omega
  have hwn : IntKind.i64.wrap ((n : Int) + 1) = (n : Int) + 1 := IntWalk.i64_in _ (by omega)
  clear h h2 hnd
  go_enter Tryz.func289, Tryz.ntmps289
  go_wp2_with fail
  go_region
  all_goals (go_wp2_with fail)
  all_goals (go_end0)
  all_goals (exact ⟨rfl, (HF.out.1.below ((Below.refl _ _).alloc (Nat.le_refl _) _)).dr (Dr.drew _), (HF.out.2.alloc _).drew⟩)

end

theorem pmeth_Push (f : Nat) (a : Addr) (w : World) : (method (f + 1) 285 (.pointer (some a)) "Push").run Tryz.prog w = .ok (289, .pointer (some a)) w := by kernel_rfl
theorem pmeth_Len (f : Nat) (a : Addr) (w : World) : (method (f + 1) 285 (.pointer (some a)) "Len").run Tryz.prog w = .ok (286, .pointer (some a)) w := by kernel_rfl
theorem pmeth_Less (f : Nat) (a : Addr) (w : World) : (method (f + 1) 285 (.pointer (some a)) "Less").run Tryz.prog w = .ok (287, .pointer (some a)) w := by kernel_rfl
theorem pmeth_Swap (f : Nat) (a : Addr) (w : World) : (method (f + 1) 285 (.pointer (some a)) "Swap").run Tryz.prog w = .ok (290, .pointer (some a)) w := by kernel_rfl

end Go.Proofs.YtcelabojehaioaaGreatDoor

/- Walks: container/heap at stamp's pile: up. Printed by genpile.py. -/
namespace Go.Proofs.YtcelabojehaioaaGreatDoor
open Go.RowKit

/-- Is a mark one of the first ones? -/
def InM (f : Nat → Mk) (n : Nat) (m : Mk) : Prop := ∃ k, k < n ∧ f k = m
theorem inM_swap {f : Nat → Mk} {n i j : Nat} (hi : i < n) (hj : j < n) (m : Mk) : InM (swapM f i j) n m ↔ InM f n m := by
  constructor
  · rintro ⟨k, hk, e⟩
    unfold swapM at e
    split at e
    · exact ⟨j, hj, e⟩
    · split at e
      · exact ⟨i, hi, e⟩
      · exact ⟨k, hk, e⟩
  · rintro ⟨k, hk, e⟩
    by_cases h1 : k = i
    · subst h1
      refine ⟨j, hj, ?_⟩
      unfold swapM
      by_cases h2 : j = k
      · subst h2; rw [if_pos rfl]; exact e
      · rw [if_neg h2, if_pos rfl]; exact e
    · by_cases h2 : k = j
      · subst h2
        exact ⟨i, hi, by unfold swapM; rw [if_pos rfl]; exact e⟩
      · exact ⟨k, hk, by unfold swapM; rw [if_neg h1, if_neg h2]; exact e⟩

section
variable {w : World} {bk n : Nat} {b : Bk}

set_option maxHeartbeats 2000000 in
set_option maxRecDepth 100000 in
theorem pileUp (j : Nat) (h : BkAt w bk b) (hj : j < n) (hn1 : n ≤ 16) (hH : HeapUp (keyM b.mks) j n) :
    Calls Tryz.prog 205 #[.iface 285 (.pointer (some ⟨bk, 16, none⟩)), .int .i64 (j : Int)] w fun e w' => e = .returned (.tuple #[]) ∧
      ∃ f, (∀ m, InM f n m ↔ InM b.mks n m) ∧ HeapTo (keyM f) n ∧ BkAt w' bk { b with mks := f } ∧ Touch (fun k => k = bk) w w' := by
  have mL := fun f W => pmeth_Less f ⟨bk, 16, none⟩ W
  have mS := fun f W => pmeth_Swap f ⟨bk, 16, none⟩ W
  go_enter Tryz.func205, Tryz.ntmps205
  go_wp2_with fail
  go_loopw [1] (fun i wr => ∃ (k : Nat) (f : Nat → Mk), k < n ∧ i = .int .i64 (k : Nat) ∧ (∀ m, InM f n m ↔ InM b.mks n m) ∧ HeapUp (keyM f) k n ∧ BkAt wr bk { b with mks := f } ∧ Touch (fun k => k = bk) w wr) (fun i _ => (intOf i).toNat)
  case atStart => exact ⟨j, b.mks, hj, rfl, fun _ => Iff.rfl, hH, h, Touch.refl _ _⟩
  case round =>
    obtain ⟨k, l', hk, rfl, hp, hHk, ho, ht⟩ := hrel
    clear h hj hH
    by_cases h0 : k = 0
    · subst h0
      go_wp2_with fail
      go_end0
      exact ⟨rfl, l', hp, heapUp_end hHk (fun h => absurd h (by omega)), ho, ht⟩
    · have HHk := Lib.hid hHk
      have HO := Lib.hid ho
      have HPm := Lib.hid hp
      have HT := Lib.hid ht
      clear hHk ho hp ht
      obtain ⟨i, hi⟩ : ∃ i, (k - 1) / 2 = i := ⟨_, rfl⟩
      have hik : i < k := by omega
      have e1 : ((k : Int) - 1) / 2 = (i : Int) := by omega
      have t1 : ((i : Int) == (k : Int)) = false := by rw [beq_eq_false_iff_ne]; omega
      have HLess := Lib.hid (pileLess HO.out k i (by omega) (by omega))
      simp only at HLess
      by_cases hlt : keyM l' k < keyM l' i
      · rw [decide_eq_true hlt] at HLess
        have H1 := Lib.hid hlt
        clear hlt
        go_wp2_with fail
        refine HLess.out.mono ?_
        rintro e w2 ⟨rfl, hd⟩
        have ho2 := HO.out.below (hd.below _)
        have HSw := Lib.hid (pileSwap ho2 i k (by omega) (by omega))
        simp only at HSw
        clear ho2 HLess
        go_wp2_with fail
        refine HSw.out.mono ?_
        rintro e w3 ⟨rfl, hO3, hT3⟩
        have HO3 := Lib.hid hO3
        have HT3 := Lib.hid ((HT.out.trans (Touch.of_below (F := fun k => k = bk) (hd.below _)) (fun _ h => .inl h)).trans hT3 (fun _ h => .inl h))
        clear hO3 hT3
        go_wp2_with fail
        go_roundw
        case rel =>
          refine ⟨i, swapM l' i k, by omega, rfl, fun m => (inM_swap (by omega) hk m).trans (HPm.out m), ?_, HO3.out, HT3.out⟩
          rw [keyM_swap]
          exact heapUp_swap HHk.out (by omega) hk hi H1.out
        case measure => simp [intOf]; omega
      · rw [decide_eq_false hlt] at HLess
        have H1 := Lib.hid hlt
        clear hlt
        go_wp2_with fail
        refine HLess.out.mono ?_
        rintro e w2 ⟨rfl, hd⟩
        go_wp2_with fail
        go_end0
        exact ⟨rfl, l', HPm.out, heapUp_end HHk.out (fun _ => by have := H1.out; rw [← hi] at this; omega), HO.out.below (hd.below _), HT.out.trans (Touch.of_below (F := fun k => k = bk) (hd.below _)) (fun _ h => .inl h)⟩

end

end Go.Proofs.YtcelabojehaioaaGreatDoor

/- Walks: container/heap at stamp's pile: down, Push, Pop. Printed by genpile.py. -/
namespace Go.Proofs.YtcelabojehaioaaGreatDoor
open Go.RowKit

section
variable {w : World} {bk : Nat} {b : Bk}

theorem heapUp_push {f : Nat → Mk} {n : Nat} (m : Mk) (h : HeapTo (keyM f) n) : HeapUp (keyM fun k => if k = n then m else f k) n (n + 1) := by
  have key : ∀ k, k < n → keyM (fun k => if k = n then m else f k) k = keyM f k := fun k hk => by unfold keyM; dsimp only; rw [if_neg (by omega)]
  refine ⟨fun k h0 hk hne => ?_, fun h0 k hk0 hk hp => by omega⟩
  rw [key k (by omega), key _ (by omega)]
  exact h k h0 (by omega)

set_option maxHeartbeats 2000000 in
set_option maxRecDepth 100000 in
theorem pileHeapPush (m : Mk) (h : BkAt w bk b) (hn : b.many < 16) (hH : HeapTo (keyM b.mks) b.many) :
    Calls Tryz.prog 162 #[.iface 285 (.pointer (some ⟨bk, 16, none⟩)), .iface 205 (mkV m)] w fun e w' => e = .returned (.tuple #[]) ∧
      ∃ f, (∀ k, InM f (b.many + 1) k ↔ InM b.mks b.many k ∨ k = m) ∧ HeapTo (keyM f) (b.many + 1) ∧ BkAt w' bk { b with mks := f, many := b.many + 1 } ∧ Touch (fun k => k = bk) w w' := by
  have mP := fun f W => pmeth_Push f ⟨bk, 16, none⟩ W
  have mL := fun f W => pmeth_Len f ⟨bk, 16, none⟩ W
  have HS := Lib.hid (pilePush h m hn)
  have HU := Lib.hid (heapUp_push m hH)
  obtain ⟨n, hnd⟩ : ∃ n, n = b.many := ⟨_, rfl⟩
  simp only [← hnd] at HS HU hn ⊢
  unfold mkV at HS ⊢
  clear h hH
  go_enter Tryz.func162, Tryz.ntmps162
  go_wp2_with fail
  refine HS.out.mono ?_
  rintro e w1 ⟨rfl, ho1, ht1⟩
  have HN := Lib.hid (pileLen ho1)
  have HUp := Lib.hid (pileUp n ho1 (by omega : n < n + 1) (by omega) HU.out)
  simp only at HN HUp
  rw [show ((n + 1 : Nat) : Int) = (n : Int) + 1 by omega] at HN
  have HT1 := Lib.hid ht1
  have hw1 : IntKind.i64.wrap ((n : Int) + 1 - 1) = (n : Int) := by rw [show (n : Int) + 1 - 1 = (n : Int) by omega]; exact IntWalk.i64_in _ (by omega)
  clear ho1 ht1 HS hnd
  go_wp2_with fail
  refine HN.out.mono ?_
  rintro e w' ⟨rfl, rfl⟩
  go_wp2_with fail
  refine HUp.out.mono ?_
  rintro e w2 ⟨rfl, f, hp, hh, ho2, ht2⟩
  go_wp2_with fail
  go_end0
  refine ⟨rfl, f, fun k => (hp k).trans ⟨?_, ?_⟩, hh, ho2, HT1.out.trans ht2 (fun _ h => .inl h)⟩
  · rintro ⟨i, hi, e⟩
    dsimp only at e
    by_cases hin : i = n
    · rw [if_pos hin] at e; exact .inr e.symm
    · rw [if_neg hin] at e; exact .inl ⟨i, by omega, e⟩
  · rintro (⟨i, hi, e⟩ | rfl)
    · exact ⟨i, by omega, by dsimp only; rw [if_neg (by omega)]; exact e⟩
    · exact ⟨n, by omega, by dsimp only; rw [if_pos rfl]⟩

end

end Go.Proofs.YtcelabojehaioaaGreatDoor

/- Walks of stamp's Watch: has, At, Open, Close. -/
namespace Go.Proofs.YtcelabojehaioaaGreatDoor
open Go.RowKit

def Bk.wt (b : Bk) : Wt := { ats := b.ats, ops := b.ops }
/-- Marks in a heap, of which those of open numbers are some. -/
structure PileB (b : Bk) : Prop where
  heap : HeapTo (keyM b.mks) b.many
  ids : ∀ m, InM b.mks b.many m → m.2 < 8
  has : ∀ i, i < 8 → b.ops i = true → InM b.mks b.many (b.ats i, i)
  len : b.many ≤ 16

section
variable {w w' : World} {bk : Nat} {b : Bk}

set_option maxHeartbeats 2000000 in
theorem watchHas (h : BkAt w bk b) (id : Int) : Calls Tryz.prog 170 #[.pointer (some ⟨bk, 0, none⟩), .int .i64 id] w fun e w' => e = .returned (.bool (hasW8 b.wt id)) ∧ w = w' := by
  by_cases h1 : 0 ≤ id
  · have t1 : decide (0 ≤ id) = true := decide_eq_true h1
    by_cases h2 : id < 8
    · have t2 : decide (id < 8) = true := decide_eq_true h2
      obtain ⟨i, rfl⟩ : ∃ i : Nat, id = (i : Int) := ⟨id.toNat, by omega⟩
      have c := h.cellOp i (by omega)
      have HV : Hid (hasW8 b.wt (i : Int) = b.ops i) := Lib.hid (by unfold hasW8; rw [t1, t2]; rfl)
      generalize b.ops i = o at *
      clear h
      go_enter Tryz.func170, Tryz.ntmps170
      go_wp2
      go_ret
      exact ⟨by rw [HV.out]; rfl, rfl⟩
    · have t2 : decide (id < 8) = false := decide_eq_false h2
      have HV : Hid (hasW8 b.wt id = false) := Lib.hid (by unfold hasW8; rw [t1, t2]; rfl)
      clear h
      go_enter Tryz.func170, Tryz.ntmps170
      go_wp2
      go_ret
      exact ⟨by rw [HV.out]; rfl, rfl⟩
  · have t1 : decide (0 ≤ id) = false := decide_eq_false h1
    have HV : Hid (hasW8 b.wt id = false) := Lib.hid (by unfold hasW8; rw [t1]; rfl)
    clear h
    go_enter Tryz.func170, Tryz.ntmps170
    go_wp2
    go_ret
    exact ⟨by rw [HV.out]; rfl, rfl⟩

theorem has_nat {t : Wt} {id : Int} (h : hasW8 t id = true) : ∃ i : Nat, id = (i : Int) ∧ i < 8 ∧ t.ops i = true := by
  unfold hasW8 at h
  simp only [Bool.and_eq_true, decide_eq_true_eq] at h
  exact ⟨id.toNat, by omega, by omega, h.2.2⟩

def atV (t : Wt) (id : Int) : Value := if hasW8 t id = true then .tuple #[.int .u64 ((t.ats id.toNat).toNat : Int), .bool true] else .tuple #[.int .u64 0, .bool false]

theorem watchAt (h : BkAt w bk b) (id : Int) : Calls Tryz.prog 111 #[.pointer (some ⟨bk, 0, none⟩), .int .i64 id] w fun e w' => e = .returned (atV b.wt id) ∧ w = w' := by
  have HH := Lib.hid (watchHas h id)
  cases hh : hasW8 b.wt id with
  | false =>
    rw [hh] at HH
    have HV : Hid (atV b.wt id = .tuple #[.int .u64 0, .bool false]) := Lib.hid (by unfold atV; rw [if_neg (by rw [hh]; exact Bool.false_ne_true)])
    clear h hh
    go_enter Tryz.func111, Tryz.ntmps111
    go_wp2_with fail
    refine HH.out.mono ?_
    rintro e w1 ⟨rfl, rfl⟩
    go_wp2_with fail
    go_ret2
    exact ⟨by rw [HV.out]; rfl, rfl⟩
  | true =>
    rw [hh] at HH
    have HV : Hid (atV b.wt id = .tuple #[.int .u64 ((b.ats id.toNat).toNat : Int), .bool true]) := Lib.hid (by unfold atV; rw [if_pos hh]; rfl)
    obtain ⟨i, rfl, hi, _⟩ := has_nat hh
    have c := h.cellAt i hi
    rw [Int.toNat_natCast] at HV
    have bi : (i : Int) < 8 := by omega
    clear h hh
    go_enter Tryz.func111, Tryz.ntmps111
    go_wp2_with fail
    refine HH.out.mono ?_
    rintro e w1 ⟨rfl, rfl⟩
    go_wp2_with fail
    go_ret2
    exact ⟨by rw [HV.out]; rfl, rfl⟩

def firstNo (t : Wt) : Int := match openW t with
  | some i => (i : Int)
  | none => -1

set_option maxHeartbeats 2000000 in
theorem indexBool (h : BkAt w bk b) : Calls Tryz.prog 160 #[.slice (some ⟨bk, 8, none⟩) 8 8, .bool false] w fun e w' => e = .returned (.int .i64 (firstNo b.wt)) ∧ w = w' := by
  go_enter Tryz.func160, Tryz.ntmps160
  go_wp2_with fail
  go_loop [8] (fun i => ∃ k : Nat, k ≤ 8 ∧ i = .int .i64 (k : Nat) ∧ ∀ t, t < k → b.ops t = true) (fun i => 8 - (intOf i).toNat)
  case atStart => exact ⟨0, by omega, rfl, fun t ht => absurd ht (by omega)⟩
  case round =>
    obtain ⟨k, hk, rfl, hno⟩ := hrel
    have HNo := Lib.hid hno
    clear hno
    by_cases hlt : k < 8
    · have c := h.cellOp k hlt
      have bi : (k : Int) < 8 := by omega
      cases ho : b.ops k with
      | false =>
        have HV : Hid (firstNo b.wt = (k : Int)) := Lib.hid (by
          unfold firstNo openW
          have : (List.range 8).find? (fun i => !b.wt.ops i) = some k := List.find?_eq_some_iff_getElem.2 ⟨by show (!b.ops k) = true; rw [ho]; rfl, k, by simpa using hlt, List.getElem_range .., fun j hj => by
            rw [List.getElem_range]; show (!!b.ops j) = true; rw [HNo.out j hj]; rfl⟩
          rw [this])
        rw [ho] at c
        clear ho
        go_wp2
        go_ret
        exact ⟨by rw [HV.out]; rfl, rfl⟩
      | true =>
        have HN : Hid (∀ t, t < k + 1 → b.ops t = true) := Lib.hid (fun t ht => by
          by_cases e : t = k
          · subst e; exact ho
          · exact HNo.out t (by omega))
        rw [ho] at c
        clear ho
        go_wp2
        go_round
        case rel => exact ⟨k + 1, by omega, by go_num, HN.out⟩
        case measure => simp [intOf]; omega
    · have hk8 : k = 8 := by omega
      subst hk8
      have HV : Hid (firstNo b.wt = -1) := Lib.hid (by
        unfold firstNo openW
        rw [List.find?_eq_none.2 (fun x hx => by simp [Bk.wt, HNo.out x (List.mem_range.1 hx)])])
      go_wp2
      go_ret
      exact ⟨by rw [HV.out]; rfl, rfl⟩

end

end Go.Proofs.YtcelabojehaioaaGreatDoor

/- Walks of stamp's Watch: Open, Close, live, drop. -/
namespace Go.Proofs.YtcelabojehaioaaGreatDoor
open Go.RowKit

theorem openW_some {t : Wt} {i : Nat} (h : openW t = some i) : i < 8 ∧ t.ops i = false := by
  unfold openW at h
  have h1 := List.mem_of_find?_eq_some h
  have h2 := List.find?_some h
  exact ⟨List.mem_range.1 h1, by simpa using h2⟩

section
variable {w w' : World} {bk : Nat} {b : Bk}

theorem watchOpen_none (h : BkAt w bk b) (ho : openW b.wt = none) (x : Int) : Calls Tryz.prog 106 #[.pointer (some ⟨bk, 0, none⟩), .int .u64 x] w fun e w' => e = .returned (.tuple #[.int .i64 0, .int .i64 6]) ∧ w = w' := by
  have HI := Lib.hid (indexBool h)
  have hf : firstNo b.wt = -1 := by unfold firstNo; rw [ho]
  rw [hf] at HI
  clear h ho hf
  go_enter Tryz.func106, Tryz.ntmps106
  go_wp2_with fail
  refine HI.out.mono ?_
  rintro e w1 ⟨rfl, rfl⟩
  go_wp2_with fail
  go_ret2
  exact ⟨rfl, rfl⟩

/-- A book with one more that is open. -/
structure Opened (b b' : Bk) (i : Nat) (x : UInt64) : Prop where
  ats : b'.ats = updF b.ats i x
  ops : b'.ops = updF b.ops i true
  st : b'.st = b.st
  nt : b'.nt = b.nt
  many : b'.many = b.many + 1
  pile : PileB b'

set_option maxHeartbeats 4000000 in
set_option maxRecDepth 100000 in
theorem watchOpen (h : BkAt w bk b) (hP : PileB b) {i : Nat} (ho : openW b.wt = some i) (hm : b.many < 16) (x : UInt64) :
    Calls Tryz.prog 106 #[.pointer (some ⟨bk, 0, none⟩), .int .u64 (x.toNat : Int)] w fun e w' => e = .returned (.tuple #[.int .i64 (i : Int), .int .i64 0]) ∧
      ∃ b', Opened b b' i x ∧ BkAt w' bk b' ∧ Touch (fun k => k = bk) w w' := by
  obtain ⟨hi, hno⟩ := openW_some ho
  have HI := Lib.hid (indexBool h)
  have hf : firstNo b.wt = (i : Int) := by unfold firstNo; rw [ho]
  rw [hf] at HI
  have bi : (i : Int) < 8 := by omega
  have g0 := h.frozen i
  have g1 := h.frozen (8 + i)
  have c0 := h.cellAt i hi
  have c1 := h.cellOp i hi
  have hlt := h.lt
  have HA : Hid (∀ W, W = (w.setCell ⟨bk, i, none⟩ (.int .u64 (x.toNat : Int))).setCell ⟨bk, 8 + i, none⟩ (.bool true) ∨ W = (w.setCell ⟨bk, 8 + i, none⟩ (.bool true)).setCell ⟨bk, i, none⟩ (.int .u64 (x.toNat : Int)) →
      BkAt W.drew bk { b with ats := updF b.ats i x, ops := updF b.ops i true } ∧ Touch (fun k => k = bk) w W.drew) := Lib.hid (by
    rintro W (rfl | rfl)
    · exact ⟨((h.setAt i hi x).setOp i hi true).dr (Dr.drew _), (((Touch.refl (fun k => k = bk) w).setCell (p := ⟨bk, i, none⟩) (.inl rfl) _).setCell (p := ⟨bk, 8 + i, none⟩) (.inl rfl) _).drew⟩
    · exact ⟨((h.setOp i hi true).setAt i hi x).dr (Dr.drew _), (((Touch.refl (fun k => k = bk) w).setCell (p := ⟨bk, 8 + i, none⟩) (.inl rfl) _).setCell (p := ⟨bk, i, none⟩) (.inl rfl) _).drew⟩)
  have HP := Lib.hid hP
  have HM := Lib.hid hm
  have HB := Lib.hid hi
  have HNo := Lib.hid hno
  clear h ho hf hP hm hno
  go_enter Tryz.func106, Tryz.ntmps106
  go_wp2_with fail
  refine HI.out.mono ?_
  rintro e w1 ⟨rfl, rfl⟩
  go_wp2_with fail
  go_region
  all_goals (
    first
      | (obtain ⟨W2, hW2⟩ : ∃ W2, W2 = ((w.setCell ⟨bk, i, none⟩ (.int .u64 (x.toNat : Int))).setCell ⟨bk, 8 + i, none⟩ (.bool true)).drew := ⟨_, rfl⟩
         rw [← hW2]
         have hAA := HA.out _ (.inl rfl)
         rw [← hW2] at hAA
         clear hW2)
      | (obtain ⟨W2, hW2⟩ : ∃ W2, W2 = ((w.setCell ⟨bk, 8 + i, none⟩ (.bool true)).setCell ⟨bk, i, none⟩ (.int .u64 (x.toNat : Int))).drew := ⟨_, rfl⟩
         rw [← hW2]
         have hAA := HA.out _ (.inr rfl)
         rw [← hW2] at hAA
         clear hW2)
    obtain ⟨hbk, ht⟩ := hAA
    have cm := hbk.cellMany
    have HPu := Lib.hid (pileHeapPush (x, i) hbk (by dsimp only; exact HM.out) (by dsimp only; exact HP.out.heap))
    have HT := Lib.hid ht
    have tm : decide ((b.many : Int) = 16) = false := decide_eq_false (by have := HM.out; omega)
    have tm2 : decide (b.many = 16) = false := decide_eq_false (by have := HM.out; omega)
    have tm3 : ¬ b.many = 16 := (by have := HM.out; omega)
    dsimp only at cm HPu
    unfold mkV at HPu
    clear hbk ht g0 g1 c0 c1 hlt
    go_wp2_with fail
    refine HPu.out.mono ?_
    rintro e w3 ⟨rfl, f, hin, hh, hb3, ht3⟩
    go_wp2_with fail
    go_ret2
    refine ⟨rfl, { b with ats := updF b.ats i x, ops := updF b.ops i true, mks := f, many := b.many + 1 }, ⟨rfl, rfl, rfl, rfl, rfl, hh, ?_, ?_, ?_⟩, hb3, HT.out.trans ht3 (fun _ h => .inl h)⟩
    · intro m hm
      rcases (hin m).1 hm with h | rfl
      · exact HP.out.ids m h
      · exact HB.out
    · intro k hk hop
      refine (hin _).2 ?_
      simp only [updF] at hop ⊢
      by_cases e : k = i
      · rw [if_pos e, e]; exact .inr rfl
      · rw [if_neg e]; rw [if_neg e] at hop; exact .inl (HP.out.has k hk hop)
    · have := HM.out; dsimp only; omega)

/-- A book with one less that is open. -/
structure Closed (b b' : Bk) (i : Nat) : Prop where
  ats : b'.ats = updF b.ats i 0
  ops : b'.ops = updF b.ops i false
  st : b'.st = b.st
  nt : b'.nt = b.nt
  many : b'.many = b.many
  pile : PileB b'

set_option maxHeartbeats 4000000 in
set_option maxRecDepth 100000 in
theorem watchClose (h : BkAt w bk b) (hP : PileB b) {i : Nat} (hi : i < 8) (ho : b.ops i = true) :
    Calls Tryz.prog 115 #[.pointer (some ⟨bk, 0, none⟩), .int .i64 (i : Int)] w fun e w' => e = .returned (.int .i64 0) ∧
      ∃ b', Closed b b' i ∧ BkAt w' bk b' ∧ Touch (fun k => k = bk) w w' := by
  have HH := Lib.hid (watchHas h (i : Int))
  have hh : hasW8 b.wt (i : Int) = true := by
    unfold hasW8
    simp only [Bool.and_eq_true, decide_eq_true_eq]
    exact ⟨by omega, by omega, ho⟩
  rw [hh] at HH
  have bi : (i : Int) < 8 := by omega
  have g0 := h.frozen i
  have g1 := h.frozen (8 + i)
  have c0 := h.cellAt i hi
  have c1 := h.cellOp i hi
  have hlt := h.lt
  have HA : Hid (∀ W, W = (w.setCell ⟨bk, i, none⟩ (.int .u64 0)).setCell ⟨bk, 8 + i, none⟩ (.bool false) ∨ W = (w.setCell ⟨bk, 8 + i, none⟩ (.bool false)).setCell ⟨bk, i, none⟩ (.int .u64 0) →
      BkAt W.drew bk { b with ats := updF b.ats i 0, ops := updF b.ops i false } ∧ Touch (fun k => k = bk) w W.drew) := Lib.hid (by
    rintro W (rfl | rfl)
    · exact ⟨((h.setAt i hi 0).setOp i hi false).dr (Dr.drew _), (((Touch.refl (fun k => k = bk) w).setCell (p := ⟨bk, i, none⟩) (.inl rfl) _).setCell (p := ⟨bk, 8 + i, none⟩) (.inl rfl) _).drew⟩
    · exact ⟨((h.setOp i hi false).setAt i hi 0).dr (Dr.drew _), (((Touch.refl (fun k => k = bk) w).setCell (p := ⟨bk, 8 + i, none⟩) (.inl rfl) _).setCell (p := ⟨bk, i, none⟩) (.inl rfl) _).drew⟩)
  have HP := Lib.hid hP
  clear h hP ho hh
  go_enter Tryz.func115, Tryz.ntmps115
  go_wp2_with fail
  refine HH.out.mono ?_
  rintro e w1 ⟨rfl, rfl⟩
  go_wp2_with fail
  go_region
  all_goals (
    first
      | (obtain ⟨W2, hW2⟩ : ∃ W2, W2 = ((w.setCell ⟨bk, i, none⟩ (.int .u64 0)).setCell ⟨bk, 8 + i, none⟩ (.bool false)).drew := ⟨_, rfl⟩
         rw [← hW2]
         have hAA := HA.out _ (.inl rfl)
         rw [← hW2] at hAA
         clear hW2)
      | (obtain ⟨W2, hW2⟩ : ∃ W2, W2 = ((w.setCell ⟨bk, 8 + i, none⟩ (.bool false)).setCell ⟨bk, i, none⟩ (.int .u64 0)).drew := ⟨_, rfl⟩
         rw [← hW2]
         have hAA := HA.out _ (.inr rfl)
         rw [← hW2] at hAA
         clear hW2)
    obtain ⟨hbk, ht⟩ := hAA
    clear g0 g1 c0 c1 hlt
    go_wp2_with fail
    go_ret
    refine ⟨rfl, { b with ats := updF b.ats i 0, ops := updF b.ops i false }, ⟨rfl, rfl, rfl, rfl, rfl, HP.out.heap, HP.out.ids, ?_, HP.out.len⟩, hbk, ht⟩
    intro k hk hop
    simp only [updF] at hop ⊢
    by_cases e : k = i
    · rw [if_pos e] at hop; exact absurd hop (by decide)
    · rw [if_neg e] at hop ⊢; exact HP.out.has k hk hop)

end

end Go.Proofs.YtcelabojehaioaaGreatDoor

/- Walks of stamp's Watch: drop, Least. -/
namespace Go.Proofs.YtcelabojehaioaaGreatDoor
open Go.RowKit

section
variable {w w' : World} {bk : Nat} {b : Bk}

end

end Go.Proofs.YtcelabojehaioaaGreatDoor
