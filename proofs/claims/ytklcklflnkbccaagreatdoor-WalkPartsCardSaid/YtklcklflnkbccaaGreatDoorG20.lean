import Derived.Deep.RegionLaw
import Derived.Test.YtklcklflnkbccaaGreatDoorG05
import Derived.Test.YtklcklflnkbccaaGreatDoorG11
import Derived.Test.YtklcklflnkbccaaGreatDoorG17
import Derived.Test.YtklcklflnkbccaaGreatDoorG19
/- Walks of package head: Open. -/
namespace Go.Proofs.YtklcklflnkbccaaGreatDoor
open Go.RowKit

/-- What Open answers: the shape, or that it is no store's. -/
def openV (ws : Nat → UInt64) (sh : Sh) : Value := if wordsAt ws 0 8 = wordsOf sh then .tuple #[shV sh, .int .i64 0] else .tuple #[.agg #[.int .i64 0, .int .i64 0, .int .i64 0, .int .i64 0], .int .i64 5]

set_option maxHeartbeats 4000000 in
set_option maxRecDepth 100000 in
theorem open_head {w : World} {d L : Nat} {ws : Nat → UInt64} {own : Nat → Prop} {sh : Sh} (hL0 : 0 < L) (hL : L ≤ 1024) (hs : shapeOf L = some sh) (h : Dev w d L ws (fun _ => 0) (fun _ => 0) own) (hT : Tabs w) :
    Calls Tryz.prog 81 #[.pointer (some ⟨d, 0, none⟩)] w fun e w' => e = .returned (openV ws sh) ∧ Below w.heap.size w w' := by
  have ok := shape_ok hs
  have hli := ok.lines
  obtain ⟨N, hN⟩ : ∃ N, N = L * 64 := ⟨_, rfl⟩
  have HSz := Lib.hid (fun W (h : Dev W d L ws (fun _ => 0) (fun _ => 0) own) => by have := h.size hL; rw [← hN] at this; exact this)
  have e1 : (N : Int) / 64 = (L : Int) := by omega
  have t1 : ((L : Int) == 0) = false := by rw [beq_eq_false_iff_ne]; omega
  have HOf := Lib.hid (fun W => headOf_any L W hL)
  have HV : Hid (ofV L = .tuple #[shV sh, .bool true]) := Lib.hid (by rw [ofV, hs]; rfl)
  obtain ⟨v0, v1, v2, v3, hsv⟩ : ∃ v0 v1 v2 v3 : Nat, shV sh = .agg #[.int .i64 (v0 : Int), .int .i64 (v1 : Int), .int .i64 (v2 : Int), .int .i64 (v3 : Int)] := ⟨_, _, _, _, rfl⟩
  have HSV := Lib.hid hsv
  rw [hsv] at HV
  have B0 : Blk (w.alloc (.cells #[.int .i64 0, .int .i64 0, .int .i64 0, .int .i64 0] 137)) w.heap.size 137 [.int .i64 0, .int .i64 0, .int .i64 0, .int .i64 0] := heap_alloc_new _ _
  have hb0 : Below w.heap.size w (w.alloc (.cells #[.int .i64 0, .int .i64 0, .int .i64 0, .int .i64 0] 137)) := (Below.refl _ _).alloc (Nat.le_refl _) _
  have HD := Lib.hid h
  have HDb := Lib.hid (fun W (k : Below w.heap.size w W) => (h.below k : Dev W d L ws (fun _ => 0) (fun _ => 0) own))
  clear h hN hsv
  go_enter Tryz.func81, Tryz.ntmps81
  go_wp2_with fail
  obtain ⟨W0, hW0⟩ : ∃ W0, W0 = w.alloc (.cells #[.int .i64 0, .int .i64 0, .int .i64 0, .int .i64 0] 137) := ⟨_, rfl⟩
  rw [← hW0] at B0 hb0 ⊢
  have hlt0 : w.heap.size < W0.heap.size := B0.lt
  clear hW0
  refine (HSz.out _ (HDb.out _ hb0)).mono ?_
  rintro e w' ⟨rfl, rfl⟩
  obtain ⟨gd, hbd, hrd, hod⟩ := HDb.out _ hb0
  have HG := get_dev d L ws _ _ gd hbd 0 8 W0 hL0 hL hrd (by omega)
  rw [show ((8 * 0 : Nat) : Int) = 0 from rfl] at HG
  have HG := Lib.hid HG
  clear hrd hod
  go_wp2_with fail
  refine HG.out.mono ?_
  rintro e w1 ⟨v1', rfl, ho1, hb1⟩
  obtain ⟨A1, c1, rfl, hc1, hr1⟩ := rd_of_own ho1
  have hb01 := hb0.trans (hb1.mono hb0.size)
  have B1 := B0.below hb1 hlt0
  have HR1 : Hid (Ws w1 A1 8 (wordsAt ws 0 8)) := Lib.hid hr1
  have HB1 := Lib.hid hb01
  have HBk1 := Lib.hid B1
  clear hb0 hb1 B0 B1 hb01 ho1 hr1 HG
  go_wp2_with fail
  refine (HOf.out _).mono ?_
  rintro e w2 ⟨rfl, hb2⟩
  rw [HV.out]
  have hb02 := HB1.out.trans (hb2.mono HB1.out.size)
  have hlt1 := HBk1.out.lt
  have hBk2 := HBk1.out.below hb2 hlt1
  have hr2 := HR1.out.below hb2
  obtain ⟨W3, hW3⟩ : ∃ W3, W3 = w2.alloc (.cells #[.int .i64 (v0 : Int), .int .i64 (v1 : Int), .int .i64 (v2 : Int), .int .i64 (v3 : Int)] 137) := ⟨_, rfl⟩
  have hb23 : Below w2.heap.size w2 W3 := by rw [hW3]; exact (Below.refl _ _).alloc (Nat.le_refl _) _
  have hS3 : Blk W3 w2.heap.size 137 [.int .i64 (v0 : Int), .int .i64 (v1 : Int), .int .i64 (v2 : Int), .int .i64 (v3 : Int)] := by rw [hW3]; exact heap_alloc_new _ _
  have hBk3 := hBk2.below hb23 hBk2.lt
  have hb03 := hb02.trans (hb23.mono hb02.size)
  have HWo := headWords_any sh W3 (by omega) (by rw [hli]; exact hs) (hT.below hb03).fours
  rw [HSV.out] at HWo
  have HWo := Lib.hid HWo
  have HR3 := Lib.hid (hr2.below hb23)
  have HS3 := Lib.hid hS3
  have HBk3 := Lib.hid hBk3
  have HB3 := Lib.hid hb03
  have HW3 := Lib.hid hW3
  clear hb02 hBk2 hr2 hb23 hS3 hBk3 hb03 hb2 hW3 HBk1 HR1
  go_wp2_with fail
  rw [← HW3.out]
  refine HWo.out.mono ?_
  rintro e w4 ⟨v4, rfl, hown4, hb4⟩
  obtain ⟨A4, c4, rfl, hc4, hr4⟩ := rd_of_own hown4
  have HEq := Lib.hid (equalW_any A1 A4 8 8 c1 c4 (wordsAt ws 0 8) (wordsOf sh) w4 (by decide) (by decide) (HR3.out.below hb4) hr4)
  have HS4 := Lib.hid (HS3.out.below hb4 HS3.out.lt)
  have HBk4 := Lib.hid (HBk3.out.below hb4 HBk3.out.lt)
  have HB4 := Lib.hid (HB3.out.trans (hb4.mono HB3.out.size))
  clear hown4 hr4 hb4 HWo
  by_cases he : wordsAt ws 0 8 = wordsOf sh
  · rw [decide_eq_true he] at HEq
    have HVV : Hid (openV ws sh = .tuple #[shV sh, .int .i64 0]) := Lib.hid (by rw [openV, if_pos he])
    clear he
    go_wp2_with fail
    refine HEq.out.mono ?_
    rintro e w5 ⟨rfl, q, rfl⟩
    have hS5 := HS4.out.below ((Dr.one w4 q).below _) HS4.out.lt
    have hR5 := HBk4.out.below ((Dr.one w4 q).below _) HBk4.out.lt
    obtain ⟨W5, hW5⟩ : ∃ W5, W5 = w4.drewN q := ⟨_, rfl⟩
    have hb5 : Below w.heap.size w W5 := HB4.out.trans ((by rw [hW5]; exact (Dr.one w4 q).below _))
    rw [← hW5] at hS5 hR5 ⊢
    clear hW5
    obtain ⟨y0, y1, y2, y3, _, _, _, _⟩ := blk4' hS5
    obtain ⟨z0, z1, z2, z3, f0, f1, f2, f3⟩ := blk4' hR5
    have HR5 := Lib.hid hR5
    have HB5 := Lib.hid hb5
    clear hR5 hS5 hb5
    go_wp2_with fail
    have k9 := (((HR5.out.set_ 0 (.int .i64 (v0 : Int))).set_ 1 (.int .i64 (v1 : Int))).set_ 2 (.int .i64 (v2 : Int))).set_ 3 (.int .i64 (v3 : Int))
    have b9 := (((HB5.out.setCell (p := ⟨w.heap.size, 0, none⟩) (Nat.le_refl _) (.int .i64 (v0 : Int))).setCell (p := ⟨w.heap.size, 1, none⟩) (Nat.le_refl _) (.int .i64 (v1 : Int))).setCell (p := ⟨w.heap.size, 2, none⟩) (Nat.le_refl _) (.int .i64 (v2 : Int))).setCell (p := ⟨w.heap.size, 3, none⟩) (Nat.le_refl _) (.int .i64 (v3 : Int))
    refine shape_ret' rfl w.heap.size k9 (.int .i64 0) rfl rfl ?_
    exact ⟨by rw [HVV.out, HSV.out], b9⟩
  · rw [decide_eq_false he] at HEq
    have HVV : Hid (openV ws sh = .tuple #[.agg #[.int .i64 0, .int .i64 0, .int .i64 0, .int .i64 0], .int .i64 5]) := Lib.hid (by rw [openV, if_neg he])
    clear he
    go_wp2_with fail
    refine HEq.out.mono ?_
    rintro e w5 ⟨rfl, q, rfl⟩
    have hR5 := HBk4.out.below ((Dr.one w4 q).below _) HBk4.out.lt
    obtain ⟨W5, hW5⟩ : ∃ W5, W5 = w4.drewN q := ⟨_, rfl⟩
    have hb5 : Below w.heap.size w W5 := HB4.out.trans ((by rw [hW5]; exact (Dr.one w4 q).below _))
    rw [← hW5] at hR5 ⊢
    clear hW5
    obtain ⟨z0, z1, z2, z3, f0, f1, f2, f3⟩ := blk4' hR5
    have HR5 := Lib.hid hR5
    have HB5 := Lib.hid hb5
    clear hR5 hb5
    go_wp2_with fail
    have k9 := (((HR5.out.set_ 0 (.int .i64 0)).set_ 1 (.int .i64 0)).set_ 2 (.int .i64 0)).set_ 3 (.int .i64 0)
    have b9 := (((HB5.out.setCell (p := ⟨w.heap.size, 0, none⟩) (Nat.le_refl _) (.int .i64 0)).setCell (p := ⟨w.heap.size, 1, none⟩) (Nat.le_refl _) (.int .i64 0)).setCell (p := ⟨w.heap.size, 2, none⟩) (Nat.le_refl _) (.int .i64 0)).setCell (p := ⟨w.heap.size, 3, none⟩) (Nat.le_refl _) (.int .i64 0)
    refine shape_ret' rfl w.heap.size k9 (.int .i64 5) rfl rfl ?_
    exact ⟨by rw [HVV.out], b9⟩

end Go.Proofs.YtklcklflnkbccaaGreatDoor

/- Walks of package pool: Open. -/
namespace Go.Proofs.YtklcklflnkbccaaGreatDoor
open Go.RowKit

theorem Tryz.wordsTyK : RowTyK Tryz.prog 94 33 (.int .u64 0) 1 8 := ⟨Tryz.underlying94, by kernel_rfl, rfl⟩

theorem entry_any (p t i : Nat) (w : World) (y3 : w.cell? ⟨p, 3, none⟩ = some (.int .i64 (t : Int))) (ht : t ≤ 100000) (hi : i ≤ 100000) : Calls Tryz.prog 83 #[.pointer (some ⟨p, 0, none⟩), .int .i64 (i : Int)] w fun e w' => e = .returned (.int .i64 ((t : Int) + 8 * (i : Int))) ∧ w = w' := by
  go_enter Tryz.func83, Tryz.ntmps83
  go_wp2
  go_ret
  exact ⟨by go_num, rfl⟩

theorem wordsAt_succ (ws : Nat → UInt64) (j k : Nat) : (wordsAt ws j (k + 1)).map wv = (wordsAt ws j k).map wv ++ [.int .u64 ((ws (j + k)).toNat : Int)] := by
  simp [wordsAt, List.range_succ, wv]

/-- A round of Open: the taken row has one word more. -/
theorem open_round {W4 w5 w6 : World} {p0 k g6 c6 base : Nat} {v a0 a1 a2 a3 a4 a6 : Value} {ws : Nat → UInt64} {j : Nat} {x : UInt64} (hx : ws (j + k) = x) (_ : base ≤ p0)
    (hP : Blk w5 p0 139 [a0, a1, a2, a3, a4, v, a6]) (hv : (k = 0 ∧ v = .slice none 0 0) ∨ ∃ g c, v = .slice (some ⟨g, 0, none⟩) k c ∧ p0 < g) (hbl : Below p0 W4 w5) (_ : W4.heap.size ≤ w5.heap.size)
    (hO : w6.ownsRow base 33 1 (.slice (some ⟨g6, 0, none⟩) (k + 1) c6) (k + 1) ((wordsAt ws j k).map wv ++ [.int .u64 (x.toNat : Int)])) (hB : Below base w5 w6) (hK : Kept w5 w6 v.ownBlock) (hg : v.ownBlock = some g6 ∨ w5.heap.size ≤ g6) :
    Blk (w6.setCell ⟨p0, 5, none⟩ (.slice (some ⟨g6, 0, none⟩) (k + 1) c6)) p0 139 [a0, a1, a2, a3, a4, .slice (some ⟨g6, 0, none⟩) (k + 1) c6, a6] ∧ p0 < g6 ∧
      (w6.setCell ⟨p0, 5, none⟩ (.slice (some ⟨g6, 0, none⟩) (k + 1) c6)).ownsRow base 33 1 (.slice (some ⟨g6, 0, none⟩) (k + 1) c6) (k + 1) ((wordsAt ws j (k + 1)).map wv) ∧ Below p0 W4 (w6.setCell ⟨p0, 5, none⟩ (.slice (some ⟨g6, 0, none⟩) (k + 1) c6)) := by
  have hne : some p0 ≠ v.ownBlock := fun e => by rcases hv with ⟨_, h⟩ | ⟨g, c, h, hlt⟩ <;> (subst h; simp [Value.ownBlock] at e); omega
  have hpg : p0 < g6 := by
    rcases hg with h | h
    · rcases hv with ⟨_, h'⟩ | ⟨g, c, h', hlt⟩ <;> (subst h'; simp [Value.ownBlock] at h); omega
    · have := hP.lt; omega
  have hP6 : Blk w6 p0 139 [a0, a1, a2, a3, a4, v, a6] := (hK.2 p0 hP.lt hne).trans hP
  refine ⟨hP6.set_ 5 _, hpg, ?_, ?_⟩
  · rw [wordsAt_succ, hx]
    refine own_touch hO ((Touch.refl (fun b => b = p0) w6).setCell (p := ⟨p0, 5, none⟩) (.inl rfl) _) (fun b hb e => ?_)
    have : g6 = b := by simpa [Value.ownBlock] using hb
    omega
  · have hplt := hP.lt
    have hb6 : Below p0 w5 w6 := ⟨hB.os, hB.tape, hB.output, hK.1, fun b hb => hK.2 b (Nat.lt_trans hb hplt) (fun e => by
      rcases hv with ⟨_, h'⟩ | ⟨g, c, h', hlt⟩
      · subst h'; simp [Value.ownBlock] at e
      · subst h'
        have : b = g := by simpa [Value.ownBlock] using e
        omega)⟩
    exact (hbl.trans hb6).setCell (p := ⟨p0, 5, none⟩) (Nat.le_refl _) _

set_option maxHeartbeats 8000000 in
set_option maxRecDepth 100000 in
theorem open_pool {w : World} {d L : Nat} {ws : Nat → UInt64} {own : Nat → Prop} {sh : Sh} (hL0 : 0 < L) (hL : L ≤ 1024) (hs : shapeOf L = some sh) (h : Dev w d L ws (fun _ => 0) (fun _ => 0) own) (hT : Tabs w) (g1 : ¬ own 0) (g2 : ¬ own 1)
    (h8 : wordsAt ws 0 8 = wordsOf sh) (hall : ∀ i, i < sh.slabs → rightW (ws (sh.table / 8 + i)).toNat = true) :
    Calls Tryz.prog 52 #[.pointer (some ⟨d, 0, none⟩)] w fun e w' => ∃ p F, e = .returned (.tuple #[.pointer (some ⟨p, 0, none⟩), .int .i64 0]) ∧
      Sys w' d p L { sh := sh, ws := ws, tk := wordsAt ws (sh.table / 8) sh.slabs, hd := List.replicate sh.slabs 0 } F ∧ Below w.heap.size w w' ∧ ∀ b, F b → own b ∨ w.heap.size ≤ b := by
  have ok := shape_ok hs
  have HO := Lib.hid (open_head hL0 hL hs h hT)
  have HV : Hid (openV ws sh = .tuple #[shV sh, .int .i64 0]) := Lib.hid (by rw [openV, if_pos h8])
  obtain ⟨n, hn⟩ : ∃ x, sh.slabs = x := ⟨_, rfl⟩
  obtain ⟨tb, htb⟩ : ∃ x, sh.table = x := ⟨_, rfl⟩
  obtain ⟨dt, hdt⟩ : ∃ x, sh.data = x := ⟨_, rfl⟩
  obtain ⟨li, hli⟩ : ∃ x, sh.lines = x := ⟨_, rfl⟩
  have hsv : shV sh = .agg #[.int .i64 (li : Int), .int .i64 (n : Int), .int .i64 (tb : Int), .int .i64 (dt : Int)] := by rw [shV, hn, htb, hdt, hli]
  rw [hsv] at HV
  have hn64 : n ≤ 64 := by have := ok.fits; omega
  have htb8 : tb = 128 := by rw [← htb]; exact ok.table
  obtain ⟨i0, hi, hz0, hz1, hz2⟩ := info_parts Tryz.wordsTy.hi
  have hmk : ∀ W : World, (Instr.makeSlice 94 (.int .i64 (n : Int)) (.int .i64 (n : Int))).run Tryz.prog W = .ok (.slice (some ⟨W.heap.size, 0, none⟩) n n) (W.alloc (.cells (madeCells (Value.int .u64 0).cells (n * 1)) 33)) := fun W => by
    have := run_make (P := Tryz.prog) (w := W) 94 33 i0 (.int .u64 0) Tryz.underlying94 hi hz0 .i64 .i64 (n : Int) (n : Int) (by omega) (by omega) (by rw [hz2]; omega) (by omega)
    rw [hz1] at this
    simpa using this
  obtain ⟨zc, hzc⟩ : ∃ zc, madeCells (Value.int .u64 0).cells (n * 1) = zc := ⟨_, rfl⟩
  rw [hzc] at hmk
  have HDb := Lib.hid (fun W (k : Below w.heap.size w W) => (h.below k : Dev W d L ws (fun _ => 0) (fun _ => 0) own))
  have HOk := Lib.hid ok
  have HLt := Lib.hid h.lt
  have HSh := Lib.hid hs
  have HAll := Lib.hid hall
  have htbb : tb ≤ 100000 := by omega
  have HTB8 := Lib.hid htb8
  have HTb := Lib.hid htb
  clear h ok hsv h8 hall hi hz0 hz1 hz2 htb8 htb
  go_enter Tryz.func52, Tryz.ntmps52
  go_wp2_with fail
  refine HO.out.mono ?_
  rintro e w1 ⟨rfl, hb1⟩
  rw [HV.out]
  go_wp2_with fail
  obtain ⟨W2, hW2⟩ : ∃ W2, W2 = w1.alloc (.cells #[.int .i64 (li : Int), .int .i64 (n : Int), .int .i64 (tb : Int), .int .i64 (dt : Int)] 137) := ⟨_, rfl⟩
  have hS2 : Blk W2 w1.heap.size 137 [.int .i64 (li : Int), .int .i64 (n : Int), .int .i64 (tb : Int), .int .i64 (dt : Int)] := by rw [hW2]; exact heap_alloc_new _ _
  have hb2 : Below w.heap.size w W2 := by rw [hW2]; exact hb1.alloc hb1.size _
  rw [← hW2]
  obtain ⟨y0, y1, y2, y3, f0, f1, f2, f3⟩ := blk4' hS2
  have hS2' : Blk (W2.alloc (.cells zc 33)) w1.heap.size 137 [.int .i64 (li : Int), .int .i64 (n : Int), .int .i64 (tb : Int), .int .i64 (dt : Int)] := (heap_alloc_old _ _ hS2.lt).trans hS2
  obtain ⟨x0, x1, x2, x3, _, _, _, _⟩ := blk4' hS2'
  have HS2 := Lib.hid hS2
  have HB2 := Lib.hid hb2
  clear hW2 hS2 hS2' hb2 hb1 HO
  go_region
  obtain ⟨W4, hW4⟩ : ∃ W4, W4 = ((W2.alloc (.cells zc 33)).alloc (.cells #[.pointer (some ⟨d, 0, none⟩), .int .i64 (li : Int), .int .i64 (n : Int), .int .i64 (tb : Int), .int .i64 (dt : Int), .slice none 0 0, .slice (some ⟨W2.heap.size, 0, none⟩) n n] 139)).drew := ⟨_, rfl⟩
  have e1 : (W2.alloc (.cells zc 33)).heap.size = W2.heap.size + 1 := by simp
  have hP4 : Blk W4 (W2.heap.size + 1) 139 [.pointer (some ⟨d, 0, none⟩), .int .i64 (li : Int), .int .i64 (n : Int), .int .i64 (tb : Int), .int .i64 (dt : Int), .slice none 0 0, .slice (some ⟨W2.heap.size, 0, none⟩) n n] := by
    rw [hW4, ← e1]; exact heap_alloc_new _ _
  have hZ4 : W4.heap[W2.heap.size]? = some (.cells zc 33 (0, 0)) := by
    rw [hW4]; exact (heap_alloc_old _ _ (by omega)).trans (heap_alloc_new _ _)
  have hS4 : Blk W4 w1.heap.size 137 [.int .i64 (li : Int), .int .i64 (n : Int), .int .i64 (tb : Int), .int .i64 (dt : Int)] := by
    have := HS2.out.lt
    rw [hW4]; exact (heap_alloc_old _ _ (by omega)).trans ((heap_alloc_old _ _ this).trans HS2.out)
  have hb4 : Below w.heap.size w W4 := by
    have := HB2.out.size
    rw [hW4]; exact ((HB2.out.alloc this _).alloc (by omega) _).trans ((Dr.drew _).below _)
  rw [← hW4]
  have hws := HB2.out.size
  have hs2 := HS2.out.lt
  have hsz4 : W4.heap.size = W2.heap.size + 1 + 1 := by rw [hW4]; show (Array.size _) = _; simp
  clear hW4 x0 x1 x2 x3 y0 y1 y2 y3 f0 f1 f2 f3 e1
  obtain ⟨p0, hp0⟩ : ∃ p0, W2.heap.size + 1 = p0 := ⟨_, rfl⟩
  obtain ⟨h0, hh0⟩ : ∃ h0, W2.heap.size = h0 := ⟨_, rfl⟩
  obtain ⟨s0, hs0⟩ : ∃ s0, w1.heap.size = s0 := ⟨_, rfl⟩
  rw [hp0] at hP4 hsz4 ⊢
  rw [hh0] at hP4 hZ4 hws hs2 hp0 ⊢
  rw [hs0] at hS4 hs2 ⊢
  obtain ⟨y0, y1, y2, y3, f0, f1, f2, f3⟩ := blk4' hS4
  have HP4 := Lib.hid hP4
  have HZ4 := Lib.hid hZ4
  have HS4 := Lib.hid hS4
  have HB4 := Lib.hid hb4
  clear hP4 hZ4 hS4 hb4 HS2 HB2 HV
  go_wp2_with fail
  go_loopw [27] (fun i wr => ∃ k v, k ≤ n ∧ i = .int .i64 (k : Nat) ∧ Blk wr p0 139 [.pointer (some ⟨d, 0, none⟩), .int .i64 (li : Int), .int .i64 (n : Int), .int .i64 (tb : Int), .int .i64 (dt : Int), v, .slice (some ⟨h0, 0, none⟩) n n] ∧
    ((k = 0 ∧ v = .slice none 0 0) ∨ ∃ g c, v = .slice (some ⟨g, 0, none⟩) k c ∧ p0 < g) ∧ wr.ownsRow w.heap.size 33 1 v k ((wordsAt ws (tb / 8) k).map wv) ∧ Below p0 W4 wr) (fun i _ => n - (intOf i).toNat)
  case atStart => exact ⟨0, _, Nat.zero_le _, rfl, HP4.out, .inl ⟨rfl, rfl⟩, World.ownsRow_nil _ _ _ _, Below.refl _ _⟩
  case round =>
    obtain ⟨k, v, hk, rfl, hP, hv, hrow, hbl⟩ := hrel
    have hbw : Below w.heap.size w wr := HB4.out.trans (hbl.mono (by omega))
    have y3' := hP.cell 3
    simp only [List.getElem?_cons_succ, List.getElem?_cons_zero] at y3'
    have HEn := Lib.hid (entry_any p0 tb k wr y3' htbb (by omega))
    have HPk := Lib.hid hP
    have HVk := Lib.hid hv
    have HRw := Lib.hid hrow
    have HBl := Lib.hid hbl
    have HBw := Lib.hid hbw
    clear hP hv hrow hbl y3'
    by_cases hlt : k < n
    · obtain ⟨gd, hbd, hrd, hod⟩ := HDb.out _ hbw
      have HG := get_dev d L ws _ _ gd hbd (tb / 8 + k) 1 wr hL0 hL hrd (by have := HOk.out.fits; have := HOk.out.tfits; have := HTB8.out; omega)
      rw [show ((8 * (tb / 8 + k) : Nat) : Int) = (tb : Int) + 8 * (k : Int) by have := HTB8.out; omega] at HG
      have HG := Lib.hid HG
      clear hrd hod hbw
      go_wp2_with fail
      refine HEn.out.mono ?_
      rintro e w' ⟨rfl, rfl⟩
      go_wp2_with fail
      refine HG.out.mono ?_
      rintro e w3 ⟨v3, rfl, ho3, hb3⟩
      obtain ⟨A3, c3, rfl, hc3, hr3⟩ := rd_of_own ho3
      obtain ⟨g3, rfl, hg3, hg3l⟩ := own_addr ho3 (by omega)
      have hc0 : w3.cell? ⟨g3, 0, none⟩ = some (.int .u64 ((ws (tb / 8 + k)).toNat : Int)) := by
        obtain ⟨b, off, e, _, hc⟩ := hr3.2 (by omega)
        injection e with e; injection e with e1 e2; subst e1 e2
        rw [hc 0 (by omega)]
        simp [wordsFrom, wv]
      have hR : rightW (ws (tb / 8 + k)).toNat = true := by
        have := HAll.out k (by rw [hn]; exact hlt)
        rw [HTb.out] at this; exact this
      have HRt := Lib.hid (rightS_any (ws (tb / 8 + k)).toNat · (UInt64.toNat_lt _))
      rw [hR] at HRt
      have hP3 := HPk.out.below hb3 HPk.out.lt
      have hg3p : p0 < g3 := by have := HPk.out.lt; omega
      have hrow3 := own_below HRw.out hb3
      have hbl3 := HBl.out.trans (hb3.mono (Nat.le_of_lt HPk.out.lt))
      have HP3 := Lib.hid hP3
      have HRw3 := Lib.hid hrow3
      have HBl3 := Lib.hid hbl3
      obtain ⟨x, hx⟩ : ∃ x, ws (tb / 8 + k) = x := ⟨_, rfl⟩
      rw [hx] at hc0 HRt
      have HX := Lib.hid hx
      clear ho3 hr3 hb3 hP3 hrow3 hbl3 hx hR HG HEn
      go_wp2_with fail
      refine (HRt.out _).mono ?_
      rintro e w5 ⟨rfl, hd5⟩
      have hb5 := hd5.below w3.heap.size
      have hP5 := HP3.out.below hb5 HP3.out.lt
      have hc5 := (hb5.cell (p := ⟨g3, 0, none⟩) hg3l).trans hc0
      have hrow5 := own_below HRw3.out hb5
      have hbl5 := HBl3.out.trans (hb5.mono (Nat.le_of_lt HP3.out.lt))
      have z5 := hP5.cell 5
      have f5 := hP5.frozen 5
      have hp5 := hP5.lt
      simp only [List.getElem?_cons_succ, List.getElem?_cons_zero] at z5
      have HP5 := Lib.hid hP5
      have HRw5 := Lib.hid hrow5
      have HBl5 := Lib.hid hbl5
      have hw5 : w.heap.size ≤ w5.heap.size := by omega
      clear hd5 hb5 hP5 hrow5 hbl5 hc0 HP3 HRw3 HBl3 HRt
      obtain ⟨wd, hwd⟩ : ∃ wd, wd = w5.drew := ⟨_, rfl⟩
      go_wp2_with fail
      go_region_law (refine step_app_one rfl (.tmp 50) (.tmp 54) 94 rfl Tryz.wordsTyK w5 w.heap.size v k ((wordsAt ws (tb / 8) k).map wv) [.int .u64 (x.toNat : Int)] rfl HRw5.out rfl rfl rfl rfl w5.heap.size 1 rfl rfl rfl (by decide) (by intro u hu; simp at hu; subst hu; rfl) (by omega) (by decide) hw5 ?_; intro g6 c6 w6 hO6 hB6 hK6 hg6; have hng : some p0 ≠ v.ownBlock := (fun e => by rcases HVk.out with ⟨_, h⟩ | ⟨g, c, h, hlt⟩ <;> (subst h; simp [Value.ownBlock] at e); omega); have z6 := (World.cell?_of_block (w := w5) (a := ⟨p0, 5, none⟩) (hK6.2 p0 hp5 hng)).trans z5; have f6 := (World.frozen?_of_block (w := w5) (a := ⟨p0, 5, none⟩) (hK6.2 p0 hp5 hng)).trans f5)
      all_goals (obtain ⟨q1, q2, q3, q4⟩ := open_round HX.out (by omega) HP5.out HVk.out HBl5.out HBl5.out.size hO6 hB6 hK6 hg6)
      all_goals (have Q1 := Lib.hid q1)
      all_goals (have Q3 := Lib.hid q3)
      all_goals (have Q4 := Lib.hid q4)
      all_goals (clear q1 q3 q4 hO6 hB6 hK6 hg6 hng z6 f6 z5 f5 hc5)
      all_goals (go_wp2_with fail)
      all_goals (go_roundw)
      all_goals (try (case rel => exact ⟨k + 1, _, by omega, by go_num, Q1.out, .inr ⟨g6, c6, rfl, q2⟩, Q3.out, Q4.out⟩))
      all_goals (try (simp [intOf]; omega))
    · have hkn : k = n := by omega
      subst hkn
      go_wp2_with fail
      go_ret2
      have hn0 : 0 < k := by rw [← hn]; exact HOk.out.slabs
      rcases HVk.out with ⟨h0', _⟩ | ⟨g, c, rfl, hgp⟩
      · omega
      have hlt := HLt.out
      have hrow := HRw.out
      have hZ := (HBl.out.block h0 (by omega)).trans HZ4.out
      have hgl := own_addr hrow hn0
      have htl := hT.lt
      have e1 : sh.table / 8 = tb / 8 := by rw [HTb.out]
      refine ⟨p0, fun b => own b ∨ b = p0 ∨ b = g ∨ b = h0, rfl, ⟨g, h0, k, c, k, own, ⟨HDb.out _ HBw.out, hL0, hL, HSh.out, ?_, ?_, ?_, ?_, ?_, ?_, (rd_own hrow).1, Nat.le_refl _, fun h => ?_, fun h => ?_, fun h => ?_, by omega, by omega, by omega, hT.below HBw.out, ?_, ?_⟩, fun _ => Iff.rfl⟩, HBw.out, fun b hb => ?_⟩
      · show Blk wr p0 _ _
        rw [hli, hn, HTb.out, hdt]; exact HPk.out
      · rw [hn, e1]; exact RowB.of_own hrow
      · refine ⟨zc, hZ, fun t ht => ?_⟩
        have ht' : t < k := by rw [List.length_replicate, hn] at ht; exact ht
        rw [← Array.getElem?_toList, ← hzc, made_words, List.getElem?_map, List.getElem?_replicate, if_pos ht', List.getElem_replicate]; rfl
      · simp [wordsAt, hn]
      · simp [hn]
      · exact hn.symm
      · have := hlt _ h; omega
      · have := hlt _ h; omega
      · have := hlt _ h; omega
      · rintro (h | h | h | h)
        · exact g1 h
        · omega
        · omega
        · omega
      · rintro (h | h | h | h)
        · exact g2 h
        · omega
        · omega
        · omega
      · rcases hb with h | h | h | h
        · exact .inl h
        · right; omega
        · right; omega
        · right; omega

end Go.Proofs.YtklcklflnkbccaaGreatDoor

/- Walks of law 7's Begin: a device that is formatted, and its pool. -/
namespace Go.Proofs.YtklcklflnkbccaaGreatDoor
open Go.RowKit

theorem putWs_zero (j n : Nat) : putWs (fun _ => 0) j (List.replicate n 0) = fun _ => 0 := by
  funext i
  unfold putWs
  split
  · rw [List.getD_eq_getElem?_getD, List.getElem?_replicate]
    split <;> rfl
  · rfl
theorem wordsOf_length (sh : Sh) : (wordsOf sh).length = 8 := rfl
theorem format_head (sh : Sh) : wordsAt (formatW sh) 0 8 = wordsOf sh := by
  apply List.ext_getElem
  · rfl
  · intro i h1 h2
    have hi : i < 8 := by simpa [wordsAt] using h1
    have h8 := wordsOf_length sh
    simp only [wordsAt, List.getElem_map, List.getElem_range]
    unfold formatW putWs
    rw [if_pos (by omega), List.getD_eq_getElem?_getD, show 0 + i - 0 = i by omega, List.getElem?_eq_getElem h2]; rfl
theorem format_above (sh : Sh) (i : Nat) (hi : 8 ≤ i) : formatW sh i = 0 := by
  unfold formatW putWs
  have h8 := wordsOf_length sh
  rw [if_neg (by omega)]

/-- A store that is new. -/
def st0 (sh : Sh) : St := { sh := sh, ws := formatW sh, tk := List.replicate sh.slabs 0, hd := List.replicate sh.slabs 0 }

theorem format_taken (sh : Sh) (h : sh.table = 128) : wordsAt (formatW sh) (sh.table / 8) sh.slabs = List.replicate sh.slabs 0 := by
  apply List.ext_getElem
  · simp [wordsAt]
  · intro i h1 h2
    simp only [wordsAt, List.getElem_map, List.getElem_range, List.getElem_replicate]
    exact format_above sh _ (by omega)

set_option maxHeartbeats 4000000 in
set_option maxRecDepth 100000 in
theorem begin_pool {w : World} {L : Nat} {sh : Sh} (hL0 : 0 < L) (hL : L ≤ 1024) (hs : shapeOf L = some sh) (hT : Tabs w) :
    Calls Tryz.prog 36 #[.int .i64 (L : Int)] w fun e w' => ∃ d p F, e = .returned (.tuple #[.pointer (some ⟨d, 0, none⟩), .pointer (some ⟨p, 0, none⟩)]) ∧
      Sys w' d p L (st0 sh) F ∧ Below w.heap.size w w' ∧ ∀ b, F b → w.heap.size ≤ b := by
  have htl := hT.lt
  obtain ⟨v0, v1, v2, v3, hsv⟩ : ∃ v0 v1 v2 v3 : Nat, shV sh = .agg #[.int .i64 (v0 : Int), .int .i64 (v1 : Int), .int .i64 (v2 : Int), .int .i64 (v3 : Int)] := ⟨_, _, _, _, rfl⟩
  have HSV := Lib.hid hsv
  have HTb := Lib.hid (shape_ok hs).table
  clear hsv
  go_enter Tryz.func36, Tryz.ntmps36
  go_wp2_with fail
  refine (new_dev L w hL0 hL).mono ?_
  rintro e w1 ⟨d, g, rfl, hr, hd1, hg1, hb1⟩
  have hD1 : Dev w1 d L (fun _ => 0) (fun _ => 0) (fun _ => 0) (devOwn d L g (fun _ => none)) := ⟨g, _, hr, fun _ => Iff.rfl⟩
  have ho1 : ∀ b, devOwn d L g (fun _ => none) b → w.heap.size ≤ b := fun b h => by
    rcases h with h | h | ⟨_, _, h⟩
    · omega
    · omega
    · cases h
  have HF := format_dev hL0 hL hs hD1 (hT.below hb1) (fun h => by have := ho1 _ h; omega) (fun h => by have := ho1 _ h; omega)
  rw [putWs_zero, show putWs (fun _ => 0) 0 (wordsOf sh) = formatW sh from rfl, HSV.out] at HF
  have HF := Lib.hid HF
  clear hr hD1
  go_wp2_with fail
  refine HF.out.mono ?_
  rintro e w2 ⟨rfl, own2, hD2, hM2⟩
  have hb2 : Below w.heap.size w w2 := hb1.trans (hM2.touch.below hb1.size ho1)
  have ho2 : ∀ b, own2 b → w.heap.size ≤ b := fun b h => (hM2.own b h).elim (ho1 b) (fun h => Nat.le_trans hb1.size h)
  have hb23 : Below w2.heap.size w2 (w2.alloc (.cells #[.int .i64 (v0 : Int), .int .i64 (v1 : Int), .int .i64 (v2 : Int), .int .i64 (v3 : Int)] 137)) := (Below.refl _ _).alloc (Nat.le_refl _) _
  have hb3 := hb2.trans (hb23.mono hb2.size)
  have HO := open_pool hL0 hL hs (hD2.below hb23) (hT.below hb3) (fun h => by have := ho2 _ h; omega) (fun h => by have := ho2 _ h; omega) (format_head sh) (fun i hi => by rw [format_above sh _ (by rw [HTb.out]; omega)]; rfl)
  rw [format_taken sh HTb.out] at HO
  have HO := Lib.hid HO
  have HB3 := Lib.hid hb3
  clear hb2 hb23 hD2 hM2 HF hb3
  go_wp2_with fail
  refine HO.out.mono ?_
  rintro e w4 ⟨p, F, rfl, hs4, hb4, hF4⟩
  have HS4 : Hid (Sys w4 d p L (st0 sh) F) := Lib.hid hs4
  have HB4 := Lib.hid (HB3.out.trans (hb4.mono HB3.out.size))
  clear hs4 hb4 HO
  have hsz := HB3.out.size
  go_wp2_with fail
  go_ret2
  refine ⟨d, p, F, rfl, HS4.out, HB4.out, fun b hb => (hF4 b hb).elim (ho2 b) (fun h => Nat.le_trans hsz h)⟩

end Go.Proofs.YtklcklflnkbccaaGreatDoor

/- Walks of package index: root, ask; an index in memory. -/
namespace Go.Proofs.YtklcklflnkbccaaGreatDoor
open Go.RowKit

/-- Index x over device d and pool p, in the state s. -/
structure Ix (w : World) (x d p L : Nat) (s : St) (F : Nat → Prop) : Prop where
  sys : Sys w d p L s F
  box : Blk w x 148 [.pointer (some ⟨d, 0, none⟩), .pointer (some ⟨p, 0, none⟩)]
  out : ¬ F x

section
variable {w w' : World} {x d p L : Nat} {s : St} {F : Nat → Prop}

theorem Ix.below (h : Ix w x d p L s F) (k : Below w.heap.size w w') : Ix w' x d p L s F := ⟨h.sys.below k, h.box.below k h.box.lt, h.out⟩
theorem Ix.dr (h : Ix w x d p L s F) (k : Dr w w') : Ix w' x d p L s F := h.below (k.below _)
/-- The store moves on: the index stays. -/
theorem Ix.move (h : Ix w x d p L s F) {s' : St} {F' : Nat → Prop} (hs : Sys w' d p L s' F') (m : Moved F F' w w') : Ix w' x d p L s' F' :=
  ⟨hs, h.box.touch m.touch h.out, fun h' => (m.own x h').elim h.out (fun h'' => by have := h.box.lt; omega)⟩
theorem Ix.L0 (h : Ix w x d p L s F) : 0 < L ∧ L ≤ 1024 ∧ ShOk L s.sh ∧ s.tk.length = s.sh.slabs := by
  obtain ⟨_, _, _, _, _, _, hr, _⟩ := h.sys
  exact ⟨hr.L0, hr.L1, shape_ok hr.shape, by rw [hr.ntk, hr.nsh]⟩

theorem ask_index (h : Ix w x d p L s F) (key : ByteArray) (hk : key.size ≤ 1000000) : Calls Tryz.prog 41 #[.pointer (some ⟨x, 0, none⟩), .string key] w fun e w' => e = .returned (.int .i64 (if 16 < key.size then 3 else 0)) ∧ w = w' := by
  have y0 := h.box.cell 0
  simp only [List.getElem?_cons_zero] at y0
  clear h
  by_cases h1 : 16 < key.size
  · have t1 : decide ((16 : Int) < (key.size : Int)) = true := decide_eq_true (by omega)
    rw [if_pos h1]
    go_enter Tryz.func41, Tryz.ntmps41
    go_wp2
    go_ret
    exact ⟨rfl, rfl⟩
  · have t1 : decide ((16 : Int) < (key.size : Int)) = false := decide_eq_false (by omega)
    rw [if_neg h1]
    go_enter Tryz.func41, Tryz.ntmps41
    go_wp2
    go_ret
    exact ⟨rfl, rfl⟩

theorem root_index (h : Ix w x d p L s F) : Calls Tryz.prog 69 #[.pointer (some ⟨x, 0, none⟩)] w fun e w' => e = .returned (.tuple #[.int .u64 ((s.ws 9).toNat : Int), .int .i64 0]) ∧ Below w.heap.size w w' := by
  have y0 := h.box.cell 0
  simp only [List.getElem?_cons_zero] at y0
  obtain ⟨l0, l1, ok, _⟩ := h.L0
  have HG := sys_get h.sys 9 1 (by have := ok.fits; have := ok.tfits; have := ok.slabs; omega)
  rw [show ((8 * 9 : Nat) : Int) = 72 from rfl, show ((1 : Nat) : Int) = 1 from rfl] at HG
  have HG := Lib.hid HG
  clear h ok
  go_enter Tryz.func69, Tryz.ntmps69
  go_wp2_with fail
  refine HG.out.mono ?_
  rintro e w1 ⟨v, rfl, ho, hb⟩
  obtain ⟨A, c, rfl, hc, hr⟩ := rd_of_own ho
  obtain ⟨g, rfl, hg, hgl⟩ := own_addr ho (by omega)
  have hc0 : w1.cell? ⟨g, 0, none⟩ = some (.int .u64 ((s.ws 9).toNat : Int)) := by
    obtain ⟨b, off, e, _, hcc⟩ := hr.2 (by omega)
    injection e with e; injection e with e1 e2; subst e1 e2
    rw [hcc 0 (by omega)]
    simp [wordsAt, wv]
  clear HG ho hr
  go_wp2_with fail
  go_ret2
  exact ⟨rfl, hb⟩

end

end Go.Proofs.YtklcklflnkbccaaGreatDoor

/- Walks of package index: read. -/
namespace Go.Proofs.YtklcklflnkbccaaGreatDoor
open Go.RowKit

theorem lines_pos {c : Nat} (h : linesN c ≠ 0) : c = 1 ∨ c = 2 := by
  unfold linesN at h
  split at h <;> simp_all

theorem kind_or (a b : Nat) : kindN (a ||| b) = kindN a ||| kindN b := by
  unfold kindN fieldN
  rw [Nat.or_div_two_pow, Nat.or_mod_two_pow]
theorem kind_lt (a : Nat) : kindN a < 4 := by
  unfold kindN fieldN
  exact Nat.mod_lt _ (by decide)

/-- The class of a taken block is its slab's. -/
theorem class_both {a b : Nat} (h1 : linesN (classW (a ||| b)) ≠ 0) (h2 : linesN (classW a) ≠ 0) : classW a = classW (a ||| b) := by
  have p1 := lines_pos h1
  have p2 := lines_pos h2
  have e1 : classW (a ||| b) = kindN (a ||| b) := by
    unfold classW; split
    · rfl
    · rename_i hr; unfold classW at p1; simp [hr] at p1
  have e2 : classW a = kindN a := by
    unfold classW; split
    · rfl
    · rename_i hr; unfold classW at p2; simp [hr] at p2
  rw [e1, kind_or] at p1
  rw [e2] at p2
  rw [e1, e2, kind_or]
  have hb := kind_lt b
  generalize kindN a = x at *
  generalize kindN b = y at *
  have : y = 0 ∨ y = 1 ∨ y = 2 ∨ y = 3 := by omega
  rcases p2 with rfl | rfl <;> rcases this with rfl | rfl | rfl | rfl <;> simp_all

/-- Where a taken block lies. -/
theorem class_at {s : St} {off : Int} (h : linesN (classP s off) ≠ 0) : ∃ i a, i < s.tk.length ∧ off = ((s.sh.data + 1024 * i + 64 * linesN (classP s off) * a : Nat) : Int) ∧ (linesN (classP s off) = 1 ∨ linesN (classP s off) = 4) ∧ linesN (classP s off) * a + linesN (classP s off) ≤ 16 := by
  cases hf : findP s off with
  | none => rw [classP, hf] at h; exact absurd rfl h
  | some ia =>
    obtain ⟨i, a⟩ := ia
    obtain ⟨hi, ha, ho, hl, hfit⟩ := findP_some hf
    rw [classP, hf] at h
    dsimp only at h
    split at h
    · rename_i hh
      have e : classP s off = classW (bothN s i) := by
        rw [classP, hf]; dsimp only; rw [if_pos hh]
        exact class_both (by rw [bothN] at hl; omega) h
      rw [e]
      refine ⟨i, a, hi, ho, ?_, hfit⟩
      rcases lines_pos (c := classW (bothN s i)) (by omega) with k | k <;> rw [k] <;> simp [linesN]
    · exact absurd rfl h

theorem wordsN_lines (c : Nat) : wordsN (c : Int) = ((8 * linesN c : Nat) : Int) := by
  unfold wordsN linesN
  split
  · rename_i h; have : c = 1 := by omega
    subst this; rfl
  · rename_i h1
    split
    · rename_i h2; have : c = 2 := by omega
      subst this; rfl
    · rename_i h2
      split
      · simp at h1
      · simp at h2
      · rfl

/-- A node's value whose rows are new since base. -/
def NdV (w : World) (base : Nat) (v : Value) (x : Nd) : Prop :=
  ∃ A1 c1 A2 c2 A3 c3, v = .agg #[.slice A1 x.pre.length c1, .int .u64 (x.val.toNat : Int), .slice A2 x.labels.length c2, .slice A3 x.kids.length c3] ∧
    w.ownsRow base 5 1 (.slice A1 x.pre.length c1) x.pre.length (x.pre.map bv) ∧ w.ownsRow base 5 1 (.slice A2 x.labels.length c2) x.labels.length (x.labels.map bv) ∧ w.ownsRow base 33 1 (.slice A3 x.kids.length c3) x.kids.length (x.kids.map wv)

theorem node_ret {Q : Ending → World → Prop} {W : World} {tmps : Array Value} {fn : Func} (hr : fn.results = #[.cell 4 96, .tmp 5]) (g : Nat) {a b c d : Value} (h : Blk W g 96 [a, b, c, d]) (v : Value) (h2 : tmps[4]? = some (.pointer (some ⟨g, 0, none⟩))) (h3 : tmps[5]? = some v)
    (hq : Q (.returned (.tuple #[.agg #[a, b, c, d], v])) W) : bodyPost Tryz.prog fn Q Exit.ret { tmps := tmps, defers := [] } W := by
  obtain ⟨y0, y1, y2, y3, f0, f1, f2, f3⟩ := blk4' h
  have hu := run_underlying (P := Tryz.prog) Tryz.underlying96
  refine bodyPost_ret (v := .tuple #[.agg #[a, b, c, d], v]) (by simp [results, hr, go_sem, h2, h3, y0, y1, y2, y3]) rfl hq

section
variable {w w' : World} {x d p L : Nat} {s : St} {F : Nat → Prop}

def ReadPost (s : St) (name : UInt64) (w : World) (e : Ending) (w' : World) : Prop :=
  Below w.heap.size w w' ∧ match readP s name with
    | none => e = .returned (.tuple #[.agg #[.slice none 0 0, .int .u64 0, .slice none 0 0, .slice none 0 0], .int .i64 5])
    | some nd => ∃ v, e = .returned (.tuple #[v, .int .i64 0]) ∧ NdV w' w.heap.size v nd

set_option maxHeartbeats 4000000 in
set_option maxRecDepth 100000 in
theorem read_index (h : Ix w x d p L s F) (name : UInt64) : Calls Tryz.prog 70 #[.pointer (some ⟨x, 0, none⟩), .int .u64 (name.toNat : Int)] w (ReadPost s name w) := by
  have HX := Lib.hid h
  obtain ⟨l0, l1, ok, hntk⟩ := h.L0
  have hwr : IntKind.i64.wrap (name.toNat : Int) = offOf name := rfl
  have ho : -9223372036854775808 ≤ offOf name ∧ offOf name ≤ 9223372036854775807 := by
    have hlt := name.toNat_lt
    unfold offOf
    simp only [IntKind.wrap, IntKind.bits, IntKind.signed, Bool.true_and, decide_eq_true_eq, show (2 : Int) ^ (64 - 1) = 9223372036854775808 from rfl, show (2 : Int) ^ 64 = 18446744073709551616 from rfl]
    constructor <;> split <;> omega
  have hxlt := h.box.lt
  obtain ⟨off, hoff⟩ : ∃ off, off = offOf name := ⟨_, rfl⟩
  rw [← hoff] at hwr ho
  clear h
  have HCl := Lib.hid (fun (W : World) (hW : Below w.heap.size w W) => by
    obtain ⟨tb, hb, n, cT, cH, own, hr, -⟩ := (HX.out.below hW).sys
    exact class_pool hr.at off ho)
  have y0 := HX.out.box.cell 0
  have y1 := HX.out.box.cell 1
  simp only [List.getElem?_cons_zero, List.getElem?_cons_succ] at y0 y1
  have B0 : Blk (w.alloc (.cells #[.slice none 0 0, .int .u64 0, .slice none 0 0, .slice none 0 0] 96)) w.heap.size 96 [.slice none 0 0, .int .u64 0, .slice none 0 0, .slice none 0 0] := heap_alloc_new _ _
  have hb0 : Below w.heap.size w (w.alloc (.cells #[.slice none 0 0, .int .u64 0, .slice none 0 0, .slice none 0 0] 96)) := (Below.refl _ _).alloc (Nat.le_refl _) _
  by_cases hc0 : linesN (classP s off) = 0
  · have HR : Hid (readP s name = none) := Lib.hid (by rw [readP, ← hoff, if_pos hc0])
    clear hoff ok hntk
    go_enter Tryz.func70, Tryz.ntmps70
    go_wp2_with fail
    generalize w.alloc (.cells #[.slice none 0 0, .int .u64 0, .slice none 0 0, .slice none 0 0] 96) = W0 at *
    refine (HCl.out W0 hb0).mono ?_
    rintro e w1 ⟨rfl, hd⟩
    have hb1 := hb0.trans ((hd.below W0.heap.size).mono hb0.size)
    have B1 := B0.below (hd.below _) B0.lt
    clear B0 hb0 hd
    go_wp2_with fail
    refine (words_any _ _).mono ?_
    rintro e w2 ⟨rfl, rfl⟩
    rw [wordsN_lines, hc0]
    clear HCl HX y0 y1 hc0
    obtain ⟨k0, k1, k2, k3, f0, f1, f2, f3⟩ := blk4' B1
    go_wp2_with fail
    have BF := (((B1.set_ 0 (Value.slice none 0 0)).set_ 1 (Value.int .u64 0)).set_ 2 (Value.slice none 0 0)).set_ 3 (Value.slice none 0 0)
    have hbF := (((hb1.setCell (p := ⟨w.heap.size, 0, none⟩) (Nat.le_refl _) (Value.slice none 0 0)).setCell (p := ⟨w.heap.size, 1, none⟩) (Nat.le_refl _) (Value.int .u64 0)).setCell (p := ⟨w.heap.size, 2, none⟩) (Nat.le_refl _) (Value.slice none 0 0)).setCell (p := ⟨w.heap.size, 3, none⟩) (Nat.le_refl _) (Value.slice none 0 0)
    refine node_ret rfl w.heap.size BF (.int .i64 5) rfl rfl ⟨hbF, ?_⟩
    rw [HR.out]
  · obtain ⟨i, a, hi, hoffe, hk, hfit⟩ := class_at hc0
    have HRN : Hid (readP s name = if decOk (wordsAt s.ws (off.toNat / 8) (8 * linesN (classP s off))) then some (cand (wordsAt s.ws (off.toNat / 8) (8 * linesN (classP s off)))) else none) := Lib.hid (by rw [readP, ← hoff, if_neg hc0])
    have hj : off = ((8 * (off.toNat / 8) : Nat) : Int) ∧ off.toNat / 8 + 8 * linesN (classP s off) ≤ 8 * L := by
      have := ok.data; have := ok.fits; have := ok.slabs; rw [hntk] at hi
      rcases hk with k | k <;> rw [k] at hoffe hfit ⊢ <;> omega
    obtain ⟨j, hjd⟩ : ∃ j, j = off.toNat / 8 := ⟨_, rfl⟩
    rw [← hjd] at hj HRN
    obtain ⟨hj1, hj2⟩ := hj
    have HG := Lib.hid (fun (W : World) (hW : Below w.heap.size w W) => sys_get (HX.out.below hW).sys j (8 * linesN (classP s off)) hj2)
    rw [← hj1] at HG
    have t1 : (((8 * linesN (classP s off) : Nat) : Int) == 0) = false := by rw [beq_eq_false_iff_ne]; omega
    have HK : Hid (8 * linesN (classP s off) ≤ 1000000) := Lib.hid (by rcases hk with k | k <;> omega)
    obtain ⟨m, hm⟩ : ∃ m, m = 8 * linesN (classP s off) := ⟨_, rfl⟩
    have HWd : Hid (wordsN (classP s off : Int) = (m : Int)) := Lib.hid (by rw [wordsN_lines, hm])
    rw [← hm] at HG t1 HK HRN
    clear hoff ok hntk hk hfit hoffe hi hj1 hj2 hjd hc0 hm
    go_enter Tryz.func70, Tryz.ntmps70
    go_wp2_with fail
    generalize w.alloc (.cells #[.slice none 0 0, .int .u64 0, .slice none 0 0, .slice none 0 0] 96) = W0 at *
    refine (HCl.out W0 hb0).mono ?_
    rintro e w1 ⟨rfl, hd⟩
    have hb1 := hb0.trans ((hd.below W0.heap.size).mono hb0.size)
    have B1 := B0.below (hd.below _) B0.lt
    have z0 : w1.cell? ⟨x, 0, none⟩ = some (.pointer (some ⟨d, 0, none⟩)) := (hb1.cell (p := ⟨x, 0, none⟩) hxlt).trans y0
    clear B0 hb0 hd
    go_wp2_with fail
    refine (words_any _ _).mono ?_
    rintro e w2 ⟨rfl, rfl⟩
    rw [HWd.out]
    clear HCl HX y0 y1
    obtain ⟨k0, k1, k2, k3, f0, f1, f2, f3⟩ := blk4' B1
    go_wp2_with fail
    refine (HG.out w1 hb1).mono ?_
    rintro e w2 ⟨v, rfl, hown, hb2⟩
    obtain ⟨A, c, rfl, hc, hr⟩ := rd_of_own hown
    have hb2' := hb1.trans (hb2.mono hb1.size)
    have hlt2 : w.heap.size < w2.heap.size := Nat.lt_of_lt_of_le B1.lt hb2.size
    have B2 := B1.below hb2 B1.lt
    clear HG hown k0 k1 k2 k3 f0 f1 f2 f3 z0 B1
    have hr' := Lib.hid hr
    clear hr
    go_wp2_with fail
    refine (decode_any A m c _ w2 HK.out hc hr'.out).mono ?_
    rintro e w3 ⟨hb3, hpost⟩
    have B3 := B2.below hb3 B2.lt
    have hb3' := hb2'.trans (hb3.mono hb2'.size)
    have hw2 := hb2'.size
    cases hdk : decOk (wordsAt s.ws j m)
    · have HR : Hid (readP s name = none) := Lib.hid (by rw [HRN.out, hdk]; rfl)
      rw [hdk] at hpost
      replace hpost : e = .returned (.tuple #[.agg #[.slice none 0 0, .int .u64 0, .slice none 0 0, .slice none 0 0], .bool false]) := hpost
      subst hpost
      clear HRN HK hdk hr' HWd
      have B4 : Blk (w3.alloc (.cells #[Value.slice none 0 0, Value.int .u64 0, Value.slice none 0 0, Value.slice none 0 0] 96)) w.heap.size _ _ := B3.below ((Below.refl w3.heap.size w3).alloc (Nat.le_refl _) _) B3.lt
      have hb4 : Below w.heap.size w (w3.alloc (.cells #[Value.slice none 0 0, Value.int .u64 0, Value.slice none 0 0, Value.slice none 0 0] 96)) := hb3'.trans (((Below.refl w3.heap.size w3).alloc (Nat.le_refl _) _).mono hb3'.size)
      clear B2 B3 hb1 hb2 hb2' hb3
      obtain ⟨k0, k1, k2, k3, f0, f1, f2, f3⟩ := blk4' B4
      go_wp2_with fail
      have BF := (((B4.set_ 0 (Value.slice none 0 0)).set_ 1 (Value.int .u64 0)).set_ 2 (Value.slice none 0 0)).set_ 3 (Value.slice none 0 0)
      have hbF := (((hb4.setCell (p := ⟨w.heap.size, 0, none⟩) (Nat.le_refl _) (Value.slice none 0 0)).setCell (p := ⟨w.heap.size, 1, none⟩) (Nat.le_refl _) (Value.int .u64 0)).setCell (p := ⟨w.heap.size, 2, none⟩) (Nat.le_refl _) (Value.slice none 0 0)).setCell (p := ⟨w.heap.size, 3, none⟩) (Nat.le_refl _) (Value.slice none 0 0)
      refine node_ret rfl w.heap.size BF (.int .i64 5) rfl rfl ⟨hbF, ?_⟩
      rw [HR.out]
    · have HR : Hid (readP s name = some (cand (wordsAt s.ws j m))) := Lib.hid (by rw [HRN.out, hdk]; rfl)
      rw [hdk] at hpost
      obtain ⟨A1, c1, A2, c2, A3, c3, rfl, hc1, hc2, hc3, hB1, hB2, hB3, o1, o2, o3⟩ := hpost
      have HO := Lib.hid (And.intro o1 (And.intro o2 o3))
      clear hB1 hB2 hB3 hc1 hc2 hc3 o1 o2 o3 HRN HK hdk hr' HWd
      generalize cand (wordsAt s.ws j m) = nd at *
      have B4 : Blk (w3.alloc (.cells #[Value.slice A1 nd.pre.length c1, Value.int .u64 (nd.val.toNat : Int), Value.slice A2 nd.labels.length c2, Value.slice A3 nd.kids.length c3] 96)) w.heap.size _ _ := B3.below ((Below.refl w3.heap.size w3).alloc (Nat.le_refl _) _) B3.lt
      have hb4 : Below w.heap.size w (w3.alloc (.cells #[Value.slice A1 nd.pre.length c1, Value.int .u64 (nd.val.toNat : Int), Value.slice A2 nd.labels.length c2, Value.slice A3 nd.kids.length c3] 96)) := hb3'.trans (((Below.refl w3.heap.size w3).alloc (Nat.le_refl _) _).mono hb3'.size)
      clear B2 B3 hb1 hb2 hb2' hb3
      obtain ⟨k0, k1, k2, k3, f0, f1, f2, f3⟩ := blk4' B4
      go_wp2_with fail
      have BF := (((B4.set_ 0 (Value.slice A1 nd.pre.length c1)).set_ 1 (Value.int .u64 (nd.val.toNat : Int))).set_ 2 (Value.slice A2 nd.labels.length c2)).set_ 3 (Value.slice A3 nd.kids.length c3)
      have hbF := (((hb4.setCell (p := ⟨w.heap.size, 0, none⟩) (Nat.le_refl _) (Value.slice A1 nd.pre.length c1)).setCell (p := ⟨w.heap.size, 1, none⟩) (Nat.le_refl _) (Value.int .u64 (nd.val.toNat : Int))).setCell (p := ⟨w.heap.size, 2, none⟩) (Nat.le_refl _) (Value.slice A2 nd.labels.length c2)).setCell (p := ⟨w.heap.size, 3, none⟩) (Nat.le_refl _) (Value.slice A3 nd.kids.length c3)
      refine node_ret rfl w.heap.size BF (.int .i64 0) rfl rfl ⟨hbF, ?_⟩
      rw [HR.out]
      obtain ⟨o1, o2, o3⟩ := HO.out
      have al : Below w3.heap.size w3 (w3.alloc (.cells #[Value.slice A1 nd.pre.length c1, Value.int .u64 (nd.val.toNat : Int), Value.slice A2 nd.labels.length c2, Value.slice A3 nd.kids.length c3] 96)) := (Below.refl _ _).alloc (Nat.le_refl _) _
      have hlt : w.heap.size < w2.heap.size := by omega
      have up : ∀ {e : TypeId} {v : Value} {n : Nat} {xs : List Value}, w3.ownsRow w2.heap.size e 1 v n xs → World.ownsRow (((((w3.alloc (.cells #[Value.slice A1 nd.pre.length c1, Value.int .u64 (nd.val.toNat : Int), Value.slice A2 nd.labels.length c2, Value.slice A3 nd.kids.length c3] 96)).setCell ⟨w.heap.size, 0, none⟩ (Value.slice A1 nd.pre.length c1)).setCell ⟨w.heap.size, 1, none⟩ (Value.int .u64 (nd.val.toNat : Int))).setCell ⟨w.heap.size, 2, none⟩ (Value.slice A2 nd.labels.length c2)).setCell ⟨w.heap.size, 3, none⟩ (Value.slice A3 nd.kids.length c3)) w.heap.size e 1 v n xs := fun o =>
        own_dn (own_far (own_far (own_far (own_far (own_below o al) hlt _ _) hlt _ _) hlt _ _) hlt _ _) (Nat.le_of_lt hlt)
      exact ⟨_, rfl, A1, c1, A2, c2, A3, c3, rfl, up o1, up o2, up o3⟩
end

end Go.Proofs.YtklcklflnkbccaaGreatDoor

/- A way of places in memory, and what keeps it. No statement of the program. -/
namespace Go.Proofs.YtklcklflnkbccaaGreatDoor
open Go.RowKit


theorem Tryz.placeTyK : RowTyK Tryz.prog 91 98 (.agg #[.slice none 0 0, .int .u64 0, .slice none 0 0, .slice none 0 0, .int .i64 0, .int .u8 0, .int .i64 0]) 7 104 := ⟨Tryz.underlying91, by kernel_rfl, rfl⟩

/-- Blocks whose elements are not of type e stay. -/
def SameBut (e : TypeId) (w w' : World) : Prop := w.heap.size ≤ w'.heap.size ∧ ∀ j, j < w.heap.size → (∃ cs fz, w.heap[j]? = some (.cells cs e fz)) ∨ w'.heap[j]? = w.heap[j]?

theorem SameBut.refl (e : TypeId) (w : World) : SameBut e w w := ⟨Nat.le_refl _, fun _ _ => .inr rfl⟩
theorem SameBut.of_below {e : TypeId} {w w' : World} (h : Below w.heap.size w w') : SameBut e w w' := ⟨h.size, fun j hj => .inr (h.block j hj)⟩
theorem SameBut.trans {e : TypeId} {a b c : World} (h : SameBut e a b) (k : SameBut e b c) : SameBut e a c := by
  refine ⟨Nat.le_trans h.1 k.1, fun j hj => ?_⟩
  rcases h.2 j hj with h' | h'
  · exact .inl h'
  · rcases k.2 j (Nat.lt_of_lt_of_le hj h.1) with ⟨cs, fz, k'⟩ | k'
    · exact .inl ⟨cs, fz, h' ▸ k'⟩
    · exact .inr (k'.trans h')
theorem SameBut.set_ {e : TypeId} {w : World} {g : Nat} {xs : List Value} (h : Blk w g e xs) (i : Nat) (u : Value) : SameBut e w (w.setCell ⟨g, i, none⟩ u) := by
  refine ⟨by simp [World.setCell, Array.size_modify], fun j hj => ?_⟩
  by_cases hjg : j = g
  · exact .inl ⟨_, _, hjg ▸ h⟩
  · exact .inr (by simp only [World.setCell, Array.getElem?_modify]; rw [if_neg (fun e => hjg e.symm)])
theorem SameBut.kept {e : TypeId} {w w' : World} {base k n : Nat} {v : Value} {xs : List Value} (h : w.ownsRow base e k v n xs) (hk : Kept w w' v.ownBlock) : SameBut e w w' := by
  refine ⟨hk.1, fun j hj => ?_⟩
  by_cases hjv : some j = v.ownBlock
  · rcases h.2 with ⟨h1, _⟩ | ⟨g, cap, cur, h1, _, h3, _⟩
    · subst h1; simp [Value.ownBlock] at hjv
    · subst h1; simp [Value.ownBlock] at hjv; subst hjv; exact .inl ⟨_, _, h3⟩
  · exact .inr (hk.2 j hj hjv)

theorem SameBut.own {e f : TypeId} (hef : f ≠ e) {w w' : World} {base k n : Nat} {v : Value} {xs : List Value} (s : SameBut e w w') (h : w.ownsRow base f k v n xs) : w'.ownsRow base f k v n xs := by
  refine ⟨h.1, ?_⟩
  rcases h.2 with h1 | ⟨g, cap, cur, h1, h2, h3, h4⟩
  · exact .inl h1
  · refine .inr ⟨g, cap, cur, h1, h2, ?_, h4⟩
    rcases s.2 g (Array.getElem?_eq_some_iff.1 h3).1 with ⟨cs, fz, h'⟩ | h'
    · rw [h3] at h'; injection h' with h'; injection h' with _ h''; exact absurd h'' hef
    · rw [h', h3]

theorem SameBut.nd {w w' : World} {base : Nat} {v : Value} {x : Nd} (s : SameBut 98 w w') (h : NdV w base v x) : NdV w' base v x := by
  obtain ⟨A1, c1, A2, c2, A3, c3, e, h1, h2, h3⟩ := h
  exact ⟨A1, c1, A2, c2, A3, c3, e, s.own (by decide) h1, s.own (by decide) h2, s.own (by decide) h3⟩
theorem NdV.mono {w : World} {base base' : Nat} {v : Value} {x : Nd} (h : NdV w base v x) (hb : base' ≤ base) : NdV w base' v x := by
  obtain ⟨A1, c1, A2, c2, A3, c3, e, h1, h2, h3⟩ := h
  exact ⟨A1, c1, A2, c2, A3, c3, e, own_mono h1 hb, own_mono h2 hb, own_mono h3 hb⟩

/-- The cells of a place. -/
def PlV (w : World) (base : Nat) (cs : List Value) (pl : Pl) : Prop :=
  ∃ a b c d, cs = [a, b, c, d, .int .i64 pl.off, .int .u8 (pl.label.toNat : Int), .int .i64 pl.word] ∧ NdV w base (.agg #[a, b, c, d]) pl.nd
def PlsV (w : World) (base : Nat) : List (List Value) → List Pl → Prop
  | [], [] => True
  | c :: cs, p :: ps => PlV w base c p ∧ PlsV w base cs ps
  | _, _ => False

theorem SameBut.pl {w w' : World} {base : Nat} {cs : List Value} {p : Pl} (s : SameBut 98 w w') (h : PlV w base cs p) : PlV w' base cs p := by
  obtain ⟨a, b, c, d, e, h⟩ := h
  exact ⟨a, b, c, d, e, s.nd h⟩
theorem SameBut.pls {w w' : World} {base : Nat} (s : SameBut 98 w w') : ∀ (vs : List (List Value)) (ps : List Pl), PlsV w base vs ps → PlsV w' base vs ps
  | [], [], _ => trivial
  | _ :: vs, _ :: ps, h => ⟨s.pl h.1, s.pls vs ps h.2⟩
  | [], _ :: _, h => h.elim
  | _ :: _, [], h => h.elim
theorem PlsV.app {w : World} {base : Nat} {c : List Value} {p : Pl} (hp : PlV w base c p) : ∀ (vs : List (List Value)) (ps : List Pl), PlsV w base vs ps → PlsV w base (vs ++ [c]) (ps ++ [p])
  | [], [], _ => ⟨hp, trivial⟩
  | _ :: vs, _ :: ps, h => ⟨h.1, PlsV.app hp vs ps h.2⟩
  | [], _ :: _, h => h.elim
  | _ :: _, [], h => h.elim

/-- A way of places in memory. -/
def WayAt (w : World) (base : Nat) (v : Value) (way : List Pl) : Prop :=
  ∃ vs, w.ownsRow base 98 7 v way.length (vs.flatten) ∧ PlsV w base vs way

theorem WayAt.nil (w : World) (base : Nat) : WayAt w base (.slice none 0 0) [] := ⟨[], World.ownsRow_nil _ _ _ _, trivial⟩

/-- The way has one place more. -/
theorem WayAt.app {w w' : World} {base : Nat} {v' : Value} {way : List Pl} {vs : List (List Value)} {c : List Value} {p : Pl} (h : PlsV w base vs way) (hp : PlV w base c p) (s : SameBut 98 w w')
    (ho : w'.ownsRow base 98 7 v' (way.length + 1) (vs.flatten ++ c)) : WayAt w' base v' (way ++ [p]) :=
  ⟨vs ++ [c], by simpa using ho, (s.pls vs way h).app (s.pl hp)⟩

/-- Bytes in a block of bytes, at or behind base. -/
def RsAt (w : World) (base : Nat) (A : Option Addr) (l : List UInt8) : Prop :=
  Bs w A l.length l ∧ ∀ g off, A = some ⟨g, off, none⟩ → base ≤ g ∧ ∃ cs fz, w.heap[g]? = some (.cells cs 5 fz)

theorem SameBut.rs {w w' : World} {base : Nat} {A : Option Addr} {l : List UInt8} (s : SameBut 98 w w') (h : RsAt w base A l) : RsAt w' base A l := by
  have key : ∀ g off, A = some ⟨g, off, none⟩ → w'.heap[g]? = w.heap[g]? := fun g off e => by
    obtain ⟨_, cs, fz, hg⟩ := h.2 g off e
    rcases s.2 g (Array.getElem?_eq_some_iff.1 hg).1 with ⟨cs', fz', h'⟩ | h'
    · rw [hg] at h'; injection h' with h'; injection h' with _ h''; exact absurd h'' (by decide)
    · exact h'
  refine ⟨⟨h.1.1, fun hn => ?_⟩, fun g off e => ?_⟩
  · obtain ⟨b, off, e, hb, hc⟩ := h.1.2 hn
    exact ⟨b, off, e, Nat.lt_of_lt_of_le hb s.1, fun j hj => (World.cell?_of_block (w := w) (key b off e)).trans (hc j hj)⟩
  · obtain ⟨h1, cs, fz, hg⟩ := h.2 g off e
    exact ⟨h1, cs, fz, (key g off e).trans hg⟩

theorem RsAt.of_own {w : World} {base n c : Nat} {A : Option Addr} {l : List UInt8} (h : w.ownsRow base 5 1 (.slice A n c) n (l.map bv)) (hn : n = l.length) : RsAt w base A l := by
  subst hn
  refine ⟨(rd_own h).2, fun g off e => ?_⟩
  rcases h.2 with ⟨h1, _⟩ | ⟨g', cap, cur, h1, h2, h3, _⟩
  · simp only [Value.slice.injEq] at h1; rw [h1.1] at e; cases e
  · simp only [Value.slice.injEq] at h1; rw [h1.1] at e; injection e with e; injection e with e1 e2; subst e1; exact ⟨h2, _, _, h3⟩

/-- The rest of the bytes. -/
theorem RsAt.drop {w : World} {base g off : Nat} {l : List UInt8} (h : RsAt w base (some ⟨g, off, none⟩) l) (k : Nat) (hk : k ≤ l.length) : RsAt w base (some ⟨g, off + k, none⟩) (l.drop k) := by
  refine ⟨⟨by simp, fun hn => ?_⟩, fun g' off' e => ?_⟩
  · simp only [List.length_drop] at hn
    obtain ⟨b, off', e, hb, hc⟩ := h.1.2 (by omega)
    injection e with e; injection e with e1 e2; subst e1 e2
    refine ⟨_, _, rfl, hb, fun j hj => ?_⟩
    simp only [List.length_drop] at hj
    rw [Nat.add_assoc, hc (k + j) (by omega), List.map_drop, List.getElem?_drop]
  · injection e with e; injection e with e1 e2; subst e1
    exact h.2 _ _ rfl

/-- The rest of the bytes, as a slicing leaves it. -/
theorem RsAt.cut {w : World} {base b off c : Nat} {l : List UInt8} (h : RsAt w base (some ⟨b, off, none⟩) l) (k : Nat) (hk : k ≤ l.length) (hc : l.length ≤ c) : RsAt w base (if c = k then some ⟨b, off, none⟩ else some ⟨b, off + k, none⟩) (l.drop k) := by
  split
  · refine ⟨⟨by simp, fun hn => ?_⟩, h.2⟩
    simp only [List.length_drop] at hn
    omega
  · exact h.drop k hk

theorem Kept.trans' {a b c : World} {r : Option Nat} (h : Kept a b r) (k : Kept b c r) : Kept a c r :=
  ⟨Nat.le_trans h.1 k.1, fun j hj hr => (k.2 j (Nat.lt_of_lt_of_le hj h.1) hr).trans (h.2 j hj hr)⟩
theorem Kept.of_below {a b : World} {r : Option Nat} (h : Below a.heap.size a b) : Kept a b r := ⟨h.size, fun j hj _ => h.block j hj⟩
theorem Kept.set_ (w : World) (g i : Nat) (u : Value) : Kept w (w.setCell ⟨g, i, none⟩ u) (some g) :=
  ⟨by simp [World.setCell, Array.size_modify], fun j _ hr => by simp only [World.setCell, Array.getElem?_modify]; rw [if_neg (fun e => hr (by rw [e]))]⟩
theorem own_stay {w w' : World} {base k n : Nat} {e : TypeId} {v : Value} {xs : List Value} {r : Option Nat} (h : w.ownsRow base e k v n xs) (hk : Kept w w' r) (hn : r ≠ v.ownBlock ∨ v.ownBlock = none) : w'.ownsRow base e k v n xs := by
  refine ⟨h.1, ?_⟩
  rcases h.2 with h1 | ⟨g, cap, cur, h1, h2, h3, h4⟩
  · exact .inl h1
  · refine .inr ⟨g, cap, cur, h1, h2, ?_, h4⟩
    subst h1
    rw [hk.2 g (Array.getElem?_eq_some_iff.1 h3).1 (fun e => by rcases hn with hn | hn
                                                                · exact hn (by rw [← e]; rfl)
                                                                · simp [Value.ownBlock] at hn)]
    exact h3

end Go.Proofs.YtklcklflnkbccaaGreatDoor
