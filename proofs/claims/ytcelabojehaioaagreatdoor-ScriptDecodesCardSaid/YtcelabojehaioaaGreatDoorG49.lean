import Derived.Test.YtcelabojehaioaaGreatDoorG22
import Derived.Test.YtcelabojehaioaaGreatDoorG46
/- Walks of law 21's ref: Decode. -/
namespace Go.Proofs.YtcelabojehaioaaGreatDoor
open Go.RowKit

theorem Tryz.refStepTyK : RowTyK Tryz.prog 89 92 (.agg #[.int .i64 0, .int .i64 0, .string ⟨#[]⟩, .string ⟨#[]⟩]) 4 48 := ⟨Tryz.underlying89, by kernel_rfl, rfl⟩

theorem cat_key (l : List UInt8) {m : List UInt8} (i : Nat) (hi : i < 4) (h : m = l ++ [UInt8.ofNat (97 + i)]) : (⟨l.toArray⟩ : ByteArray) ++ ByteArray.extract ⟨#[97, 98, 99, 100]⟩ i (i + 1) = ⟨m.toArray⟩ := by
  subst h
  apply ByteArray.ext
  have : i = 0 ∨ i = 1 ∨ i = 2 ∨ i = 3 := by omega
  rcases this with rfl | rfl | rfl | rfl <;> simp <;> rfl
theorem cat_text (l : List UInt8) {m : List UInt8} (i : Nat) (hi : i < 8) (h : m = l ++ [UInt8.ofNat (115 + i)]) : (⟨l.toArray⟩ : ByteArray) ++ ByteArray.extract ⟨#[115, 116, 117, 118, 119, 120, 121, 122]⟩ i (i + 1) = ⟨m.toArray⟩ := by
  subst h
  apply ByteArray.ext
  have : i = 0 ∨ i = 1 ∨ i = 2 ∨ i = 3 ∨ i = 4 ∨ i = 5 ∨ i = 6 ∨ i = 7 := by omega
  rcases this with rfl | rfl | rfl | rfl | rfl | rfl | rfl | rfl <;> simp <;> rfl

set_option maxHeartbeats 4000000 in
set_option maxRecDepth 100000 in
theorem refDecode (l : List UInt8) (A : Option Addr) (c : Nat) (w : World) (hn : l.length ≤ 1000000) (h : Bs w A l.length l) :
    Calls Tryz.prog 42 #[.slice A l.length c] w fun e w' => ∃ v, e = .returned v ∧ w'.ownsRow w.heap.size 92 4 v (decP l).length (spCs (decP l)) ∧ Below w.heap.size w w' := by
  have HH := Lib.hid h
  obtain ⟨n, hln⟩ : ∃ n, n = l.length := ⟨_, rfl⟩
  rw [← hln] at hn ⊢
  have HLn := Lib.hid hln
  clear h hln
  go_enter Tryz.func42, Tryz.ntmps42
  go_wp2_with fail
  go_loopw [3, 4] (fun v i wr => ∃ k q : Nat, i = .int .i64 (q : Int) ∧ q = 3 * k ∧ q ≤ n ∧ k ≤ 400 ∧ wr.ownsRow w.heap.size 92 4 v k (spCs (decTo l k)) ∧ Below w.heap.size w wr) (fun _ i _ => n - (intOf i).toNat)
  case atStart => exact ⟨0, 0, rfl, rfl, by omega, by omega, World.ownsRow_nil _ _ _ _, Below.refl _ _⟩
  case round =>
    obtain ⟨w0, hw0⟩ : ∃ x, x = wr := ⟨_, rfl⟩
    subst hw0
    obtain ⟨k, q, rfl, hq, hkn, hk4, hown, hb⟩ := hrel
    have HQ := Lib.hid hq
    obtain ⟨A8, c8, rfl, hc8, _⟩ := own_rowk hown
    have HO := Lib.hid hown
    have HB := Lib.hid hb
    clear hown hb
    have i2 : IntKind.i64.wrap ((q : Int) + 2) = (q : Int) + 2 := IntWalk.i64_in _ (by omega)
    by_cases hgo : q + 2 < n ∧ k < 400
    · obtain ⟨m3, hk400⟩ := hgo
      have t1 : decide ((q : Int) + 2 < (n : Int)) = true := decide_eq_true (by omega)
      have t2 : decide ((k : Int) < 400) = true := decide_eq_true (by omega)
      have t3 : decide (k < 400) = true := decide_eq_true hk400
      have t4 : decide (q + 2 < n) = true := decide_eq_true m3
      have i1 : IntKind.i64.wrap ((q : Int) + 1) = (q : Int) + 1 := IntWalk.i64_in _ (by omega)
      have i3 : IntKind.i64.wrap ((q : Int) + 3) = (q : Int) + 3 := IntWalk.i64_in _ (by omega)
      obtain ⟨_, b, off, rfl, _, _⟩ := HH.out.at (k := 0) (by have := HLn.out; omega)
      have cell : ∀ i, i < 3 → ∀ W, Below w.heap.size w W → W.cell? ⟨b, off + (q + i), none⟩ = some (.int .u8 ((l.getD (q + i) 0).toNat : Int)) := fun i hi W hW => by
        obtain ⟨hl, b', off', e, _, hcc⟩ := (HH.out.below hW).at (k := q + i) (by have := HLn.out; omega)
        injection e with e
        injection e with e1 e2
        subst e1 e2
        rw [hcc, List.getD_eq_getElem?_getD, List.getElem?_eq_getElem hl]
        rfl
      have z0 := cell 0 (by decide) w0 HB.out
      rw [Nat.add_zero] at z0
      have HC1 := Lib.hid (cell 1 (by decide))
      have HC2 := Lib.hid (cell 2 (by decide))
      have HT : Hid (spCs (decTo l (k + 1)) = spCs (decTo l k) ++ spC (stepS (l.getD q 0) (l.getD (q + 1) 0) (l.getD (q + 2) 0))) := Lib.hid (by rw [decTo_succ, spCs_app, hq]; rfl)
      generalize l.getD q 0 = x at *
      generalize l.getD (q + 1) 0 = y at *
      generalize l.getD (q + 2) 0 = z at *
      have hx := x.toNat_lt
      have e1 : IntKind.i64.wrap (x.toNat : Int) = (x.toNat : Int) := IntWalk.i64_in _ (by omega)
      have e2 : (x.toNat : Int).tmod 9 = ((x.toNat % 9 : Nat) : Int) := by rw [Int.tmod_eq_emod_of_nonneg (by omega)]; omega
      have e3 : (x.toNat : Int).tdiv 9 = ((x.toNat / 9 : Nat) : Int) := by rw [Int.tdiv_eq_ediv_of_nonneg (by omega)]; omega
      have e4 : ((x.toNat / 9 : Nat) : Int).tmod 8 = ((x.toNat / 9 % 8 : Nat) : Int) := by rw [Int.tmod_eq_emod_of_nonneg (by omega)]; omega
      have e5 : IntKind.i64.wrap ((x.toNat % 9 : Nat) : Int) = ((x.toNat % 9 : Nat) : Int) := IntWalk.i64_in _ (by omega)
      have e6 : IntKind.i64.wrap ((x.toNat / 9 : Nat) : Int) = ((x.toNat / 9 : Nat) : Int) := IntWalk.i64_in _ (by omega)
      have e7 : IntKind.i64.wrap ((x.toNat / 9 % 8 : Nat) : Int) = ((x.toNat / 9 % 8 : Nat) : Int) := IntWalk.i64_in _ (by omega)
      have hbw : b < w0.heap.size := World.block_lt_of_cell? w0 _ z0
      have hq0 : q < n := by omega
      have hq1 : decide ((q : Int) < (n : Int)) = true := decide_eq_true (by omega)
      clear cell hq
      go_wp2_with fail
      go_region
      obtain ⟨W1, hW1⟩ : ∃ W, W = (w0.alloc (.cells #[.int .i64 ((x.toNat : Int) % 9), .int .i64 ((x.toNat : Int) / 9 % 8), .string ⟨#[]⟩, .string ⟨#[]⟩] 92)).drew := ⟨_, rfl⟩
      rw [← hW1]
      have hb1 : Below w0.heap.size w0 W1 := by rw [hW1]; exact ((Below.refl w0.heap.size w0).alloc (Nat.le_refl _) _).trans ((Dr.drew _).below _)
      have B1 : Blk W1 w0.heap.size 92 [.int .i64 ((x.toNat : Int) % 9), .int .i64 ((x.toNat : Int) / 9 % 8), .string ⟨#[]⟩, .string ⟨#[]⟩] := by
        rw [hW1]; exact heap_alloc_new w0 (.cells #[.int .i64 ((x.toNat : Int) % 9), .int .i64 ((x.toNat : Int) / 9 % 8), .string ⟨#[]⟩, .string ⟨#[]⟩] 92)
      have z1 := HC1.out W1 (HB.out.trans (hb1.mono HB.out.size))
      have HB1 := Lib.hid hb1
      have HK1 := Lib.hid B1
      have hy := y.toNat_lt
      have HYk : Hid (keyS y.toNat = ⟨(keyL y.toNat (y.toNat % 4)).toArray⟩) := Lib.hid rfl
      obtain ⟨yn, hyn⟩ : ∃ yn, yn = y.toNat := ⟨_, rfl⟩
      have HYn := Lib.hid hyn
      rw [← hyn] at z1 hy HYk
      have f1 : IntKind.i64.wrap (yn : Int) = (yn : Int) := IntWalk.i64_in _ (by omega)
      have f2 : (yn : Int).tmod 4 = ((yn % 4 : Nat) : Int) := by rw [Int.tmod_eq_emod_of_nonneg (by omega)]; omega
      have f3 : IntKind.i64.wrap ((yn % 4 : Nat) : Int) = ((yn % 4 : Nat) : Int) := IntWalk.i64_in _ (by omega)
      have hm4 : yn % 4 < 4 := by omega
      generalize yn % 4 = m at *
      clear hW1 hb1 B1 hyn e1 e2 e3 e4 e5 e6 e7 z0 hx
      go_wp2_with fail
      go_loopw [6, 8] (fun c i wq => ∃ j : Nat, j ≤ m ∧ i = .int .i64 (j : Int) ∧ c = .int .i64 ((yn / 4 ^ j : Nat) : Int) ∧ Blk wq w0.heap.size 92 [.int .i64 ((x.toNat : Int) % 9), .int .i64 ((x.toNat : Int) / 9 % 8), .string ⟨(keyL yn j).toArray⟩, .string ⟨#[]⟩] ∧ Below w0.heap.size w0 wq) (fun _ i _ => m - (intOf i).toNat)
      case atStart => exact ⟨0, Nat.zero_le _, rfl, by simp, HK1.out, HB1.out⟩
      case round =>
        obtain ⟨j, hj, rfl, rfl, hbl, hbq⟩ := hrel
        have HK2 := Lib.hid hbl
        have HB2 := Lib.hid hbq
        clear hbl hbq
        by_cases hlt : j < m
        · have hx2 : decide ((j : Int) < (m : Int)) = true := decide_eq_true (by omega)
          have hx5 : decide (j < m) = true := decide_eq_true hlt
          have hwk : IntKind.i64.wrap ((j : Int) + 1) = (j : Int) + 1 := IntWalk.i64_in _ (by omega)
          have HL := Lib.hid (keyL_succ yn j)
          have hp : yn / 4 ^ j ≤ yn := Nat.div_le_self _ _
          have hps : yn / 4 ^ (j + 1) = yn / 4 ^ j / 4 := by rw [Nat.pow_succ, Nat.div_div_eq_div_mul]
          rw [hps] at HL
          have HP := Lib.hid hps
          generalize yn / 4 ^ j = u at *
          have g1 : (u : Int).tdiv 4 = ((u / 4 : Nat) : Int) := by rw [Int.tdiv_eq_ediv_of_nonneg (by omega)]; omega
          have g2 : IntKind.i64.wrap ((u / 4 : Nat) : Int) = ((u / 4 : Nat) : Int) := IntWalk.i64_in _ (by omega)
          have hy4 : u / 4 < 256 := by omega
          generalize u / 4 = v at *
          have g3 : (v : Int).tmod 4 = ((v % 4 : Nat) : Int) := by rw [Int.tmod_eq_emod_of_nonneg (by omega)]; omega
          have hr4 : v % 4 < 4 := Nat.mod_lt _ (by decide)
          generalize v % 4 = r at *
          have hr : r = 0 ∨ r = 1 ∨ r = 2 ∨ r = 3 := by omega
          have y2 := HK2.out.cell 2
          have fz := HK2.out.frozen 2
          simp only [List.getElem?_cons_succ, List.getElem?_cons_zero] at y2
          clear hps hp
          have hjs : (⟨(keyL yn j).toArray⟩ : ByteArray).size ≤ 8388608 := by show (keyL yn j).toArray.size ≤ _; rw [List.size_toArray, keyL_len]; omega
          have qa := fun (W : World) (i : Nat) => run_string_add (P := Tryz.prog) (w := W) ⟨(keyL yn j).toArray⟩ (ByteArray.extract ⟨#[97, 98, 99, 100]⟩ i (i + 1)) (by exact Int.ofNat_le.2 hjs) (by rw [ByteArray.size_extract]; show ((min (i + 1) 4 - i : Nat) : Int) ≤ _; omega)
          have HS := Lib.hid (fun i (hi : i < 4) (h : keyL yn (j + 1) = keyL yn j ++ [UInt8.ofNat (97 + i)]) =>
            (show Blk (wr.setCell ⟨w0.heap.size, 2, none⟩ (.string (⟨(keyL yn j).toArray⟩ ++ ByteArray.extract ⟨#[97, 98, 99, 100]⟩ i (i + 1)))).drew w0.heap.size 92 [.int .i64 ((x.toNat : Int) % 9), .int .i64 ((x.toNat : Int) / 9 % 8), .string ⟨(keyL yn (j + 1)).toArray⟩, .string ⟨#[]⟩] ∧ Below w0.heap.size w0 (wr.setCell ⟨w0.heap.size, 2, none⟩ (.string (⟨(keyL yn j).toArray⟩ ++ ByteArray.extract ⟨#[97, 98, 99, 100]⟩ i (i + 1)))).drew from by
              rw [cat_key (keyL yn j) i hi h]
              have s1 := HK2.out.set_ 2 (.string ⟨(keyL yn (j + 1)).toArray⟩)
              exact ⟨s1.below ((Dr.drew _).below _) s1.lt, (HB2.out.setCell (p := ⟨w0.heap.size, 2, none⟩) (Nat.le_refl _) _).trans ((Dr.drew _).below _)⟩))
          rcases hr with rfl | rfl | rfl | rfl
          all_goals (go_wp2_with fail)
          all_goals (go_region)
          all_goals (go_wp2_with fail)
          all_goals (go_roundw)
          all_goals first
            | (case measure => simp [intOf]; omega)
            | (case rel => exact ⟨j + 1, by omega, by go_num, by rw [HP.out], (HS.out 0 (by decide) HL.out).1, (HS.out 0 (by decide) HL.out).2⟩)
            | (case rel => exact ⟨j + 1, by omega, by go_num, by rw [HP.out], (HS.out 1 (by decide) HL.out).1, (HS.out 1 (by decide) HL.out).2⟩)
            | (case rel => exact ⟨j + 1, by omega, by go_num, by rw [HP.out], (HS.out 2 (by decide) HL.out).1, (HS.out 2 (by decide) HL.out).2⟩)
            | (case rel => exact ⟨j + 1, by omega, by go_num, by rw [HP.out], (HS.out 3 (by decide) HL.out).1, (HS.out 3 (by decide) HL.out).2⟩)
        · have hjm : j = m := by omega
          subst hjm
          have hx2 : decide ((j : Int) < (j : Int)) = false := decide_eq_false (by omega)
          have hx5 : decide (j < j) = false := decide_eq_false (by omega)
          rw [← HYk.out, HYn.out] at HK2
          have z2 := HC2.out wr (HB.out.trans (HB2.out.mono HB.out.size))
          have hz := z.toNat_lt
          have HZk : Hid (textS z.toNat = ⟨(textL z.toNat (z.toNat % 8)).toArray⟩) := Lib.hid rfl
          have HT0 : Hid (textL z.toNat 0 = []) := Lib.hid rfl
          have HTs := Lib.hid (fun k => textL_succ z.toNat k)
          have HTl := Lib.hid (fun k => textL_len z.toNat k)
          obtain ⟨zn, hzn⟩ : ∃ zn, zn = z.toNat := ⟨_, rfl⟩
          have HZn := Lib.hid hzn
          rw [← hzn] at z2 hz HZk HT0 HTs HTl
          have f1 : IntKind.i64.wrap (zn : Int) = (zn : Int) := IntWalk.i64_in _ (by omega)
          have f2 : (zn : Int).tmod 8 = ((zn % 8 : Nat) : Int) := by rw [Int.tmod_eq_emod_of_nonneg (by omega)]; omega
          have f3 : IntKind.i64.wrap ((zn % 8 : Nat) : Int) = ((zn % 8 : Nat) : Int) := IntWalk.i64_in _ (by omega)
          have f4 : (zn : Int).tdiv 8 = ((zn / 8 : Nat) : Int) := by rw [Int.tdiv_eq_ediv_of_nonneg (by omega)]; omega
          have f5 : IntKind.i64.wrap ((zn / 8 : Nat) : Int) = ((zn / 8 : Nat) : Int) := IntWalk.i64_in _ (by omega)
          have hm8 : zn % 8 < 8 := by omega
          generalize zn % 8 = m2 at *
          have hv8 : zn / 8 < 256 := by omega
          generalize zn / 8 = v at *
          have g3 : (v : Int).tmod 8 = ((v % 8 : Nat) : Int) := by rw [Int.tmod_eq_emod_of_nonneg (by omega)]; omega
          have hr8 : v % 8 < 8 := Nat.mod_lt _ (by decide)
          generalize v % 8 = r at *
          have hr : r = 0 ∨ r = 1 ∨ r = 2 ∨ r = 3 ∨ r = 4 ∨ r = 5 ∨ r = 6 ∨ r = 7 := by omega
          clear hzn
          go_wp2_with fail
          go_loopw [10] (fun i wq => ∃ t : Nat, t ≤ m2 ∧ i = .int .i64 (t : Int) ∧ Blk wq w0.heap.size 92 [.int .i64 ((x.toNat : Int) % 9), .int .i64 ((x.toNat : Int) / 9 % 8), .string (keyS y.toNat), .string ⟨(textL zn t).toArray⟩] ∧ Below w0.heap.size w0 wq) (fun i _ => m2 - (intOf i).toNat)
          case atStart => exact ⟨0, Nat.zero_le _, rfl, by rw [HT0.out]; exact HK2.out, HB2.out⟩
          case round =>
            obtain ⟨t, ht, rfl, hbl, hbq⟩ := hrel
            have HK3 := Lib.hid hbl
            have HB3 := Lib.hid hbq
            clear hbl hbq HK2 HB2
            by_cases hlt2 : t < m2
            · have hy2 : decide ((t : Int) < (m2 : Int)) = true := decide_eq_true (by omega)
              have hy5 : decide (t < m2) = true := decide_eq_true hlt2
              have hwt : IntKind.i64.wrap ((t : Int) + 1) = (t : Int) + 1 := IntWalk.i64_in _ (by omega)
              have HL := Lib.hid (HTs.out t)
              have y3 := HK3.out.cell 3
              have fz := HK3.out.frozen 3
              simp only [List.getElem?_cons_succ, List.getElem?_cons_zero] at y3
              have hjs : (⟨(textL zn t).toArray⟩ : ByteArray).size ≤ 8388608 := by show (textL zn t).toArray.size ≤ _; rw [List.size_toArray, HTl.out]; omega
              have qa := fun (W : World) (i : Nat) => run_string_add (P := Tryz.prog) (w := W) ⟨(textL zn t).toArray⟩ (ByteArray.extract ⟨#[115, 116, 117, 118, 119, 120, 121, 122]⟩ i (i + 1)) (by exact Int.ofNat_le.2 hjs) (by rw [ByteArray.size_extract]; show ((min (i + 1) 8 - i : Nat) : Int) ≤ _; omega)
              have HS := Lib.hid (fun i (hi : i < 8) (h : textL zn (t + 1) = textL zn t ++ [UInt8.ofNat (115 + i)]) =>
                (show Blk (wr.setCell ⟨w0.heap.size, 3, none⟩ (.string (⟨(textL zn t).toArray⟩ ++ ByteArray.extract ⟨#[115, 116, 117, 118, 119, 120, 121, 122]⟩ i (i + 1)))).drew w0.heap.size 92 [.int .i64 ((x.toNat : Int) % 9), .int .i64 ((x.toNat : Int) / 9 % 8), .string (keyS y.toNat), .string ⟨(textL zn (t + 1)).toArray⟩] ∧ Below w0.heap.size w0 (wr.setCell ⟨w0.heap.size, 3, none⟩ (.string (⟨(textL zn t).toArray⟩ ++ ByteArray.extract ⟨#[115, 116, 117, 118, 119, 120, 121, 122]⟩ i (i + 1)))).drew from by
                  rw [cat_text (textL zn t) i hi h]
                  have s1 := HK3.out.set_ 3 (.string ⟨(textL zn (t + 1)).toArray⟩)
                  exact ⟨s1.below ((Dr.drew _).below _) s1.lt, (HB3.out.setCell (p := ⟨w0.heap.size, 3, none⟩) (Nat.le_refl _) _).trans ((Dr.drew _).below _)⟩))
              rcases hr with rfl | rfl | rfl | rfl | rfl | rfl | rfl | rfl
              all_goals (go_wp2_with fail)
              all_goals (go_region)
              all_goals (go_wp2_with fail)
              all_goals (go_roundw)
              all_goals first
                | (case measure => simp [intOf]; omega)
                | (case rel => exact ⟨t + 1, by omega, by go_num, (HS.out 0 (by decide) HL.out).1, (HS.out 0 (by decide) HL.out).2⟩)
                | (case rel => exact ⟨t + 1, by omega, by go_num, (HS.out 1 (by decide) HL.out).1, (HS.out 1 (by decide) HL.out).2⟩)
                | (case rel => exact ⟨t + 1, by omega, by go_num, (HS.out 2 (by decide) HL.out).1, (HS.out 2 (by decide) HL.out).2⟩)
                | (case rel => exact ⟨t + 1, by omega, by go_num, (HS.out 3 (by decide) HL.out).1, (HS.out 3 (by decide) HL.out).2⟩)
                | (case rel => exact ⟨t + 1, by omega, by go_num, (HS.out 4 (by decide) HL.out).1, (HS.out 4 (by decide) HL.out).2⟩)
                | (case rel => exact ⟨t + 1, by omega, by go_num, (HS.out 5 (by decide) HL.out).1, (HS.out 5 (by decide) HL.out).2⟩)
                | (case rel => exact ⟨t + 1, by omega, by go_num, (HS.out 6 (by decide) HL.out).1, (HS.out 6 (by decide) HL.out).2⟩)
                | (case rel => exact ⟨t + 1, by omega, by go_num, (HS.out 7 (by decide) HL.out).1, (HS.out 7 (by decide) HL.out).2⟩)
            · have htm : t = m2 := by omega
              subst htm
              have hy2 : decide ((t : Int) < (t : Int)) = false := decide_eq_false (by omega)
              have hy5 : decide (t < t) = false := decide_eq_false (by omega)
              rw [← HZk.out] at HK3
              rw [HZn.out] at HK3
              obtain ⟨y0, y1, y2, y3⟩ : wr.cell? ⟨w0.heap.size, 0, none⟩ = some (.int .i64 ((x.toNat : Int) % 9)) ∧ wr.cell? ⟨w0.heap.size, 1, none⟩ = some (.int .i64 ((x.toNat : Int) / 9 % 8)) ∧ wr.cell? ⟨w0.heap.size, 2, none⟩ = some (.string (keyS y.toNat)) ∧ wr.cell? ⟨w0.heap.size, 3, none⟩ = some (.string (textS z.toNat)) := ⟨HK3.out.cell 0, HK3.out.cell 1, HK3.out.cell 2, HK3.out.cell 3⟩
              have HO3 := Lib.hid (own_below5 HO.out HB3.out)
              have HB4 := Lib.hid (HB.out.trans (HB3.out.mono HB.out.size))
              clear hr
              go_wp2_with (at_builtin; refine wpList_app_one rfl (.tmp 86) (.tmp 88) 89 rfl Tryz.refStepTyK wr w.heap.size (.slice A8 k c8) k (spCs (decTo l k)) (spC (stepS x y z)) rfl (by exact HO3.out) rfl _ 1 rfl rfl rfl (by decide) (by intro u hu; simp [spC] at hu; rcases hu with rfl | rfl | rfl | rfl <;> rfl) (by omega) (by decide) (by exact HB4.out.size) ?_; intro g8 cc8 w8 hO8 hB8 hK8 hg8)
              have HO8 := Lib.hid hO8
              have HB8 := Lib.hid (HB4.out.trans hB8)
              clear hO8 hB8 hK8 hg8
              go_wp2_with fail
              go_roundw
              case rel => exact ⟨k + 1, q + 3, by go_num, by have := HQ.out; omega, by omega, by omega, by rw [HT.out]; exact HO8.out, HB8.out⟩
              case measure => simp [intOf]; omega
    · have HE : Hid (decP l = decTo l k) := Lib.hid (by unfold decP; rw [← HLn.out, show min (n / 3) 400 = k by omega])
      have HD : Hid (w0.ownsRow w.heap.size 92 4 (.slice A8 k c8) (decTo l k).length (spCs (decTo l k))) := Lib.hid (by rw [decTo_len]; exact HO.out)
      by_cases m3 : q + 2 < n
      · have t1 : decide ((q : Int) + 2 < (n : Int)) = true := decide_eq_true (by omega)
        have t2 : decide ((k : Int) < 400) = false := decide_eq_false (by omega)
        have t3 : decide (k < 400) = false := decide_eq_false (by omega)
        have t4 : decide (q + 2 < n) = true := decide_eq_true m3
        clear hgo
        go_wp2_with fail
        go_ret
        exact ⟨_, rfl, by rw [HE.out]; exact HD.out, HB.out⟩
      · have t1 : decide ((q : Int) + 2 < (n : Int)) = false := decide_eq_false (by omega)
        have t4 : decide (q + 2 < n) = false := decide_eq_false m3
        clear hgo
        go_wp2_with fail
        go_ret
        exact ⟨_, rfl, by rw [HE.out]; exact HD.out, HB.out⟩

end Go.Proofs.YtcelabojehaioaaGreatDoor
