import Derived.Lib.ConvBytes
import Derived.Test.YtcelabojehaioaaGreatDoorG48
/- Law 21: the law ScriptLetters. -/
namespace Go.Proofs.YtcelabojehaioaaGreatDoor
open Go.RowKit

/-- What each step of a script is. -/
structure Letters (x : Sp) : Prop where
  what : x.what < 9
  id : x.id < 8
  key : x.key.size ≤ 3
  text : x.text.size ≤ 7
  all : ∀ i (_ : i < x.key.size), 97 ≤ (x.key.data.toList.getD i 0).toNat ∧ (x.key.data.toList.getD i 0).toNat ≤ 100

theorem letters_at {l : List UInt8} {k : Nat} (h : k < (decP l).length) : Letters (decP l)[k] := by
  have e : (decP l)[k] = stepAt l k := by
    have h2 : k < min (l.length / 3) 400 := by rw [decP_len] at h; exact h
    have h1 : (decP l)[k]? = some (stepAt l k) := by
      unfold decP decTo
      rw [List.getElem?_map, List.getElem?_range h2]
      rfl
    rw [List.getElem?_eq_getElem h] at h1
    exact Option.some.inj h1
  rw [e]
  unfold stepAt
  generalize l.getD (3 * k) 0 = x
  generalize l.getD (3 * k + 1) 0 = y
  generalize l.getD (3 * k + 2) 0 = z
  have hk : (keyS y.toNat).data.toList = keyL y.toNat (y.toNat % 4) := by unfold keyS; simp
  have hks : (keyS y.toNat).size = y.toNat % 4 := by show (keyS y.toNat).data.size = _; rw [← Array.length_toList, hk, keyL_len]
  have hts : (textS z.toNat).size = z.toNat % 8 := by show (textL z.toNat (z.toNat % 8)).toArray.size = _; rw [List.size_toArray, textL_len]
  refine ⟨Nat.mod_lt _ (by decide), Nat.mod_lt _ (by decide), ?_, ?_, fun i hi => ?_⟩
  · show (keyS y.toNat).size ≤ 3; omega
  · show (textS z.toNat).size ≤ 7; omega
  · have hi : i < (keyS y.toNat).size := hi
    show 97 ≤ ((keyS y.toNat).data.toList.getD i 0).toNat ∧ ((keyS y.toNat).data.toList.getD i 0).toNat ≤ 100
    rw [hk, List.getD_eq_getElem?_getD, List.getElem?_eq_getElem (by rw [keyL_len]; omega)]
    unfold keyL
    simp only [List.getElem_map, List.getElem_range, Option.getD_some]
    have := Nat.mod_lt (y.toNat / 4 ^ (i + 1)) (show 0 < 4 by decide)
    rw [UInt8.toNat_ofNat_of_lt' (by show _ < 256; omega)]
    omega

set_option maxHeartbeats 8000000 in
set_option maxRecDepth 100000 in
theorem scriptLetters_any (l : List UInt8) (A : Option Addr) (c : Nat) (w : World) (hm : l.length ≤ maxLen) (hc : l.length ≤ c) (h : Bs w A l.length l) (hT : Tabs w) :
    Calls Tryz.prog 8 #[.slice A l.length c] w fun e w' => e = .returned (.bool true) ∧ Below w.heap.size w w' := by
  have HAl := Lib.hid (alive21 hT)
  have HR := Lib.hid h
  clear hT h
  by_cases hbig : 2000 < l.length
  · have t1 : decide ((2000 : Int) < (l.length : Int)) = true := decide_eq_true (by omega)
    generalize l.length = n at *
    go_enter Tryz.func8, Tryz.ntmps8
    go_wp2_with fail
    refine HAl.out.mono ?_
    rintro e w1 ⟨rfl, hb1⟩
    have HB1 := Lib.hid hb1
    clear HAl hb1
    go_wp2_with fail
    go_ret
    exact ⟨rfl, HB1.out⟩
  · have t1 : decide ((2000 : Int) < (l.length : Int)) = false := decide_eq_false (by omega)
    have HD := Lib.hid (fun W (k : Below w.heap.size w W) => scrDecode l A c W hm hc (HR.out.below k))
    have hl4 : (decP l).length ≤ 400 := by rw [decP_len]; omega
    have hmin := decP_len l
    have HLe := Lib.hid (fun k (h : k < (decP l).length) => letters_at h)
    obtain ⟨P, hP⟩ : ∃ P, P = decP l := ⟨_, rfl⟩
    rw [← hP] at HD hl4 hmin HLe
    generalize l.length = n at *
    obtain ⟨m, hm2⟩ : ∃ m, m = P.length := ⟨_, rfl⟩
    have HM := Lib.hid hm2
    rw [← hm2] at hl4 hmin
    have d1 : (n : Int).tdiv 3 = ((n / 3 : Nat) : Int) := by rw [Int.tdiv_eq_ediv_of_nonneg (by omega)]; omega
    have d2 : IntKind.i64.wrap ((n / 3 : Nat) : Int) = ((n / 3 : Nat) : Int) := IntWalk.i64_in _ (by omega)
    have d7 : ((m : Int) != min ((n : Int) / 3) 400) = false := by rw [bne_eq_false_iff_eq, hmin]; omega
    clear hmin
    clear hP
    go_enter Tryz.func8, Tryz.ntmps8
    go_wp2_with fail
    refine HAl.out.mono ?_
    rintro e w1 ⟨rfl, hb1⟩
    have HB1 := Lib.hid hb1
    have HD1 := Lib.hid (HD.out w1 hb1)
    clear HAl hb1 HD
    go_wp2_with fail
    refine HD1.out.mono ?_
    rintro e w2 ⟨v2, rfl, ho2, hb2⟩
    obtain ⟨A2, c2, rfl, hc2, hr2⟩ := own_rowk ho2
    have hb12 := HB1.out.trans (hb2.mono HB1.out.size)
    have HB2 := Lib.hid hb12
    have HR2 : Hid (SpR w2 A2 P) := Lib.hid hr2
    rw [← HM.out]
    clear HD1 ho2 hb2 hr2 hb12 hc2 hm2
    go_wp2_with fail
    go_loopw [24] (fun i wr => ∃ k : Nat, k ≤ m ∧ i = .int .i64 (k : Nat) ∧ Below w2.heap.size w2 wr) (fun i _ => m - (intOf i).toNat)
    case atStart => exact ⟨0, Nat.zero_le _, rfl, Below.refl _ _⟩
    case round =>
      obtain ⟨k, hk, rfl, hbr⟩ := hrel
      obtain ⟨w0, hw0⟩ : ∃ x, x = wr := ⟨_, rfl⟩
      subst hw0
      have HBr := Lib.hid hbr
      clear hbr
      by_cases hlt : k < m
      · have hkP : k < P.length := by have := HM.out; omega
        obtain ⟨ba, oa, rfl, _, p0, p1, p2, p3⟩ := (show SpR w0 A2 P from Rd.below HR2.out HBr.out).at k hkP
        have hx1 : (k : Int) < (m : Int) := by omega
        have hx2 : decide ((k : Int) < (m : Int)) = true := decide_eq_true hx1
        have hx5 : decide (k < m) = true := decide_eq_true hlt
        have hwk : IntKind.i64.wrap ((k : Int) + 1) = (k : Int) + 1 := IntWalk.i64_in _ (by omega)
        have hle := HLe.out k hkP
        generalize P[k] = y at *
        obtain ⟨y1, y2, y3, y4⟩ := y
        obtain ⟨l1, l2, l3, l4, l5⟩ := hle
        simp only at p0 p1 p2 p3 l1 l2 l3 l4 l5
        have g1 : decide ((y1 : Int) < 0) = false := decide_eq_false (by omega)
        have g2 : decide ((8 : Int) < (y1 : Int)) = false := decide_eq_false (by omega)
        have g3 : decide ((y2 : Int) < 0) = false := decide_eq_false (by omega)
        have g4 : decide ((7 : Int) < (y2 : Int)) = false := decide_eq_false (by omega)
        have g5 : decide ((3 : Int) < (y3.size : Int)) = false := decide_eq_false (by omega)
        have g6 : decide ((7 : Int) < (y4.size : Int)) = false := decide_eq_false (by omega)
        have g2' : decide (8 < y1) = false := decide_eq_false (by omega)
        have g4' : decide (7 < y2) = false := decide_eq_false (by omega)
        have g5' : decide (3 < y3.size) = false := decide_eq_false (by omega)
        have g6' : decide (7 < y4.size) = false := decide_eq_false (by omega)
        obtain ⟨W, hW⟩ : ∃ W, W = w0.alloc (.cells #[.int .i64 (y1 : Int), .int .i64 (y2 : Int), .string y3, .string y4] 93) := ⟨_, rfl⟩
        have hbW : Below w0.heap.size w0 W := hW ▸ (Below.refl _ _).alloc (Nat.le_refl _) _
        have cv := fun X => Go.Lib.run_convert_string_bytes (P := Tryz.prog) X 9 39 5 y3 Tryz.underlying9 Tryz.underlying39 Tryz.underlying5
        have hsW : W.heap.size = w0.heap.size + 1 := by rw [hW]; simp
        have HSW := Lib.hid hsW
        have HW := Lib.hid hW
        have HBW := Lib.hid hbW
        have HAll := Lib.hid l5
        clear hW hbW l5 hsW
        go_wp2_with fail
        rw [← HW.out]
        obtain ⟨W5, hW5⟩ : ∃ W5, W5 = Go.Lib.bytesWorld W 5 y3 := ⟨_, rfl⟩
        have hb5 : Below W.heap.size W W5 := by
          rw [hW5]
          exact ⟨rfl, rfl, rfl, by rw [Go.Lib.bytesWorld_size]; omega, fun j hj => Go.Lib.bytesWorld_at_old _ _ _ _ hj⟩
        have HC5 : Hid (∀ j, j < y3.size → W5.cell? ⟨W.heap.size, j, none⟩ = some (.int .u8 ((y3.data.toList.getD j 0).toNat : Int))) := Lib.hid (fun j hj => by rw [hW5]; exact Go.Lib.bytesWorld_cell W _ y3 j hj)
        rw [HSW.out] at HC5
        rw [← hW5]
        have HB5 := Lib.hid (HBr.out.trans ((HBW.out.trans (hb5.mono HBW.out.size)).mono HBr.out.size))
        generalize grownCap W y3.size 0 5 = gc at *
        clear hb5 hW5 cv
        go_wp2_with fail
        go_loopw [62] (fun i wq => ∃ j : Nat, j ≤ y3.size ∧ i = .int .i64 (j : Nat) ∧ wq = W5) (fun i _ => y3.size - (intOf i).toNat)
        case atStart => exact ⟨0, Nat.zero_le _, rfl, rfl⟩
        case round =>
          obtain ⟨j, hj, rfl, rfl⟩ := hrel
          by_cases hjl : j < y3.size
          · have hy2 : decide ((j : Int) < (y3.size : Int)) = true := decide_eq_true (by omega)
            have hy5 : decide (j < y3.size) = true := decide_eq_true hjl
            have hy1 : (j : Int) < (y3.size : Int) := by omega
            have hwj : IntKind.i64.wrap ((j : Int) + 1) = (j : Int) + 1 := IntWalk.i64_in _ (by omega)
            have z0 := HC5.out j hjl
            obtain ⟨a1, a2⟩ := HAll.out j hjl
            generalize (y3.data.toList.getD j 0).toNat = cc at *
            have b1 : decide ((cc : Int) < 97) = false := decide_eq_false (by omega)
            have b2 : decide ((100 : Int) < (cc : Int)) = false := decide_eq_false (by omega)
            have b3 : decide (cc < 97) = false := decide_eq_false (by omega)
            have b4 : decide (100 < cc) = false := decide_eq_false (by omega)
            go_wp2_with fail
            go_roundw
            case rel => exact ⟨j + 1, by omega, by go_num, by first | rfl | trivial⟩
            case measure => simp [intOf]; omega
          · have hy2 : decide ((j : Int) < (y3.size : Int)) = false := decide_eq_false (by omega)
            have hy5 : decide (j < y3.size) = false := decide_eq_false hjl
            go_wp2_with fail
            go_roundw
            case rel => exact ⟨k + 1, by omega, by go_num, HB5.out⟩
            case measure => simp [intOf]; omega
      · have hx2 : decide ((k : Int) < (m : Int)) = false := decide_eq_false (by omega)
        have hx5 : decide (k < m) = false := decide_eq_false hlt
        go_wp2_with fail
        go_ret
        exact ⟨rfl, HB2.out.trans (HBr.out.mono HB2.out.size)⟩

end Go.Proofs.YtcelabojehaioaaGreatDoor
