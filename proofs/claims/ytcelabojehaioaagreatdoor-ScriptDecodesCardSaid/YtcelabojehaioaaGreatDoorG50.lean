import Derived.Test.YtcelabojehaioaaGreatDoorG48
import Derived.Test.YtcelabojehaioaaGreatDoorG49
/- Law 21: the law ScriptDecodes. -/
namespace Go.Proofs.YtcelabojehaioaaGreatDoor
open Go.RowKit

theorem Tryz.eqStepR (a1 a2 b1 b2 : Int) (a3 a4 b3 b4 : ByteArray) (w : World) : (Op.equalIn 10000 92 (.agg #[.int .i64 a1, .int .i64 a2, .string a3, .string a4]) (.agg #[.int .i64 b1, .int .i64 b2, .string b3, .string b4])).run Tryz.prog w = .ok ((a1 == b1 && a2 == b2) && (a3.toList == b3.toList && a4.toList == b4.toList)) w := by
  have hS : Tryz.prog.underlying 92 = some (.struct (Tryz.prog.fieldsOf 92)) := by kernel_rfl
  rw [show (10000 : Nat) = 9999 + 1 from rfl]
  first
    | rw [run_equalIn_agg w 9999 92 _ _ hS (by kernel_rfl)]
    | rw [run_equalIn_agg w 9999 92 _ _ hS (fun w => by kernel_rfl)]
  have u9 := Tryz.underlying9
  have u3 := Tryz.underlying3
  simp only [Program.fieldsOf, Tryz.underlying92]
  go_simp
  by_cases h1 : a1 = b1 <;> by_cases h2 : a2 = b2 <;> by_cases h3 : a3.toList = b3.toList <;> by_cases h4 : a4.toList = b4.toList <;> simp [h1, h2, h3, h4]

set_option maxHeartbeats 8000000 in
set_option maxRecDepth 100000 in
theorem scriptDecodes_any (l : List UInt8) (A : Option Addr) (c : Nat) (w : World) (hm : l.length ≤ maxLen) (hc : l.length ≤ c) (h : Bs w A l.length l) (hT : Tabs w) :
    Calls Tryz.prog 6 #[.slice A l.length c] w fun e w' => e = .returned (.bool true) ∧ Below w.heap.size w w' := by
  have HAl := Lib.hid (alive21 hT)
  have HR := Lib.hid h
  clear hT h
  by_cases hbig : 2000 < l.length
  · have t1 : decide ((2000 : Int) < (l.length : Int)) = true := decide_eq_true (by omega)
    generalize l.length = n at *
    go_enter Tryz.func6, Tryz.ntmps6
    go_wp2_with fail
    refine HAl.out.mono ?_
    rintro e w1 ⟨rfl, hb1⟩
    have HB1 := Lib.hid hb1
    clear HAl hb1
    go_wp2_with fail
    go_ret
    exact ⟨rfl, HB1.out⟩
  · have t1 : decide ((2000 : Int) < (l.length : Int)) = false := decide_eq_false (by omega)
    have HD := Lib.hid (fun W (k : Below w.heap.size w W) => scrDecode l A c W hm hc (HR.out.below k))
    have HF := Lib.hid (fun W (k : Below w.heap.size w W) => refDecode l A c W (by omega) (HR.out.below k))
    have hl4 : (decP l).length ≤ 400 := by rw [decP_len]; omega
    generalize l.length = n at *
    obtain ⟨P, hP⟩ : ∃ P, P = decP l := ⟨_, rfl⟩
    rw [← hP] at HD HF hl4
    clear hP
    go_enter Tryz.func6, Tryz.ntmps6
    go_wp2_with fail
    refine HAl.out.mono ?_
    rintro e w1 ⟨rfl, hb1⟩
    have HB1 := Lib.hid hb1
    have HD1 := Lib.hid (HD.out w1 hb1)
    clear HAl hb1 HD
    go_wp2_with fail
    refine HD1.out.mono ?_
    rintro e w2 ⟨v2, rfl, ho2, hb2⟩
    obtain ⟨A2, c2, rfl, hc2, hr2⟩ := own_rowk ho2
    have hb12 := HB1.out.trans (hb2.mono HB1.out.size)
    have HB2 := Lib.hid hb12
    have HR2 := Lib.hid hr2
    have HF2 := Lib.hid (HF.out w2 hb12)
    clear HD1 ho2 hb2 hr2 hb12 HF
    go_wp2_with fail
    refine HF2.out.mono ?_
    rintro e w3 ⟨v3, rfl, ho3, hb3⟩
    obtain ⟨A3, c3, rfl, hc3, hr3⟩ := own_rowk ho3
    have HB3 := Lib.hid (HB2.out.trans (hb3.mono HB2.out.size))
    have HR3 : Hid (SpR w3 A3 P) := Lib.hid hr3
    have HL3 : Hid (SpR w3 A2 P) := Lib.hid (Rd.below HR2.out hb3)
    obtain ⟨m, hm2⟩ : ∃ m, m = P.length := ⟨_, rfl⟩
    have HM := Lib.hid hm2
    rw [← hm2] at hl4 ⊢
    have t2 : ((m : Int) != (m : Int)) = false := by simp
    clear HF2 ho3 hb3 hr3 hm2 HR2 hc2 hc3
    go_wp2_with fail
    go_loopw [22] (fun i wr => ∃ k : Nat, k ≤ m ∧ i = .int .i64 (k : Nat) ∧ Dr w3 wr) (fun i _ => m - (intOf i).toNat)
    case atStart => exact ⟨0, Nat.zero_le _, rfl, Dr.refl _⟩
    case round =>
      obtain ⟨k, hk, rfl, hdr⟩ := hrel
      have HDr := Lib.hid hdr
      clear hdr
      by_cases hlt : k < m
      · have hkP : k < P.length := by have := HM.out; omega
        obtain ⟨ba, oa, rfl, _, p0, p1, p2, p3⟩ := (show SpR wr A2 P from Rd.below HL3.out (HDr.out.below _)).at k hkP
        obtain ⟨bb, ob, rfl, _, q0, q1, q2, q3⟩ := (show SpR wr A3 P from Rd.below HR3.out (HDr.out.below _)).at k hkP
        have hx1 : (k : Int) < (m : Int) := by omega
        have hx2 : decide ((k : Int) < (m : Int)) = true := decide_eq_true hx1
        have hx5 : decide (k < m) = true := decide_eq_true hlt
        have hwk : IntKind.i64.wrap ((k : Int) + 1) = (k : Int) + 1 := IntWalk.i64_in _ (by omega)
        have hmm : Tryz.prog.eqGuardType Tryz.prog.depth 92 = false := by kernel_rfl
        generalize P[k] = y at *
        obtain ⟨y1, y2, y3, y4⟩ := y
        simp only at p0 p1 p2 p3 q0 q1 q2 q3
        have hq := fun W => Tryz.eqStepR (y1 : Int) (y2 : Int) (y1 : Int) (y2 : Int) y3 y4 y3 y4 W
        have hqq : ((((y1 : Int) == (y1 : Int)) && ((y2 : Int) == (y2 : Int))) && ((y3.toList == y3.toList) && (y4.toList == y4.toList))) = true := by simp
        rw [hqq] at hq
        clear hqq
        go_wp2_with fail
        go_quiet (fail)
        go_wp2_with fail
        go_roundw
        case rel => exact ⟨k + 1, by omega, by go_num, by first | exact HDr.out.trans (Dr.one _ _) | exact HDr.out⟩
        case measure => simp [intOf]; omega
      · have hx2 : decide ((k : Int) < (m : Int)) = false := decide_eq_false (by omega)
        have hx5 : decide (k < m) = false := decide_eq_false hlt
        go_wp2_with fail
        go_ret
        exact ⟨rfl, HB3.out.trans (HDr.out.below _)⟩

end Go.Proofs.YtcelabojehaioaaGreatDoor
