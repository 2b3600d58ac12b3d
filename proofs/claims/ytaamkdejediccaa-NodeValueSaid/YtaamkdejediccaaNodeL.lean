/- The law NodeValue of layer 9, as a walk. -/
import Derived.Test.YtaamkdejediccaaNodeK
namespace Go.Proofs.Ytaamkdejediccaa
open Go.RowKit

set_option maxHeartbeats 2000000 in
theorem nodeValue_law (A1 A2 A3 : Option Addr) (n1 c1 n2 c2 n3 c3 : Nat) (x : Nd) (v : UInt64) (w : World) (m1 : n1 ≤ maxLen) (m2 : n2 ≤ maxLen) (m3 : n3 ≤ maxLen) (h1 : Bs w A1 n1 x.pre) (h2 : Bs w A2 n2 x.labels) (h3 : Ws w A3 n3 x.kids) :
    Calls Try.prog 11 #[.agg #[.slice A1 n1 c1, .int .u64 (x.val.toNat : Int), .slice A2 n2 c2, .slice A3 n3 c3], .int .u64 (v.toNat : Int)] w fun e w' => e = .returned (.bool true) ∧ Below w.heap.size w w' := by
  obtain ⟨W, hW, e0, e1, e2, e3, hb, hs⟩ := box4 w 40 (.slice A1 n1 c1) (.int .u64 (x.val.toNat : Int)) (.slice A2 n2 c2) (.slice A3 n3 c3)
  have HW := Lib.hid hW
  clear hW
  go_enter Try.func11, Try.ntmps11
  go_wp2_with fail
  rw [← HW.out]
  refine (alive9_any W).mono ?_
  rintro e w1 ⟨rfl, hb1⟩
  obtain ⟨p0, p1, p2, p3, hs1⟩ := box_keep e0 e1 e2 e3 (by omega) hb1
  have hb01 := hb.trans (hb1.mono hb.size)
  clear e0 e1 e2 e3 hb1 HW
  go_wp2_with fail
  have hfw := few_any A1 A2 A3 n1 c1 n2 c2 n3 c3 (.int .u64 (x.val.toNat : Int)) w1 m1 m2 m3
  refine hfw.mono ?_
  rintro e w2 ⟨rfl, hb2⟩
  obtain ⟨q0, q1, q2, q3, hs2⟩ := box_keep p0 p1 p2 p3 hs1 hb2
  have hb02 := hb01.trans (hb2.mono hb01.size)
  clear p0 p1 p2 p3 hb01 hb2 hfw
  cases hf : decide (n1 ≤ 200) && decide (n2 ≤ 200) && decide (n3 ≤ 200) with
  | false =>
    clear hf
    go_wp2_with fail
    go_ret
    exact ⟨rfl, hb02⟩
  | true =>
    simp only [Bool.and_eq_true, decide_eq_true_eq] at hf
    obtain ⟨⟨f1, f2⟩, f3⟩ := hf
    go_wp2_with fail
    have hen := encode_node A1 A2 A3 n1 c1 n2 c2 n3 c3 x w2 (by omega) (by omega) (by omega) (h1.below hb02) (h2.below hb02) (h3.below hb02)
    refine hen.mono ?_
    rintro e w3 ⟨hb3, hE⟩
    clear hen
    obtain ⟨r0, r1, r2, r3, hs3⟩ := box_keep q0 q1 q2 q3 hs2 hb3
    have hb03 := hb02.trans (hb3.mono hb02.size)
    clear q0 q1 q2 q3 hb02 hb3
    cases hR : rightB x with
    | false =>
      rw [hR] at hE
      subst hE
      obtain ⟨W4, hW4, s0, s1, s2, s3, hb4, hs4⟩ := box4 w3 40 (.slice A1 n1 c1) (.int .u64 (v.toNat : Int)) (.slice A2 n2 c2) (.slice A3 n3 c3)
      go_wp2_with fail
      rw [← hW4]
      clear hW4
      have hb04 := hb03.trans (hb4.mono hb03.size)
      have hen := encode_node A1 A2 A3 n1 c1 n2 c2 n3 c3 { x with val := v } W4 (by omega) (by omega) (by omega) (h1.below hb04) (h2.below hb04) (h3.below hb04)
      refine hen.mono ?_
      rintro e w5 ⟨hb5, hE⟩
      rw [rightB_val, hR] at hE
      clear hen
      have hb05 := hb04.trans (hb5.mono hb04.size)
      subst hE
      clear hR
      go_wp2_with fail
      go_loop [41] (fun i => i = .int .i64 0) (fun _ => 0)
      case atStart => rfl
      case round =>
        subst hrel
        go_wp2
        go_ret
        exact ⟨rfl, hb05⟩
    | true =>
      rw [hR, if_pos rfl] at hE
      obtain ⟨v5, rfl, ho5⟩ := hE
      obtain ⟨A5, c5, rfl, _, hr5⟩ := rd_of_own ho5
      have hlen : (encW { x with val := v }).length = (encW x).length := by rw [encW_length, encW_length]
      have hlw : (encW x).length = 8 ∨ (encW x).length = 32 := by rw [encW_length]; split <;> simp
      have g5 : Ws w3 A5 (encW x).length (encW x) := hr5
      obtain ⟨W4, hW4, s0, s1, s2, s3, hb4, hs4⟩ := box4 w3 40 (.slice A1 n1 c1) (.int .u64 (v.toNat : Int)) (.slice A2 n2 c2) (.slice A3 n3 c3)
      go_wp2_with fail
      rw [← hW4]
      clear hW4
      have hb04 := hb03.trans (hb4.mono hb03.size)
      have hen := encode_node A1 A2 A3 n1 c1 n2 c2 n3 c3 { x with val := v } W4 (by omega) (by omega) (by omega) (h1.below hb04) (h2.below hb04) (h3.below hb04)
      refine hen.mono ?_
      rintro e w5 ⟨hb5, hE⟩
      rw [rightB_val, hR] at hE
      clear hen
      have hb05 := hb04.trans (hb5.mono hb04.size)
      rw [if_pos rfl] at hE
      obtain ⟨v6, rfl, ho6⟩ := hE
      obtain ⟨A6, c6, rfl, _, hr6⟩ := rd_of_own ho6
      have g6 : Ws w5 A6 (encW { x with val := v }).length (encW { x with val := v }) := hr6
      have g5' := (g5.below hb4).below hb5
      have hv := encW_val x v
      have hv2 := encW_at2 { x with val := v }
      clear ho5 ho6 hr5 hr6 g5 hR hb4 hb5 s0 s1 s2 s3 r0 r1 r2 r3 hs4
      rw [hlen] at g6 ⊢
      generalize encW { x with val := v } = la at *
      generalize hlb : encW x = lb at *
      generalize lb.length = n at *
      clear hlb
      have t1 : ((n : Int) != (n : Int)) = false := by simp
      go_wp2_with fail
      go_loopw [41] (fun i wr => ∃ k : Nat, k ≤ n ∧ i = .int .i64 k ∧ Dr w5 wr) (fun i _ => n - (intOf i).toNat)
      case atStart => exact ⟨0, Nat.zero_le _, rfl, Dr.refl _⟩
      case round =>
        obtain ⟨k, hk, rfl, q, rfl⟩ := hrel
        by_cases hlt : k < n
        · obtain ⟨hq5, p5, o5, rfl, _, hc5⟩ := g5'.at hlt
          obtain ⟨hq6, p6, o6, rfl, _, hc6⟩ := g6.at hlt
          by_cases h2k : k = 2
          · subst h2k
            have ev : la[2] = v := by rw [List.getElem?_eq_getElem hq6] at hv2; injection hv2
            rw [ev] at hc6
            have t2 : (((2 : Nat) : Int) != 2) = false := rfl
            have t3 : (((2 : Nat) : Int) == 2) = true := rfl
            have t4 : ((v.toNat : Int) != (v.toNat : Int)) = false := by simp
            clear ev hv hv2
            go_wp2
            go_quiet (fail)
            go_wp2
            go_roundw
            case rel => exact ⟨3, by omega, by go_num, by first | exact Dr.one _ _ | exact Dr.two _ _ _⟩
            case measure => simp [intOf]; omega
          · have ev : la[k] = lb[k] := by
              have := hv k h2k
              rw [List.getElem?_eq_getElem hq6, List.getElem?_eq_getElem hq5] at this
              injection this
            rw [ev] at hc6
            have t2 : ((k : Int) != 2) = true := by simp; omega
            have t3 : ((k : Int) == 2) = false := by simp; omega
            have t4 : ((lb[k].toNat : Int) != (lb[k].toNat : Int)) = false := by simp
            clear ev hv hv2 h2k
            go_wp2
            go_quiet (fail)
            go_wp2
            go_roundw
            case rel => exact ⟨k + 1, by omega, by go_num, by first | exact Dr.one _ _ | exact Dr.two _ _ _⟩
            case measure => simp [intOf]; omega
        · have hkn : k = n := by omega
          subst hkn
          go_wp2
          go_ret
          exact ⟨rfl, hb05.os, hb05.tape, hb05.output, hb05.size, hb05.block⟩

end Go.Proofs.Ytaamkdejediccaa
