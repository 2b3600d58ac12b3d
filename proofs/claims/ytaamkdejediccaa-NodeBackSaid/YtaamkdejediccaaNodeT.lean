/- The law NodeBack of layer 9, as a walk. -/
import Derived.Test.YtaamkdejediccaaNodeS
namespace Go.Proofs.Ytaamkdejediccaa
open Go.RowKit

set_option maxHeartbeats 4000000 in
theorem nodeBack_law (A1 A2 A3 A4 : Option Addr) (n1 c1 n2 c2 n3 c3 n4 c4 : Nat) (x : Nd) (l : List UInt64) (w : World) (m1 : n1 ≤ maxLen) (m2 : n2 ≤ maxLen) (m3 : n3 ≤ maxLen) (m4 : n4 ≤ maxLen) (q4 : n4 ≤ c4) (h1 : Bs w A1 n1 x.pre) (h2 : Bs w A2 n2 x.labels) (h3 : Ws w A3 n3 x.kids) (h4 : Ws w A4 n4 l) :
    Calls Try.prog 9 #[.agg #[.slice A1 n1 c1, .int .u64 (x.val.toNat : Int), .slice A2 n2 c2, .slice A3 n3 c3], .slice A4 n4 c4] w fun e w' => e = .returned (.bool true) ∧ Below w.heap.size w w' := by
  unfold maxLen at m4
  obtain ⟨W, hW, e0, e1, e2, e3, hb, hs⟩ := box4 w 40 (.slice A1 n1 c1) (.int .u64 (x.val.toNat : Int)) (.slice A2 n2 c2) (.slice A3 n3 c3)
  have HW := Lib.hid hW
  clear hW
  go_enter Try.func9, Try.ntmps9
  go_wp2_with fail
  rw [← HW.out]
  refine (alive9_any W).mono ?_
  rintro e w1 ⟨rfl, hb1⟩
  obtain ⟨p0, p1, p2, p3, hs1⟩ := box_keep e0 e1 e2 e3 (by omega) hb1
  have hb01 := hb.trans (hb1.mono hb.size)
  clear e0 e1 e2 e3 hb1 HW
  go_wp2_with fail
  have hfw := few_any A1 A2 A3 n1 c1 n2 c2 n3 c3 (.int .u64 (x.val.toNat : Int)) w1 m1 m2 m3
  refine hfw.mono ?_
  rintro e w2 ⟨rfl, hb2⟩
  obtain ⟨q0, q1, q2, q3, hs2⟩ := box_keep p0 p1 p2 p3 hs1 hb2
  have hb02 := hb01.trans (hb2.mono hb01.size)
  clear p0 p1 p2 p3 hb01 hb2 hfw
  cases hf : decide (n1 ≤ 200) && decide (n2 ≤ 200) && decide (n3 ≤ 200) with
  | false =>
    clear hf
    go_wp2_with fail
    go_ret
    exact ⟨rfl, hb02⟩
  | true =>
  by_cases h200 : n4 ≤ 200
  case neg =>
    have t1 : decide ((n4 : Int) > 200) = true := by simp; omega
    have t2 : decide ((200 : Int) < n4) = true := by simp; omega
    clear hf
    go_wp2_with fail
    go_ret
    exact ⟨rfl, hb02⟩
  case pos =>
    simp only [Bool.and_eq_true, decide_eq_true_eq] at hf
    obtain ⟨⟨f1, f2⟩, f3⟩ := hf
    have t1 : decide ((n4 : Int) > 200) = false := by simp; omega
    have t2 : decide ((200 : Int) < n4) = false := by simp; omega
    go_wp2_with fail
    have hen := encode_node A1 A2 A3 n1 c1 n2 c2 n3 c3 x w2 (by omega) (by omega) (by omega) (h1.below hb02) (h2.below hb02) (h3.below hb02)
    refine hen.mono ?_
    rintro e w3 ⟨hb3, hE⟩
    clear hen t1 t2
    obtain ⟨r0, r1, r2, r3, hs3⟩ := box_keep q0 q1 q2 q3 hs2 hb3
    have hb03 := hb02.trans (hb3.mono hb02.size)
    clear q0 q1 q2 q3 hb02 hb3
    cases hR : rightB x
    case' false =>
      rw [hR] at hE
      subst hE
      clear r0 r1 r2 r3 hs3
      go_wp2_with fail
      have hb09 := hb03
      have w9 := ()
      clear hb03
      generalize hw9 : w3 = w9 at *
      clear hw9
    case' true =>
      rw [hR, if_pos rfl] at hE
      obtain ⟨v5, rfl, ho5⟩ := hE
      obtain ⟨A5, c5, rfl, hc5, hr5⟩ := rd_of_own ho5
      have g5 : Ws w3 A5 (encW x).length (encW x) := hr5
      have hl5 := encW_length x
      have l3 := h3.len
      have hde := decode_any A5 (encW x).length c5 (encW x) w3 (by rw [hl5]; split <;> omega) hc5 g5
      have hok := decOk_enc x hR
      have hcd := cand_enc x hR
      obtain ⟨cl, hcl⟩ : ∃ cl : Int, (if n3 ≤ 4 then 1 else 2) = cl := ⟨_, rfl⟩
      obtain ⟨wn, hwn⟩ : ∃ wn : Int, wordsN cl = wn := ⟨_, rfl⟩
      have t3 : (((encW x).length : Int) != wn) = false := by
        rw [hl5, l3, ← hwn, ← hcl]; split <;> rfl
      have HCL := Lib.hid hcl
      have HWN := Lib.hid hwn
      clear hcl hwn
      generalize (encW x).length = n5 at *
      have HDE := Lib.hid hde
      have HCD := Lib.hid hcd
      have HOK := Lib.hid hok
      clear hde hcd hok hl5 ho5 hr5 g5 hc5 l3
      go_wp2_with fail
      refine HDE.out.mono ?_
      rintro e w4 ⟨hb4, hD⟩
      rw [HOK.out, if_pos rfl, HCD.out] at hD
      obtain ⟨B1, d1, B2, d2, B3, d3, rfl, _, _, _, k1, k2, k3⟩ := hD
      obtain ⟨s0, s1, s2, s3, hs4⟩ := box_keep r0 r1 r2 r3 hs3 hb4
      have hb04 := hb03.trans (hb4.mono hb03.size)
      clear HDE HOK HCD r0 r1 r2 r3 hb03 hb4
      obtain ⟨W5, hW5, f0, f1, f2, f3, hb5, hs5⟩ := box4 w4 44 (.slice B1 x.pre.length d1) (.int .u64 (x.val.toNat : Int)) (.slice B2 x.labels.length d2) (.slice B3 x.kids.length d3)
      obtain ⟨u0, u1, u2, u3, hs5'⟩ := box_keep s0 s1 s2 s3 hs4 hb5
      have K1 := k1.below hb5
      have K2 := k2.below hb5
      have K3 := k3.below hb5
      have hb05 := hb04.trans (hb5.mono hb04.size)
      have hsa := same_true B1 B2 B3 A1 A2 A3 x.pre.length d1 x.labels.length d2 x.kids.length d3 n1 c1 n2 c2 n3 c3 x W5 (by have := h3.len; omega) K1 K2 K3 (h1.below hb05) (h2.below hb05) (h3.below hb05)
      have HSA := Lib.hid hsa
      clear k1 k2 k3 K1 K2 K3 hsa f0 f1 f2 f3 hs5 hb5
      have HW := Lib.hid hW5
      rw [hW5] at u0 u1 u2 u3 hs5'
      clear hW5
      go_wp2_with fail
      rw [← HW.out]
      rw [← HW.out] at u0 u1 u2 u3 hs5'
      refine HSA.out.mono ?_
      rintro e w6 ⟨rfl, hb6⟩
      obtain ⟨s0, s1, s2, s3, hs6⟩ := box_keep u0 u1 u2 u3 hs5' hb6
      have hb06 := hb05.trans (hb6.mono hb05.size)
      clear HSA HW u0 u1 u2 u3 hb05 hb6 hs5'
      go_wp2_with fail
      refine (class_any _ _ _ A3 n3 c3 w6 (by omega)).mono ?_
      rintro e w7 ⟨rfl, hb7⟩
      rw [HCL.out]
      have hb09 := hb06.trans (hb7.mono hb06.size)
      clear s0 s1 s2 s3 hb06 hb7 hs6
      go_wp2_with fail
      refine (words_any _ w7).mono ?_
      rintro e w9 ⟨rfl, rfl⟩
      rw [HWN.out]
      go_wp2_with fail
    all_goals
      have hde := decode_any A4 n4 c4 l _ (by omega) q4 (h4.below hb09)
      refine hde.mono ?_
      rintro e w10 ⟨hb10, hD⟩
      have hb010 := hb09.trans (hb10.mono hb09.size)
      clear hde
      cases hd : decOk l with
      | false =>
        rw [hd] at hD
        subst hD
        clear hd hR
        have hb11 := hb010.alloc (by have := hb010.size; omega) (.cells #[.slice none 0 0, .int .u64 0, .slice none 0 0, .slice none 0 0] 44)
        go_wp2_with fail
        go_ret
        exact ⟨rfl, hb11.os, hb11.tape, hb11.output, hb11.size, hb11.block⟩
      | true =>
        rw [hd, if_pos rfl] at hD
        obtain ⟨B1, d1, B2, d2, B3, d3, rfl, _, _, _, k1, k2, k3⟩ := hD
        obtain ⟨hRy, hEy⟩ := decOk_iff l hd
        have y16 := cand_kids l
        have hRy' := (rightB_iff _).1 hRy
        have yp := hRy'.1
        have yl := hRy'.2.2.1
        have y2 : (cand l).labels.length ≤ 16 := by omega
        clear hRy' hd hR yl
        generalize cand l = y at *
        have z2 := k2.len
        have z3 := k3.len
        have hl4 := h4.len
        obtain ⟨W11, hW, f0, f1, f2, f3, hb11, hs11⟩ := box4 w10 44 (.slice B1 y.pre.length d1) (.int .u64 (y.val.toNat : Int)) (.slice B2 y.labels.length d2) (.slice B3 y.kids.length d3)
        have hb011 := hb010.trans (hb11.mono hb010.size)
        have K1 := k1.below hb11
        have K2 := k2.below hb11
        have K3 := k3.below hb11
        have hen := encode_node B1 B2 B3 y.pre.length d1 y.labels.length d2 y.kids.length d3 y W11 (by omega) (by omega) (by omega) K1 K2 K3
        have HEN := Lib.hid hen
        have HW := Lib.hid hW
        clear hen k1 k2 k3 hb11 hW z2 z3
        go_wp2_with fail
        rw [← HW.out]
        refine HEN.out.mono ?_
        rintro e w12 ⟨hb12, hE⟩
        rw [hRy, if_pos rfl] at hE
        obtain ⟨v5, rfl, ho5⟩ := hE
        obtain ⟨A5, c5, rfl, hc5, hr5⟩ := rd_of_own ho5
        have g5 : Ws w12 A5 (encW y).length (encW y) := hr5
        rw [hEy, hl4] at g5 ⊢
        obtain ⟨r0, r1, r2, r3, hs12⟩ := box_keep f0 f1 f2 f3 (by omega) hb12
        have hb012 := hb011.trans (hb12.mono hb011.size)
        have hsw := sameWords_any A5 A4 n4 n4 c5 c4 l l w12 (by omega) (by omega) g5 (h4.below hb012)
        rw [show decide (l = l) = true from decide_eq_true rfl] at hsw
        have K1' := K1.below hb12
        have K2' := K2.below hb12
        have K3' := K3.below hb12
        clear HEN HW ho5 hr5 g5 f0 f1 f2 f3 hb12 K1 K2 K3 hb011 hc5 hEy
        go_wp2_with fail
        refine hsw.mono ?_
        rintro e w13 ⟨rfl, hd13⟩
        obtain ⟨q0, q1, q2, q3, hs13⟩ := box_keep r0 r1 r2 r3 hs12 (hd13.below _)
        have hb013 := hb012.trans (hd13.below _)
        have hri := right_node B1 B2 B3 y.pre.length d1 y.labels.length d2 y.kids.length d3 y w13 (by omega) (by omega) (by omega) (K1'.below (hd13.below _)) (K2'.below (hd13.below _)) (K3'.below (hd13.below _))
        rw [hRy] at hri
        clear hsw r0 r1 r2 r3 hb012 hs12 K1' K2' K3' hd13 hRy
        go_wp2_with fail
        refine hri.mono ?_
        rintro e w14 ⟨rfl, hb14⟩
        have hb014 := hb013.trans (hb14.mono hb013.size)
        clear hri q0 q1 q2 q3
        go_wp2_with fail
        go_ret
        exact ⟨rfl, hb014⟩

end Go.Proofs.Ytaamkdejediccaa
