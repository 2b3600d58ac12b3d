/- The law NodeTurns of layer 9, as a walk. -/
import Derived.Test.YtaamkdejediccaaNdFind
import Derived.Test.YtaamkdejediccaaNodeS
namespace Go.Proofs.Ytaamkdejediccaa
open Go.RowKit

set_option maxHeartbeats 4000000 in
theorem nodeTurns_law (A1 A2 A3 : Option Addr) (n1 c1 n2 c2 n3 c3 : Nat) (x : Nd) (label : UInt8) (kid : UInt64) (w : World) (m1 : n1 ≤ maxLen) (m2 : n2 ≤ maxLen) (m3 : n3 ≤ maxLen) (h1 : Bs w A1 n1 x.pre) (h2 : Bs w A2 n2 x.labels) (h3 : Ws w A3 n3 x.kids) :
    Calls Try.prog 13 #[.agg #[.slice A1 n1 c1, .int .u64 (x.val.toNat : Int), .slice A2 n2 c2, .slice A3 n3 c3], .int .u8 (label.toNat : Int), .int .u64 (kid.toNat : Int)] w fun e w' => e = .returned (.bool true) ∧ Below w.heap.size w w' := by
  obtain ⟨W, hW, e0, e1, e2, e3, hb, hs⟩ := box4 w 40 (.slice A1 n1 c1) (.int .u64 (x.val.toNat : Int)) (.slice A2 n2 c2) (.slice A3 n3 c3)
  have HW := Lib.hid hW
  clear hW
  go_enter Try.func13, Try.ntmps13
  go_wp2_with fail
  rw [← HW.out]
  refine (alive9_any W).mono ?_
  rintro e w1 ⟨rfl, hb1⟩
  obtain ⟨p0, p1, p2, p3, hs1⟩ := box_keep e0 e1 e2 e3 (by omega) hb1
  have hb01 := hb.trans (hb1.mono hb.size)
  clear e0 e1 e2 e3 hb1 HW
  go_wp2_with fail
  have hfw := few_any A1 A2 A3 n1 c1 n2 c2 n3 c3 (.int .u64 (x.val.toNat : Int)) w1 m1 m2 m3
  refine hfw.mono ?_
  rintro e w2 ⟨rfl, hb2⟩
  obtain ⟨q0, q1, q2, q3, hs2⟩ := box_keep p0 p1 p2 p3 hs1 hb2
  have hb02 := hb01.trans (hb2.mono hb01.size)
  clear p0 p1 p2 p3 hb01 hb2 hfw
  cases hf : decide (n1 ≤ 200) && decide (n2 ≤ 200) && decide (n3 ≤ 200) with
  | false =>
    clear hf
    go_wp2_with fail
    go_ret
    exact ⟨rfl, hb02⟩
  | true =>
    simp only [Bool.and_eq_true, decide_eq_true_eq] at hf
    obtain ⟨⟨f1, f2⟩, f3⟩ := hf
    have hlb : label.toNat < 256 := label.toNat_lt
    go_wp2_with fail
    cases hok : withOk x label kid with
    | false =>
      refine (with_no A1 A2 A3 n1 c1 n2 c2 n3 c3 x label kid w2 (by omega) (by omega) (by omega) (h1.below hb02) (h2.below hb02) (h3.below hb02) hok).mono ?_
      rintro e w3 ⟨rfl, hb3⟩
      obtain ⟨r0, r1, r2, r3, hs3⟩ := box_keep q0 q1 q2 q3 hs2 hb3
      have hb03 := hb02.trans (hb3.mono hb02.size)
      have HOK := Lib.hid hok
      clear q0 q1 q2 q3 hb02 hb3 hok
      unfold noNode
      go_wp2_with fail
      obtain ⟨W4, hW4, a0, a1, a2, a3, hb4, hs4⟩ := box4 w3 44 (.slice none 0 0) (.int .u64 0) (.slice none 0 0) (.slice none 0 0)
      rw [← hW4]
      obtain ⟨s0, s1, s2, s3, hs4'⟩ := box_keep r0 r1 r2 r3 hs3 hb4
      have hb04 := hb03.trans (hb4.mono hb03.size)
      clear r0 r1 r2 r3 hb03 hb4 hW4 a0 a1 a2 a3
      refine (right_node A1 A2 A3 n1 c1 n2 c2 n3 c3 x W4 (by omega) (by omega) (by omega) (h1.below hb04) (h2.below hb04) (h3.below hb04)).mono ?_
      rintro e w5 ⟨rfl, hb5⟩
      obtain ⟨r0, r1, r2, r3, hs5⟩ := box_keep s0 s1 s2 s3 hs4' hb5
      have hb05 := hb04.trans (hb5.mono hb04.size)
      clear s0 s1 s2 s3 hb04 hb5
      cases hR : rightB x with
      | false =>
        clear hR
        go_wp2_with fail
        go_ret
        exact ⟨rfl, hb05⟩
      | true =>
        by_cases h16 : label.toNat < 16
        · have t1 : decide ((15 : Int) < (label.toNat : Int)) = false := by simp; omega
          by_cases hk : kid.toNat = 0
          · have t2 : ((kid.toNat : Int) == 0) = true := by rw [hk]; rfl
            clear hk hR
            go_wp2_with fail
            go_ret
            exact ⟨rfl, hb05⟩
          · have t2 : ((kid.toNat : Int) == 0) = false := by rw [beq_eq_false_iff_ne]; omega
            have hh : hasL x.labels label = true := by
              cases hq : hasL x.labels label with
              | true => rfl
              | false => rw [(withOk_iff x label kid).2 ⟨hR, h16, hk, hq⟩] at HOK; exact absurd HOK.out (by decide)
            obtain ⟨i, hi, hil⟩ := findL_some _ _ hh
            have hfi := findR_any (.slice A1 n1 c1) (.int .u64 (x.val.toNat : Int)) (.slice A3 n3 c3) A2 n2 c2 x.labels label w5 (by omega) (h2.below hb05)
            rw [placeOf_some _ _ _ hi] at hfi
            have HFI := Lib.hid hfi
            have t3 : decide ((0 : Int) ≤ (i : Int)) = true := by simp
            clear hfi hh hi hk hR HOK
            go_wp2_with fail
            refine HFI.out.mono ?_
            rintro e w6 ⟨rfl, hb6⟩
            have hb06 := hb05.trans (hb6.mono hb05.size)
            clear HFI r0 r1 r2 r3
            go_wp2_with fail
            go_ret
            exact ⟨rfl, hb06⟩
        · have t1 : decide ((15 : Int) < (label.toNat : Int)) = true := by simp; omega
          clear hR
          go_wp2_with fail
          go_ret
          exact ⟨rfl, hb05⟩
    | true =>
      refine (with_yes A1 A2 A3 n1 c1 n2 c2 n3 c3 x label kid w2 (by omega) (by omega) (by omega) (h1.below hb02) (h2.below hb02) (h3.below hb02) hok).mono ?_
      rintro e w3 ⟨⟨B1, d1, B2, d2, B3, d3, rfl, k1, k2, k3⟩, hb3⟩
      obtain ⟨r0, r1, r2, r3, hs3⟩ := box_keep q0 q1 q2 q3 hs2 hb3
      have hb03 := hb02.trans (hb3.mono hb02.size)
      have F := with_facts x label kid hok
      have l1 := h1.len
      have l2 := h2.len
      have l3 := h3.len
      have hlk := ((rightB_iff x).1 ((withOk_iff x label kid).1 hok).1).2.2.1
      clear q0 q1 q2 q3 hb02 hb3 hok
      obtain ⟨y, hy⟩ : ∃ y, withN x label kid = y := ⟨_, rfl⟩
      obtain ⟨p, hp⟩ : ∃ p, placeS x.labels label = p := ⟨_, rfl⟩
      obtain ⟨g1, g2, g3, g4, g5, g6, g7, g8, g9⟩ := F
      have ypre : y.pre.length = n1 := by rw [← hy, ← l1]; rfl
      have yval : y.val = x.val := by rw [← hy]; rfl
      rw [hy] at k1 k2 k3 g1 g3 g4 g5 g6 g7 g8 g9 ⊢
      rw [hp] at g2 g5 g6 g7 g8
      clear hy hp
      rw [ypre] at k1 ⊢
      rw [g3, l2] at k2 ⊢
      rw [g4, l3] at k3 ⊢
      rw [yval]
      rw [l2] at g2
      have hkv := kidV_at? y g1 p label kid g5 g6
      obtain ⟨u1, u2, u3⟩ := posN_facts y g1 p (by omega)
      have hep := enc_pos y g1 p (by omega)
      have hy6 : y.kids[p]'(by omega) = kid := by rw [List.getElem?_eq_getElem (by omega)] at g6; injection g6
      rw [hy6] at hep
      have HOLD := Lib.hid g9
      have HG1 := Lib.hid g1
      have HG7 := Lib.hid g7
      have HG8 := Lib.hid g8
      have HKV := Lib.hid hkv
      have HEP := Lib.hid hep
      have HYV := Lib.hid yval
      have HYP := Lib.hid ypre
      have HG3 := Lib.hid g3
      have HG4 := Lib.hid g4
      have HL1 := Lib.hid l1
      have HL2 := Lib.hid l2
      have HL3 := Lib.hid l3
      have HLK := Lib.hid hlk
      clear g1 g3 g4 g5 g6 g7 g8 g9 hkv hep hy6 yval ypre u3 l1 l2 l3 hlk
      go_wp2_with fail
      obtain ⟨W4, hW4, a0, a1, a2, a3, hb4, hs4⟩ := box4 w3 44 (.slice B1 n1 d1) (.int .u64 (x.val.toNat : Int)) (.slice B2 (n2 + 1) d2) (.slice B3 (n3 + 1) d3)
      rw [← hW4]
      obtain ⟨s0, s1, s2, s3, hs4'⟩ := box_keep r0 r1 r2 r3 hs3 hb4
      have hb04 := hb03.trans (hb4.mono hb03.size)
      replace k1 := k1.below hb4
      replace k2 := k2.below hb4
      replace k3 := k3.below hb4
      clear r0 r1 r2 r3 hb03 hb4 hW4
      -- the one below that was put in
      have hki := kid_node B1 B2 B3 n1 d1 (n2 + 1) d2 (n3 + 1) d3 y label W4 (by omega) (by omega) (by omega) k1 k2 k3
      rw [HYV.out, HKV.out] at hki
      refine hki.mono ?_
      rintro e w5 ⟨rfl, hb5⟩
      obtain ⟨r0, r1, r2, r3, hs5⟩ := box_keep s0 s1 s2 s3 hs4' hb5
      obtain ⟨c0, c1', c2', c3', hs5'⟩ := box_keep a0 a1 a2 a3 (by omega) hb5
      have hb05 := hb04.trans (hb5.mono hb04.size)
      replace k1 := k1.below hb5
      replace k2 := k2.below hb5
      replace k3 := k3.below hb5
      clear s0 s1 s2 s3 a0 a1 a2 a3 hb04 hb5 hki
      go_wp2_with fail
      have hen := encode_node B1 B2 B3 n1 d1 (n2 + 1) d2 (n3 + 1) d3 y w5 (by omega) (by omega) (by omega) k1 k2 k3
      rw [HYV.out] at hen
      refine hen.mono ?_
      rintro e w6 ⟨hb6, hE⟩
      rw [HG1.out, if_pos rfl] at hE
      obtain ⟨v5, rfl, ho5⟩ := hE
      obtain ⟨A5, c5, rfl, hc5, hr5⟩ := rd_of_own ho5
      have g5 : Ws w6 A5 (encW y).length (encW y) := hr5
      obtain ⟨s0, s1, s2, s3, hs6⟩ := box_keep r0 r1 r2 r3 hs5 hb6
      obtain ⟨a0, a1, a2, a3, hs6'⟩ := box_keep c0 c1' c2' c3' hs5' hb6
      have hb06 := hb05.trans (hb6.mono hb05.size)
      replace k1 := k1.below hb6
      replace k2 := k2.below hb6
      replace k3 := k3.below hb6
      clear r0 r1 r2 r3 c0 c1' c2' c3' hb05 hb6 hen ho5 hr5
      go_wp2_with fail
      have hwo := without_yes B1 B2 B3 n1 d1 (n2 + 1) d2 (n3 + 1) d3 y label p w6 (by omega) (by omega) (by omega) k1 k2 k3 HG7.out HG1.out
      rw [HYV.out, HG8.out] at hwo
      refine hwo.mono ?_
      rintro e w7 ⟨⟨E1, e1, E2, e2, E3, e3, rfl, j1, j2, j3⟩, hb7⟩
      obtain ⟨r0, r1, r2, r3, hs7⟩ := box_keep s0 s1 s2 s3 hs6 hb7
      obtain ⟨c0, c1', c2', c3', hs7'⟩ := box_keep a0 a1 a2 a3 hs6' hb7
      have hb07 := hb06.trans (hb7.mono hb06.size)
      replace k1 := k1.below hb7
      replace k2 := k2.below hb7
      replace k3 := k3.below hb7
      replace g5 := g5.below hb7
      clear s0 s1 s2 s3 a0 a1 a2 a3 hb06 hb7 hwo
      rw [HL1.out] at j1 ⊢
      rw [HL2.out] at j2 ⊢
      rw [HL3.out] at j3 ⊢
      obtain ⟨W8, hW8, a0, a1, a2, a3, hb8, hs8⟩ := box4 w7 44 (.slice E1 n1 e1) (.int .u64 (x.val.toNat : Int)) (.slice E2 n2 e2) (.slice E3 n3 e3)
      obtain ⟨s0, s1, s2, s3, hs8'⟩ := box_keep r0 r1 r2 r3 hs7 hb8
      obtain ⟨z0, z1, z2, z3, hs8''⟩ := box_keep c0 c1' c2' c3' hs7' hb8
      have hb08 := hb07.trans (hb8.mono hb07.size)
      replace k1 := k1.below hb8
      replace k2 := k2.below hb8
      replace k3 := k3.below hb8
      replace g5 := g5.below hb8
      replace j1 := j1.below hb8
      replace j2 := j2.below hb8
      replace j3 := j3.below hb8
      have hsm := same_true E1 E2 E3 A1 A2 A3 n1 e1 n2 e2 n3 e3 n1 c1 n2 c2 n3 c3 x W8 (by omega) j1 j2 j3 (h1.below hb08) (h2.below hb08) (h3.below hb08)
      have HSM := Lib.hid hsm
      obtain ⟨hq5, b5, o5, rfl, _, hcq⟩ := g5.at u2
      have hcv : (encW y)[posN y p] = kid := by
        have := HEP.out
        rw [List.getElem?_eq_getElem hq5] at this
        injection this
      rw [hcv] at hcq
      clear r0 r1 r2 r3 c0 c1' c2' c3' hb07 hb8 g5 j1 j2 j3 hsm hcv
      generalize (encW y).length = L at *
      generalize posN y p = q at *
      have t1 : ((kid.toNat : Int) != (kid.toNat : Int)) = false := by simp
      have t2 : decide ((q : Int) < 0) = false := by simp
      have t3 : decide ((L : Int) ≤ (q : Int)) = false := by simp; omega
      have t4 : ((n3 : Int) + 1 != (n3 : Int) + 1) = false := by simp
      have t5 : decide (L ≤ q) = false := by simp; omega
      have HW8 := Lib.hid hW8
      rw [hW8] at s0 s1 s2 s3 z0 z1 z2 z3 a0 a1 a2 a3 hcq
      clear hW8
      go_wp2_with fail
      rw [← HW8.out] at s0 s1 s2 s3 z0 z1 z2 z3 a0 a1 a2 a3 hcq ⊢
      refine HSM.out.mono ?_
      rintro e w9 ⟨rfl, hb9⟩
      clear HSM HW8 HEP HKV a0 a1 a2 a3 hcq
      obtain ⟨r0, r1, r2, r3, hs9⟩ := box_keep s0 s1 s2 s3 hs8' hb9
      obtain ⟨c0, c1', c2', c3', hs9'⟩ := box_keep z0 z1 z2 z3 hs8'' hb9
      have hb09 := hb08.trans (hb9.mono hb08.size)
      replace k1 := k1.below hb9
      replace k2 := k2.below hb9
      replace k3 := k3.below hb9
      clear s0 s1 s2 s3 z0 z1 z2 z3 hb08 hb9
      go_wp2_with fail
      clear t1 t2 t3 t4 t5
      go_loopw [122] (fun i wr => ∃ k : Nat, k ≤ n2 ∧ i = .int .i64 k ∧ Below w9.heap.size w9 wr) (fun i _ => n2 - (intOf i).toNat)
      case atStart => exact ⟨0, Nat.zero_le _, rfl, Below.refl _ _⟩
      case round =>
        obtain ⟨k, hk, rfl, hbr⟩ := hrel
        obtain ⟨s0, s1, s2, s3, hsr⟩ := box_keep r0 r1 r2 r3 hs9 hbr
        obtain ⟨z0, z1, z2, z3, hsr'⟩ := box_keep c0 c1' c2' c3' hs9' hbr
        have hb0r := hb09.trans (hbr.mono hb09.size)
        clear r0 r1 r2 r3 c0 c1' c2' c3'
        by_cases hlt : k < n2
        · obtain ⟨hq2, b2, o2, rfl, _, hc2⟩ := (h2.below hb0r).at hlt
          have hk3 : k < n3 := by have := HLK.out; have := HL2.out; have := HL3.out; omega
          obtain ⟨hq3, b3, o3, rfl, _, _⟩ := (h3.below hb0r).at hk3
          obtain ⟨j, hj, hjl, hjk⟩ := HOLD.out k hq2 hq3
          have hki := kid_node B1 B2 B3 n1 d1 (n2 + 1) d2 (n3 + 1) d3 y x.labels[k] wr (by omega) (by omega) (by omega) (k1.below hbr) (k2.below hbr) (k3.below hbr)
          rw [HYV.out, kidV_at? y HG1.out j _ _ hjl hjk] at hki
          have HKI := Lib.hid hki
          clear hki hjl hjk
          generalize posN y j = pj at *
          go_wp2_with fail
          refine HKI.out.mono ?_
          rintro e wk ⟨rfl, hbk⟩
          obtain ⟨r0, r1, r2, r3, _⟩ := box_keep s0 s1 s2 s3 hsr hbk
          have hb0k := hb0r.trans (hbk.mono hb0r.size)
          obtain ⟨_, b3', o3', e3', _, hc3⟩ := (h3.below hb0k).at hk3
          obtain ⟨rfl, rfl⟩ : b3 = b3' ∧ o3 = o3' := by simpa using e3'
          have t1 : ((x.kids[k].toNat : Int) != (x.kids[k].toNat : Int)) = false := by simp
          clear HKI s0 s1 s2 s3 e3' hc2
          go_wp2_with fail
          go_roundw
          case rel => exact ⟨k + 1, by omega, by go_num, hbr.trans (hbk.mono hbr.size)⟩
          case measure => simp [intOf]; omega
        · go_wp2_with fail
          go_ret
          exact ⟨rfl, hb0r⟩

end Go.Proofs.Ytaamkdejediccaa
