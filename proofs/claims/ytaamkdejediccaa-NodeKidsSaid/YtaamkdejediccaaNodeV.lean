/- The law NodeSizes of layer 9, as a walk. -/
import Derived.Test.YtaamkdejediccaaNodeK
import Derived.Test.YtaamkdejediccaaNodeU
import Derived.Maps.OwnSet
import Derived.BigQuiet
namespace Go.Proofs.Ytaamkdejediccaa
open Go.RowKit Go.Maps

theorem Try.intKey : Keyed Try.prog 3 := int_keyed Try.underlying3
theorem Try.intZero (w : World) : (zeroValue 3).run Try.prog w = .ok (.int .i64 0) w := by kernel_rfl

theorem own_map_below {w w' : World} {P : Program} {k : TypeId} {R : Value → Option (DataW Unit × List MemPlace)} {b n : Nat} {D : DataW Unit} (h : w.ownsMap P k R b n D) (hb : Below w.heap.size w w') : w'.ownsMap P k R b n D := by
  have hlt := h.lt
  obtain ⟨es, clock, h1, h2⟩ := h
  exact ⟨es, clock, (hb.block b hlt).trans h1, h2⟩

theorem kidV_at (x : Nd) (h : rightB x = true) (i : Nat) (hi : i < x.labels.length) (hk : i < x.kids.length) : kidV x x.labels[i] = .tuple #[.int .u64 (x.kids[i].toNat : Int), .int .i64 (posN x i : Int), .bool true] := by
  obtain ⟨h1, h2, h3, h4, h5, h6⟩ := (rightB_iff x).1 h
  rw [kidV, find_label _ h5 i hi]
  simp only [h, if_true]
  rw [List.getD, List.getElem?_eq_getElem hk, Option.getD_some, posN, List.getD, List.getElem?_eq_getElem hi, Option.getD_some]
  congr 3
  split <;> simp

set_option maxHeartbeats 4000000 in
theorem nodeSizes_law (A1 A2 A3 : Option Addr) (n1 c1 n2 c2 n3 c3 : Nat) (x : Nd) (w : World) (m1 : n1 ≤ maxLen) (m2 : n2 ≤ maxLen) (m3 : n3 ≤ maxLen) (h1 : Bs w A1 n1 x.pre) (h2 : Bs w A2 n2 x.labels) (h3 : Ws w A3 n3 x.kids) :
    Calls Try.prog 10 #[.agg #[.slice A1 n1 c1, .int .u64 (x.val.toNat : Int), .slice A2 n2 c2, .slice A3 n3 c3]] w fun e w' => e = .returned (.bool true) ∧ Below w.heap.size w w' := by
  obtain ⟨W, hW, e0, e1, e2, e3, hb, hs⟩ := box4 w 40 (.slice A1 n1 c1) (.int .u64 (x.val.toNat : Int)) (.slice A2 n2 c2) (.slice A3 n3 c3)
  have HW := Lib.hid hW
  clear hW
  have hmm := @run_makeMap Try.prog
  go_enter Try.func10, Try.ntmps10
  go_wp2_with fail
  rw [← HW.out]
  refine (alive9_any W).mono ?_
  rintro e w1 ⟨rfl, hb1⟩
  obtain ⟨p0, p1, p2, p3, hs1⟩ := box_keep e0 e1 e2 e3 (by omega) hb1
  have hb01 := hb.trans (hb1.mono hb.size)
  clear e0 e1 e2 e3 hb1 HW
  go_wp2_with fail
  have hfw := few_any A1 A2 A3 n1 c1 n2 c2 n3 c3 (.int .u64 (x.val.toNat : Int)) w1 m1 m2 m3
  refine hfw.mono ?_
  rintro e w2 ⟨rfl, hb2⟩
  obtain ⟨q0, q1, q2, q3, hs2⟩ := box_keep p0 p1 p2 p3 hs1 hb2
  have hb02 := hb01.trans (hb2.mono hb01.size)
  clear p0 p1 p2 p3 hb01 hb2 hfw
  cases hf : decide (n1 ≤ 200) && decide (n2 ≤ 200) && decide (n3 ≤ 200) with
  | false =>
    clear hf
    go_wp2_with fail
    go_ret
    exact ⟨rfl, hb02⟩
  | true =>
    simp only [Bool.and_eq_true, decide_eq_true_eq] at hf
    obtain ⟨⟨f1, f2⟩, f3⟩ := hf
    go_wp2_with fail
    have hen := encode_node A1 A2 A3 n1 c1 n2 c2 n3 c3 x w2 (by omega) (by omega) (by omega) (h1.below hb02) (h2.below hb02) (h3.below hb02)
    refine hen.mono ?_
    rintro e w3 ⟨hb3, hE⟩
    clear hen
    obtain ⟨r0, r1, r2, r3, hs3⟩ := box_keep q0 q1 q2 q3 hs2 hb3
    have hb03 := hb02.trans (hb3.mono hb02.size)
    clear q0 q1 q2 q3 hb02 hb3
    cases hR : rightB x with
    | false =>
      rw [hR] at hE
      subst hE
      go_wp2_with fail
      have hri := right_node A1 A2 A3 n1 c1 n2 c2 n3 c3 x w3 (by omega) (by omega) (by omega) (h1.below hb03) (h2.below hb03) (h3.below hb03)
      rw [hR] at hri
      refine hri.mono ?_
      rintro e w4 ⟨rfl, hb4⟩
      have hb04 := hb03.trans (hb4.mono hb03.size)
      clear hri r0 r1 r2 r3 hR
      go_wp2_with fail
      go_ret
      exact ⟨rfl, hb04⟩
    | true =>
      rw [hR, if_pos rfl] at hE
      obtain ⟨v5, rfl, ho5⟩ := hE
      obtain ⟨A5, c5, rfl, hc5, hr5⟩ := rd_of_own ho5
      have g5 : Ws w3 A5 (encW x).length (encW x) := hr5
      obtain ⟨j1, j2, j3, j4, j5, j6⟩ := (rightB_iff x).1 hR
      have l2 := h2.len
      have l3 := h3.len
      have n23 : n2 = n3 := by omega
      subst n23
      have h16 := labels_le _ j5 j4
      have hP : ∀ i (hl : i < x.labels.length) (hk : i < x.kids.length), kidV x x.labels[i] = .tuple #[.int .u64 (x.kids[i].toNat : Int), .int .i64 (posN x i : Int), .bool true] ∧ 4 ≤ posN x i ∧ posN x i < (encW x).length ∧ (encW x)[posN x i]? = some x.kids[i] ∧ ∀ j, j < i → posN x j ≠ posN x i := fun i hl hk => by
        obtain ⟨u1, u2, u3⟩ := posN_facts x hR i hk
        exact ⟨kidV_at x hR i hl hk, u1, u2, enc_pos x hR i hk, u3⟩
      have hl5 := encW_length x
      have hv2 := encW_at2 x
      obtain ⟨u, hu, hu0⟩ := enc_zero x hR
      have HP := Lib.hid hP
      clear hP j1 j2 j3 j4 j5 j6 hR ho5 hr5
      generalize posN x = q at *
      generalize encW x = L at *
      rw [l3] at hl5 hu0
      have hL32 : L.length ≤ 32 := by rw [hl5]; split <;> omega
      have h016 : n2 ≤ 16 := by omega
      clear h16 l2 l3
      by_cases h4 : n2 ≤ 4
      case' pos =>
        rw [if_pos h4] at hl5 hu0
        have t4 : decide ((n2 : Int) > 4) = false := by simp; omega
        have t4' : decide ((4 : Int) < n2) = false := by simp; omega
        have HL5 := Lib.hid hl5
        have HU0 := Lib.hid hu0
        clear hl5 hu0
        go_wp2_with fail
      case' neg =>
        rw [if_neg h4] at hl5 hu0
        have t4 : decide ((n2 : Int) > 4) = true := by simp; omega
        have t4' : decide ((4 : Int) < n2) = true := by simp; omega
        have HL5 := Lib.hid hl5
        have HU0 := Lib.hid hu0
        clear hl5 hu0
        go_wp2_with fail
      all_goals
        clear t4 t4'
        go_loopw [40] (fun i wr => ∃ k : Nat, k ≤ n2 ∧ i = .int .i64 k ∧ (∃ D, wr.ownsMap Try.prog 3 (plainElem (H := Unit) Try.prog 3) w3.heap.size k D ∧ Maps.size D = k ∧ ∀ p : Nat, Maps.has D (.int .i64 (p : Int)) = true → ∃ j, j < k ∧ p = q j) ∧ Below w3.heap.size w3 wr) (fun i _ => n2 - (intOf i).toNat)
        case atStart => exact ⟨0, Nat.zero_le _, rfl, ⟨_, World.ownsMap_made _ _ _ _, rfl, fun p hp => by cases hp⟩, (Below.refl _ _).alloc (Nat.le_refl _) _⟩
        case round =>
          obtain ⟨k, hk, rfl, ⟨D, hown, hsz, hhas⟩, hbr⟩ := hrel
          obtain ⟨s0, s1, s2, s3, _⟩ := box_keepB r0 r1 r2 r3 hs3 hbr
          have hb0r := hb03.trans (hbr.mono hb03.size)
          have hsr : w.heap.size < wr.heap.size := Nat.lt_of_lt_of_le hs3 hbr.size
          clear r0 r1 r2 r3
          by_cases hlt : k < n2
          · obtain ⟨hq2, b2, o2, rfl, _, hc2⟩ := (h2.below hb0r).at hlt
            obtain ⟨hq3, b3, o3, rfl, _, _⟩ := (h3.below hb0r).at (show k < n2 by omega)
            obtain ⟨k1, k2, k3, k4, k5⟩ := HP.out k hq2 hq3
            have hki := kid_node A1 (some ⟨b2, o2, none⟩) (some ⟨b3, o3, none⟩) n1 c1 n2 c2 n2 c3 x x.labels[k] wr (by omega) (by omega) (by omega) (h1.below hb0r) (h2.below hb0r) (h3.below hb0r)
            rw [k1] at hki
            have HKI := Lib.hid hki
            have HOWN := Lib.hid hown
            clear hki k1 hown
            go_wp2_with fail
            refine HKI.out.mono ?_
            rintro e wk ⟨rfl, hbk⟩
            obtain ⟨r0, r1, r2, r3, _⟩ := box_keep s0 s1 s2 s3 hsr hbk
            have hb0k := hb0r.trans (hbk.mono hb0r.size)
            obtain ⟨_, b3', o3', e3', _, hc3⟩ := (h3.below hb0k).at (show k < n2 by omega)
            obtain ⟨rfl, rfl⟩ : b3 = b3' ∧ o3 = o3' := by simpa using e3'
            have g5' := (g5.below hbr).below hbk
            obtain ⟨hq5, b5, o5, rfl, _, hc5'⟩ := g5'.at k3
            have ev : L[q k] = x.kids[k] := by rw [List.getElem?_eq_getElem hq5] at k4; injection k4
            rw [ev] at hc5'
            have t1 : ((x.kids[k].toNat : Int) != (x.kids[k].toNat : Int)) = false := by simp
            have t2 : decide ((q k : Int) < 4) = false := by simp; omega
            have t3 : decide ((q k : Int) ≥ (L.length : Int)) = false := by simp; omega
            have t3' : decide ((L.length : Int) ≤ (q k : Int)) = false := by simp; omega
            have HQ := Lib.hid k5
            have HHAS := Lib.hid hhas
            have HSZ := Lib.hid hsz
            have hwf : (Lit.int .i64 (q k : Int)).wf = true := WalkArith.wf_i64 (by omega)
            have hkey : keyOf Try.prog 3 (.int .i64 (q k : Int)) = some (.int .i64 (q k : Int)) := keyOf_int_mk Try.underlying3 hwf
            have hownk := own_map_below HOWN.out hbk
            clear HKI s0 s1 s2 s3 k4 k5 ev hhas hsz hwf e3' g5'
            go_wp2_with (first
              | (at_lookup; refine wpList_lookup_own_int _ rfl _ _ 53 rfl 3 3 .i64 Try.intKey Try.underlying53 Try.underlying3 (Try.intZero _) w3.heap.size k _ rfl hownk _ _ rfl hkey ?_; intro c hat hwc)
              | (at_mapUpdate; refine wpList_mapUpdate_own _ rfl _ _ _ 53 rfl 3 3 Try.intKey Try.underlying53 _ w3.heap.size k _ rfl hownk (by unfold maxLen; omega) _ _ _ rfl rfl hkey _ [] (plainElem_int Try.underlying3 (wrap64_wf _)) ?_; intro wu hownu hgrow)
              | fail)
            go_roundw
            case rel =>
              have hne : Maps.has D (.int .i64 (q k : Int)) = false := by
                cases hh : Maps.has D (.int .i64 (q k : Int)) with
                | false => rfl
                | true =>
                  obtain ⟨j, hj, e⟩ := HHAS.out (q k) hh
                  exact absurd e.symm (HQ.out j hj)
              refine ⟨k + 1, by omega, by go_num, ⟨_, hownu, ?_, fun p hp => ?_⟩, (hbr.trans (hbk.mono hbr.size)).grown hgrow (Nat.le_trans hbr.size hbk.size) (fun k h => by cases h; exact Nat.le_refl _)⟩
              · rw [size_put (hownk.tidy Try.intKey), hne, HSZ.out]; rfl
              · by_cases hpq : p = q k
                · exact ⟨k, by omega, hpq⟩
                · rw [has_put_other (by intro e; injection e with _ e; omega)] at hp
                  obtain ⟨j, hj, e⟩ := HHAS.out p hp
                  exact ⟨j, by omega, e⟩
            case measure => simp [intOf]; omega
          · have hkn : k = n2 := by omega
            subst hkn
            obtain ⟨hq2, b5, o5, rfl, _, hc2⟩ := (g5.below hbr).at (show 2 < L.length by rw [HL5.out]; decide)
            have hq0 : 0 < L.length := by omega
            have hc0 := Ws.cellAt (g5.below hbr) hq0 hq0
            have ev2 : L[2] = x.val := by rw [List.getElem?_eq_getElem hq2] at hv2; injection hv2
            have ev0 : L[0] = u := by rw [List.getElem?_eq_getElem hq0] at hu; injection hu
            rw [ev2] at hc2
            rw [ev0, HU0.out] at hc0
            simp only [Nat.add_zero] at hc0
            have hlm : ∀ j, (Builtin.len_ #[53] 3 #[.map (some w3.heap.size)]).run Try.prog (wr.drewN j) = .ok (.int .i64 (k : Int)) (wr.drewN j) := fun j => by
              have := World.ownsMap.len (w := wr.drewN j) hown Try.underlying53 3
              rw [hsz] at this
              exact this
            have hw1 : ∀ W, Calls Try.prog 32 #[.int .i64 1] W fun e w' => e = .returned (.int .i64 8) ∧ w' = W := fun W => (words_any 1 W).mono fun e w' h => ⟨h.1, h.2.symm⟩
            have hw2 : ∀ W, Calls Try.prog 32 #[.int .i64 2] W fun e w' => e = .returned (.int .i64 32) ∧ w' = W := fun W => (words_any 2 W).mono fun e w' h => ⟨h.1, h.2.symm⟩
            have HW1 := Lib.hid hw1
            have HW2 := Lib.hid hw2
            first
              | (have t5 : ((L.length : Int) == 8) = true := by (rw [HL5.out]; rfl))
              | (have t5 : ((L.length : Int) == 32) = true := by (rw [HL5.out]; rfl))
            have t6 : ((k : Int) == (k : Int)) = true := by simp
            have t7 : ((x.val.toNat : Int) == (x.val.toNat : Int)) = true := by simp
            have d2 : decide (2 < L.length) = true := decide_eq_true hq2
            have d0 : decide (0 < L.length) = true := decide_eq_true hq0
            clear hv2 hu ev2 ev0 hown hhas hsz hw1 hw2
            go_wp2
            go_quiet ((first | (go_at_call_of 32 (Value.int IntKind.i64 1); exact Calls.quiet_of_same (HW1.out _)) | (go_at_call_of 32 (Value.int IntKind.i64 2); exact Calls.quiet_of_same (HW2.out _))))
            go_wp2
            go_ret
            exact ⟨rfl, hb0r.os, hb0r.tape, hb0r.output, hb0r.size, hb0r.block⟩

end Go.Proofs.Ytaamkdejediccaa
