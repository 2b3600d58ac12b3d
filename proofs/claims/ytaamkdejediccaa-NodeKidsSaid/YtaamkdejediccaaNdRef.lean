/- Walks of the reference of layer 9: Class, Right, Kid. -/
import Derived.Test.YtaamkdejediccaaNdFind
import Derived.BigQuiet
namespace Go.Proofs.Ytaamkdejediccaa
open Go.RowKit

theorem classR_any (v1 v2 v3 : Value) (A3 : Option Addr) (n3 c3 : Nat) (w : World) (hn : n3 ≤ 4294967296) :
    Calls Try.prog 52 #[.agg #[v1, v2, v3, .slice A3 n3 c3]] w fun e w' => e = .returned (.int .i64 (if n3 ≤ 4 then 1 else 2)) ∧ Below w.heap.size w w' := by
  by_cases h4 : n3 ≤ 4
  · rw [if_pos h4]
    go_enter Try.func52, Try.ntmps52
    go_wp2
    go_ret
    exact ⟨rfl, (Below.refl _ _).alloc (Nat.le_refl _) _⟩
  · rw [if_neg h4]
    go_enter Try.func52, Try.ntmps52
    go_wp2
    go_ret
    exact ⟨rfl, (Below.refl _ _).alloc (Nat.le_refl _) _⟩

theorem right_no_kid (x : Nd) (k : Nat) (hk : k < x.kids.length) (h : x.kids[k].toNat = 0) : rightB x = false := by
  cases hr : rightB x with
  | false => rfl
  | true => exact absurd h (((rightB_iff x).1 hr).2.2.2.2.2 k hk)

theorem right_all (x : Nd) (h1 : x.pre.length ≤ 15) (h2 : x.pre.all isNib = true) (h3 : x.labels.length = x.kids.length) (h4 : x.labels.all isNib = true) (h5 : risingB x.labels = true) (h6 : ∀ i (h : i < x.kids.length), x.kids[i].toNat ≠ 0) : rightB x = true :=
  (rightB_iff x).2 ⟨h1, h2, h3, h4, h5, h6⟩

set_option maxHeartbeats 2000000 in
theorem rightR_any (A1 A2 A3 : Option Addr) (n1 c1 n2 c2 n3 c3 : Nat) (x : Nd) (w : World) (b1 : n1 ≤ 1000000) (b2 : n2 ≤ 1000000) (b3 : n3 ≤ 1000000) (h1 : Bs w A1 n1 x.pre) (h2 : Bs w A2 n2 x.labels) (h3 : Ws w A3 n3 x.kids) :
    Calls Try.prog 51 #[.agg #[.slice A1 n1 c1, .int .u64 (x.val.toNat : Int), .slice A2 n2 c2, .slice A3 n3 c3]] w fun e w' => e = .returned (.bool (rightB x)) ∧ Below w.heap.size w w' := by
  have hl1 := h1.len
  have hl2 := h2.len
  have hl3 := h3.len
  obtain ⟨W, hW, e0, e1, e2, e3, hb, hs⟩ := box4 w 40 (.slice A1 n1 c1) (.int .u64 (x.val.toNat : Int)) (.slice A2 n2 c2) (.slice A3 n3 c3)
  have g1 := h1.below hb
  have g2 := h2.below hb
  have g3 := h3.below hb
  have HW := Lib.hid hW
  clear hW
  by_cases hp : n1 ≤ 15 ∧ x.pre.all isNib = true
  · have hpk := packR_any A1 n1 c1 x.pre W hp.1 g1
    rw [packV, if_pos hp.2] at hpk
    have HPK := Lib.hid hpk
    clear hpk
    by_cases hl : n2 = n3
    · subst hl
      have t1 : ((n2 : Int) != (n2 : Int)) = false := by simp
      go_enter Try.func51, Try.ntmps51
      go_wp2_with fail
      rw [← HW.out]
      refine HPK.out.mono ?_
      rintro e w' ⟨rfl, rfl⟩
      clear HPK h1 h2 h3
      go_wp2_with fail
      go_loopw [5] (fun i wr => ∃ k : Nat, k ≤ n2 ∧ i = .int .i64 k ∧ (x.labels.take k).all isNib = true ∧ risingB (x.labels.take k) = true ∧ (∀ i (h : i < x.kids.length), i < k → x.kids[i].toNat ≠ 0) ∧ Dr W wr) (fun i _ => n2 - (intOf i).toNat)
      case atStart => exact ⟨0, Nat.zero_le _, rfl, by simp, by simp [risingB], fun i _ h => absurd h (Nat.not_lt_zero _), Dr.refl _⟩
      case round =>
        obtain ⟨k, hk, rfl, hall, hris, hnz, hdr⟩ := hrel
        have hbr := hb.trans (hdr.below _)
        obtain ⟨p0, p1, p2, p3, _⟩ := box_keepB e0 e1 e2 e3 (show w.heap.size < W.heap.size by omega) (hdr.below _)
        have r2 := g2.below (hdr.below _)
        have r3 := g3.below (hdr.below _)
        have HD := Lib.hid hdr
        have HNZ := Lib.hid hnz
        clear hdr hnz
        by_cases hlt : k < n2
        · obtain ⟨hq, p, off, rfl, hp2, hc⟩ := r2.at hlt
          obtain ⟨hq3, p', off', rfl, hp3, hc3⟩ := r3.at hlt
          have i0 : (k : Int) < (n2 : Int) := by omega
          have i1 : (0 : Int) ≤ (k : Int) := by omega
          by_cases h16 : x.labels[k].toNat < 16
          · have t2 : decide ((15 : Int) < (x.labels[k].toNat : Int)) = false := by simp; omega
            by_cases hz : x.kids[k].toNat = 0
            · have t3 : ((x.kids[k].toNat : Int) == 0) = true := by rw [hz]; rfl
              have HF := Lib.hid (right_no_kid x k hq3 hz)
              clear hall hris hz
              go_wp2
              go_quiet (fail)
              go_wp2
              go_ret
              exact ⟨by rw [HF.out]; rfl, hbr.os, hbr.tape, hbr.output, hbr.size, hbr.block⟩
            · have t3 : ((x.kids[k].toNat : Int) == 0) = false := by rw [beq_eq_false_iff_ne]; omega
              have HA := Lib.hid (all_take_succ isNib x.labels k hq hall (isNib_yes h16))
              have HNZ' : Hid (∀ i (h : i < x.kids.length), i < k + 1 → x.kids[i].toNat ≠ 0) := Lib.hid (fun i h hi => by
                rcases Nat.lt_or_ge i k with h' | h'
                · exact HNZ.out i h h'
                · obtain rfl : i = k := by omega
                  exact hz)
              clear hz
              rcases k with _ | j
              · have HS := Lib.hid (rising_take_succ x.labels 0 hq hris (fun j hj => by omega))
                have t4 : decide ((0 : Int) < 0) = false := rfl
                clear hall hris
                rw [show ((0 : Nat) : Int) = 0 from rfl]
                simp only [Nat.add_zero] at hc hc3
                go_wp2
                go_quiet (fail)
                go_wp2
                go_roundw
                case rel => exact ⟨1, by omega, by go_num, HA.out, HS.out, HNZ'.out, HD.out.trans ⟨_, rfl⟩⟩
                case measure => simp [intOf]; omega
              · obtain ⟨hq', p'', off'', e', hp2', hc'⟩ := r2.at (show j < n2 by omega)
                injection e' with e'
                injection e' with e1' e2' e3'
                subst e1' e2'
                have t4 : decide ((0 : Int) < (j : Int) + 1) = true := decide_eq_true (by omega)
                have w1 : IntKind.i64.wrap ((j : Int) + 1 - 1) = (j : Int) := by rw [IntKind.wrap_i64]; omega
                have w2 : (j : Int) + 1 - 1 = (j : Int) := by omega
                have w3 : (0 : Int) ≤ (j : Int) := by omega
                have w4 : (j : Int) < (n2 : Int) := by omega
                by_cases hr : x.labels[j].toNat < x.labels[j + 1].toNat
                · have t5 : decide ((x.labels[j + 1].toNat : Int) ≤ (x.labels[j].toNat : Int)) = false := by simp; omega
                  have HS := Lib.hid (rising_step x.labels j hq hris hr)
                  clear hall hris e3'
                  go_wp2
                  go_quiet (fail)
                  go_wp2
                  go_roundw
                  case rel => exact ⟨j + 1 + 1, by omega, by go_num, HA.out, HS.out, HNZ'.out, HD.out.trans ⟨_, rfl⟩⟩
                  case measure => simp [intOf]; omega
                · have t5 : decide ((x.labels[j + 1].toNat : Int) ≤ (x.labels[j].toNat : Int)) = true := by simp; omega
                  have HF := Lib.hid (right_no_rise x j hq hr)
                  clear hall hris e3'
                  go_wp2
                  go_quiet (fail)
                  go_wp2
                  go_ret
                  exact ⟨by rw [HF.out]; rfl, hbr.os, hbr.tape, hbr.output, hbr.size, hbr.block⟩
          · have t2 : decide ((15 : Int) < (x.labels[k].toNat : Int)) = true := by simp; omega
            have HF := Lib.hid (right_no_nib x k hq h16)
            clear hall hris
            go_wp2
            go_quiet (fail)
            go_wp2
            go_ret
            exact ⟨by rw [HF.out]; rfl, hbr.os, hbr.tape, hbr.output, hbr.size, hbr.block⟩
        · have hkn : k = n2 := by omega
          subst hkn
          rw [← hl2, List.take_length] at hall hris
          have HF := Lib.hid (right_all x (by omega) hp.2 (by omega) hall hris (fun i h => HNZ.out i h (by omega)))
          clear hall hris hp
          go_wp2
          go_ret
          exact ⟨by rw [HF.out]; rfl, hbr⟩
    · have HF := Lib.hid (right_no_len x (by omega))
      have t1 : ((n2 : Int) != (n3 : Int)) = true := by simp; omega
      go_enter Try.func51, Try.ntmps51
      go_wp2_with fail
      rw [← HW.out]
      refine HPK.out.mono ?_
      rintro e w' ⟨rfl, rfl⟩
      clear HPK h1 h2 h3
      go_wp2_with fail
      go_ret
      exact ⟨by rw [HF.out]; rfl, hb⟩
  · have HF := Lib.hid (right_no_pre x (by rw [hl1]; exact hp))
    have hpk : Calls Try.prog 24 #[.slice A1 n1 c1] W fun e w' => e = .returned (.tuple #[.int .u64 0, .bool false]) ∧ W = w' := by
      by_cases h15 : n1 ≤ 15
      · have hnib : x.pre.all isNib = false := by
          cases hh : x.pre.all isNib with
          | false => rfl
          | true => exact absurd ⟨h15, hh⟩ hp
        have := packR_any A1 n1 c1 x.pre W h15 g1
        rw [packV, if_neg (by simp [hnib])] at this
        exact this
      · exact packR_big A1 n1 c1 W (by omega) (by omega)
    have HPK := Lib.hid hpk
    clear hpk hp
    go_enter Try.func51, Try.ntmps51
    go_wp2_with fail
    rw [← HW.out]
    refine HPK.out.mono ?_
    rintro e w' ⟨rfl, rfl⟩
    clear HPK h1 h2 h3
    go_wp2_with fail
    go_ret
    exact ⟨by rw [HF.out]; rfl, hb⟩

set_option maxHeartbeats 1000000 in
theorem kidR_any (A1 A2 A3 : Option Addr) (n1 c1 n2 c2 n3 c3 : Nat) (x : Nd) (label : UInt8) (w : World) (b1 : n1 ≤ 1000000) (b2 : n2 ≤ 1000000) (b3 : n3 ≤ 1000000) (h1 : Bs w A1 n1 x.pre) (h2 : Bs w A2 n2 x.labels) (h3 : Ws w A3 n3 x.kids) :
    Calls Try.prog 37 #[.agg #[.slice A1 n1 c1, .int .u64 (x.val.toNat : Int), .slice A2 n2 c2, .slice A3 n3 c3], .int .u8 (label.toNat : Int)] w fun e w' => e = .returned (kidV x label) ∧ Below w.heap.size w w' := by
  have hl1 := h1.len
  have hl2 := h2.len
  have hl3 := h3.len
  have hlb : label.toNat < 256 := label.toNat_lt
  obtain ⟨W, hW, e0, e1, e2, e3, hb, hs⟩ := box4 w 40 (.slice A1 n1 c1) (.int .u64 (x.val.toNat : Int)) (.slice A2 n2 c2) (.slice A3 n3 c3)
  have hix := findR_any (.slice A1 n1 c1) (.int .u64 (x.val.toNat : Int)) (.slice A3 n3 c3) A2 n2 c2 x.labels label W b2 (h2.below hb)
  have HW := Lib.hid hW
  have HIX := Lib.hid hix
  clear hW hix
  go_enter Try.func37, Try.ntmps37
  go_wp2_with fail
  rw [← HW.out]
  refine HIX.out.mono ?_
  rintro e w1 ⟨rfl, hb1⟩
  obtain ⟨p0, p1, p2, p3, hs1⟩ := box_keep e0 e1 e2 e3 (by omega) hb1
  have hb01 := hb.trans (hb1.mono hb.size)
  clear e0 e1 e2 e3 hb hb1 HIX HW
  go_wp2_with fail
  refine (rightR_any A1 A2 A3 n1 c1 n2 c2 n3 c3 x w1 b1 b2 b3 (h1.below hb01) (h2.below hb01) (h3.below hb01)).mono ?_
  rintro e w2 ⟨rfl, hb2⟩
  obtain ⟨q0, q1, q2, q3, hs2⟩ := box_keep p0 p1 p2 p3 hs1 hb2
  have hb02 := hb01.trans (hb2.mono hb01.size)
  clear p0 p1 p2 p3 hb01 hb2
  cases hf : findL x.labels label with
  | none =>
    have HPL := Lib.hid (placeOf_none _ _ hf)
    have HV : Hid (kidV x label = .tuple #[.int .u64 0, .int .i64 0, .bool false]) := Lib.hid (by rw [kidV, show x.labels.findIdx? _ = none from hf])
    clear hf
    cases hR : rightB x with
    | false =>
      clear hR
      go_wp2_with fail
      go_ret3
      exact ⟨by rw [HV.out]; rfl, hb02⟩
    | true =>
      clear hR
      rw [HPL.out]
      go_wp2_with fail
      go_ret3
      exact ⟨by rw [HV.out]; rfl, hb02⟩
  | some i =>
    have hi : i < n2 := by
      have hf' : x.labels.findIdx? (fun y => y.toNat == label.toNat) = some i := hf
      rw [List.findIdx?_eq_some_iff_getElem] at hf'
      obtain ⟨hi, _⟩ := hf'
      omega
    have HF := Lib.hid hf
    have HPL := Lib.hid (placeOf_some _ _ _ hf)
    have hi0 : decide ((i : Int) < 0) = false := by simp
    clear hf
    rw [HPL.out]
    cases hR : rightB x with
    | false =>
      have HV : Hid (kidV x label = .tuple #[.int .u64 0, .int .i64 0, .bool false]) := Lib.hid (by rw [kidV, show x.labels.findIdx? _ = some i from HF.out]; simp [hR])
      clear hR
      go_wp2_with fail
      go_ret3
      exact ⟨by rw [HV.out]; rfl, hb02⟩
    | true =>
      have hlk := ((rightB_iff x).1 hR).2.2.1
      have hi3 : i < n3 := by omega
      have hg : x.kids.getD i 0 = x.kids[i]'(by omega) := by simp [List.getD, show i < x.kids.length by omega]
      have hv : kidV x label = .tuple #[.int .u64 ((x.kids.getD i 0).toNat : Int), .int .i64 (if x.kids.length ≤ 4 then 4 + (i : Int) else 4 + (label.toNat : Int)), .bool true] := by rw [kidV, show x.labels.findIdx? _ = some i from HF.out]; simp [hR]
      rw [hl3, hg] at hv
      clear hg
      have HV := Lib.hid hv
      clear hv hR
      go_wp2_with fail
      refine (classR_any _ _ _ A3 n3 c3 w2 (by omega)).mono ?_
      rintro e w3 ⟨rfl, hb3⟩
      obtain ⟨p0, p1, p2, p3, hs3⟩ := box_keep q0 q1 q2 q3 hs2 hb3
      have hb03 := hb02.trans (hb3.mono hb02.size)
      clear q0 q1 q2 q3 hb02 hb3
      obtain ⟨hq, b, off, rfl, _, hc⟩ := (h3.below hb03).at hi3
      by_cases h4 : n3 ≤ 4
      · rw [if_pos h4] at HV
        rw [if_pos h4]
        go_wp2_with fail
        go_ret3
        exact ⟨by rw [HV.out]; rfl, hb03⟩
      · rw [if_neg h4] at HV
        rw [if_neg h4]
        go_wp2_with fail
        go_ret3
        exact ⟨by rw [HV.out]; rfl, hb03⟩

end Go.Proofs.Ytaamkdejediccaa
