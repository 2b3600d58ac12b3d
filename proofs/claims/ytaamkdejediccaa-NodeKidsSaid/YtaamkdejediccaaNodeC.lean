/- Walks of package node and of its reference: Class, Right. -/
import Derived.Test.YtaamkdejediccaaNodeB
namespace Go.Proofs.Ytaamkdejediccaa
open Go.RowKit

/-- A node as it is handed over: its four fields. -/
def ndv (A1 : Option Addr) (n1 c1 : Nat) (v : UInt64) (A2 : Option Addr) (n2 c2 : Nat) (A3 : Option Addr) (n3 c3 : Nat) : Value :=
  .agg #[.slice A1 n1 c1, .int .u64 (v.toNat : Int), .slice A2 n2 c2, .slice A3 n3 c3]

theorem class_any (v1 v2 v3 : Value) (A3 : Option Addr) (n3 c3 : Nat) (w : World) (hn : n3 ≤ 4294967296) :
    Calls Try.prog 33 #[.agg #[v1, v2, v3, .slice A3 n3 c3]] w fun e w' => e = .returned (.int .i64 (if n3 ≤ 4 then 1 else 2)) ∧ Below w.heap.size w w' := by
  by_cases h4 : n3 ≤ 4
  · rw [if_pos h4]
    go_enter Try.func33, Try.ntmps33
    go_wp2
    go_ret
    exact ⟨rfl, (Below.refl _ _).alloc (Nat.le_refl _) _⟩
  · rw [if_neg h4]
    go_enter Try.func33, Try.ntmps33
    go_wp2
    go_ret
    exact ⟨rfl, (Below.refl _ _).alloc (Nat.le_refl _) _⟩

set_option maxHeartbeats 1000000 in
theorem right_node (A1 A2 A3 : Option Addr) (n1 c1 n2 c2 n3 c3 : Nat) (x : Nd) (w : World) (b1 : n1 ≤ 1000000) (b2 : n2 ≤ 1000000) (b3 : n3 ≤ 1000000) (h1 : Bs w A1 n1 x.pre) (h2 : Bs w A2 n2 x.labels) (h3 : Ws w A3 n3 x.kids) :
    Calls Try.prog 35 #[.agg #[.slice A1 n1 c1, .int .u64 (x.val.toNat : Int), .slice A2 n2 c2, .slice A3 n3 c3]] w fun e w' => e = .returned (.bool (rightB x)) ∧ Below w.heap.size w w' := by
  have hl1 := h1.len
  have hl2 := h2.len
  have hl3 := h3.len
  obtain ⟨W, hW, e0, e1, e2, e3, hb, hs⟩ := box4 w 44 (.slice A1 n1 c1) (.int .u64 (x.val.toNat : Int)) (.slice A2 n2 c2) (.slice A3 n3 c3)
  have g1 := h1.below hb
  have g2 := h2.below hb
  have g3 := h3.below hb
  have HW := Lib.hid hW
  clear hW
  have HR := Lib.hid (rightB_iff x)
  by_cases hp : n1 ≤ 15 ∧ x.pre.all isNib = true
  · have hpk := pack_any A1 n1 c1 x.pre W hp.1 g1 hp.2
    have HPK := Lib.hid hpk
    clear hpk
    by_cases hl : n2 = n3
    · subst hl
      have t1 : ((n2 : Int) != (n2 : Int)) = false := by simp
      go_enter Try.func35, Try.ntmps35
      go_wp2_with fail
      rw [← HW.out]
      refine HPK.out.mono ?_
      rintro e w' ⟨rfl, rfl⟩
      clear HPK h1 h2 h3
      go_wp2_with fail
      go_loop [27] (fun i => ∃ k : Nat, k ≤ n2 ∧ i = .int .i64 k ∧ (x.labels.take k).all isNib = true ∧ risingB (x.labels.take k) = true) (fun i => n2 - (intOf i).toNat)
      case atStart => exact ⟨0, Nat.zero_le _, rfl, by simp, by simp [risingB]⟩
      case round =>
        obtain ⟨k, hk, rfl, hall, hris⟩ := hrel
        by_cases hlt : k < n2
        · obtain ⟨hq, p, off, rfl, hp2, hc⟩ := g2.at hlt
          by_cases h16 : x.labels[k].toNat < 16
          · have t2 : decide (16 ≤ (x.labels[k].toNat : Int)) = false := by simp; omega
            have HA := Lib.hid (all_take_succ isNib x.labels k hq hall (isNib_yes h16))
            rcases k with _ | j
            · have HS := Lib.hid (rising_take_succ x.labels 0 hq hris (fun j hj => by omega))
              have t3 : decide ((0 : Int) < 0) = false := rfl
              clear hall hris
              rw [show ((0 : Nat) : Int) = 0 from rfl]
              simp only [Nat.add_zero] at hc
              go_wp2
              go_round
              case rel => exact ⟨1, by omega, by go_num, HA.out, HS.out⟩
              case measure => simp [intOf]; omega
            · obtain ⟨hq', p', off', e', hp2', hc'⟩ := g2.at (show j < n2 by omega)
              injection e' with e'
              injection e' with e1' e2' e3'
              subst e1' e2'
              by_cases hr : x.labels[j].toNat < x.labels[j + 1].toNat
              · have t3 : decide ((x.labels[j + 1].toNat : Int) ≤ (x.labels[j].toNat : Int)) = false := by simp; omega
                have HS := Lib.hid (rising_step x.labels j hq hris hr)
                clear hall hris e3'
                go_wp2
                go_round
                case rel => exact ⟨j + 1 + 1, by omega, by go_num, HA.out, HS.out⟩
                case measure => simp [intOf]; omega
              · have t3 : decide ((x.labels[j + 1].toNat : Int) ≤ (x.labels[j].toNat : Int)) = true := by simp; omega
                have HF := Lib.hid (right_no_rise x j hq hr)
                clear hall hris e3'
                go_wp2
                go_ret
                exact ⟨by rw [HF.out]; rfl, hb⟩
          · have t2 : decide (16 ≤ (x.labels[k].toNat : Int)) = true := by simp; omega
            have HF := Lib.hid (right_no_nib x k hq h16)
            clear hall hris
            go_wp2
            go_ret
            exact ⟨by rw [HF.out]; rfl, hb⟩
        · have hkn : k = n2 := by omega
          subst hkn
          rw [← hl2, List.take_length] at hall hris
          have HF := Lib.hid (right_rest x (by omega) hp.2 (by omega) hall hris)
          have hcn := containsW_any A3 k c3 x.kids W (by omega) g3
          clear hall hris hp
          go_wp2_with (go_at_call 49; refine hcn.mono ?_; rintro e w' ⟨rfl, rfl⟩)
          go_ret
          exact ⟨by rw [HF.out]; rfl, hb⟩
    · have HF := Lib.hid (right_no_len x (by omega))
      have t1 : ((n2 : Int) != (n3 : Int)) = true := by simp; omega
      go_enter Try.func35, Try.ntmps35
      go_wp2_with fail
      rw [← HW.out]
      refine HPK.out.mono ?_
      rintro e w' ⟨rfl, rfl⟩
      clear HPK h1 h2 h3
      go_wp2_with fail
      go_ret
      exact ⟨by rw [HF.out]; rfl, hb⟩
  · have HF := Lib.hid (right_no_pre x (by rw [hl1]; exact hp))
    have hpk : Calls Try.prog 23 #[.slice A1 n1 c1] W fun e w' => e = .returned (.tuple #[.int .u64 0, .bool false]) ∧ W = w' := by
      by_cases h15 : n1 ≤ 15
      · have hnib : x.pre.all isNib = false := by
          cases hh : x.pre.all isNib with
          | false => rfl
          | true => exact absurd ⟨h15, hh⟩ hp
        exact pack_no A1 n1 c1 x.pre W h15 g1 hnib
      · exact pack_big A1 n1 c1 W (by omega) (by omega)
    have HPK := Lib.hid hpk
    clear hpk hp
    go_enter Try.func35, Try.ntmps35
    go_wp2_with fail
    rw [← HW.out]
    refine HPK.out.mono ?_
    rintro e w' ⟨rfl, rfl⟩
    clear HPK h1 h2 h3
    go_wp2_with fail
    go_ret
    exact ⟨by rw [HF.out]; rfl, hb⟩

end Go.Proofs.Ytaamkdejediccaa
