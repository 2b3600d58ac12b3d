/- Walks of the reference of layer 9: With, where there is none. -/
import Derived.Test.YtaamkdejediccaaNdRefA
namespace Go.Proofs.Ytaamkdejediccaa
open Go.RowKit

set_option maxHeartbeats 4000000 in
theorem withR_no (A1 A2 A3 : Option Addr) (n1 c1 n2 c2 n3 c3 : Nat) (x : Nd) (label : UInt8) (kid : UInt64) (w : World) (b1 : n1 ≤ 1000000) (b2 : n2 ≤ 1000000) (b3 : n3 ≤ 1000000) (h1 : Bs w A1 n1 x.pre) (h2 : Bs w A2 n2 x.labels) (h3 : Ws w A3 n3 x.kids) (hno : withOk x label kid = false) :
    Calls Try.prog 39 #[.agg #[.slice A1 n1 c1, .int .u64 (x.val.toNat : Int), .slice A2 n2 c2, .slice A3 n3 c3], .int .u8 (label.toNat : Int), .int .u64 (kid.toNat : Int)] w fun e w' => e = .returned noNode ∧ Below w.heap.size w w' := by
  obtain ⟨W, hW, B1, B2, hbW, hsW⟩ := box_and_zero w 40 (.slice A1 n1 c1) (.int .u64 (x.val.toNat : Int)) (.slice A2 n2 c2) (.slice A3 n3 c3) (.slice none 0 0) (.int .u64 0) (.slice none 0 0) (.slice none 0 0)
  have HW := Lib.hid hW
  clear hW
  obtain ⟨y0, y1, y2, y3, f0, f1, f2, f3⟩ := blk4 B1
  have hgw : w.heap.size < W.heap.size := by omega
  have HNO := Lib.hid hno
  clear hno
  have hlb : label.toNat < 256 := label.toNat_lt
  go_enter Try.func39, Try.ntmps39
  go_wp2_with fail
  rw [← HW.out]
  clear HW
  refine (rightR_any A1 A2 A3 n1 c1 n2 c2 n3 c3 x W b1 b2 b3 (h1.below hbW) (h2.below hbW) (h3.below hbW)).mono ?_
  rintro e w1 ⟨rfl, hb1⟩
  clear y0 y1 y2 y3 f0 f1 f2 f3
  replace B1 := B1.below hb1 (by omega)
  replace B2 := B2.below hb1 (by omega)
  have hb01 := hbW.trans (hb1.mono hbW.size)
  have hg1 : w.heap.size + 2 ≤ w1.heap.size := by have := hb1.size; omega
  replace h2 := h2.below hb01
  clear hb1 hbW
  obtain ⟨y0, y1, y2, y3, f0, f1, f2, f3⟩ := blk4 B1
  obtain ⟨z0, z1, z2, z3, k0, k1, k2, k3⟩ := blk4 B2
  cases hR : rightB x
  case' true =>
    by_cases h16 : label.toNat < 16
    case' neg =>
      have t1 : decide ((15 : Int) < (label.toNat : Int)) = true := by simp; omega
      clear hR
      go_wp2_with fail
    case' pos =>
      have t1 : decide ((15 : Int) < (label.toNat : Int)) = false := by simp; omega
      by_cases hk : kid.toNat = 0
      case' pos =>
        have t2 : ((kid.toNat : Int) == 0) = true := by rw [hk]; rfl
        clear hR hk
        go_wp2_with fail
      case' neg =>
        have t2 : ((kid.toNat : Int) == 0) = false := by rw [beq_eq_false_iff_ne]; omega
        have hh : hasL x.labels label = true := by
          cases hq : hasL x.labels label with
          | true => rfl
          | false => rw [(withOk_iff x label kid).2 ⟨hR, h16, hk, hq⟩] at HNO; exact absurd HNO.out (by decide)
        obtain ⟨i, hi, hil⟩ := findL_some _ _ hh
        have hs := findR_any (.slice A1 n1 c1) (.int .u64 (x.val.toNat : Int)) (.slice A3 n3 c3) A2 n2 c2 x.labels label w1 b2 h2
        rw [placeOf_some _ _ _ hi] at hs
        have t3 : decide ((0 : Int) ≤ (i : Int)) = true := by simp
        have HS := Lib.hid hs
        clear hs hh hk hR hi
        go_wp2_with fail
        refine HS.out.mono ?_
        rintro e w2 ⟨rfl, hb2⟩
        clear y0 y1 y2 y3 f0 f1 f2 f3 z0 z1 z2 z3 k0 k1 k2 k3 HS
        replace B2 := B2.below hb2 (by omega)
        replace hb01 := hb01.trans (hb2.mono hb01.size)
        obtain ⟨z0, z1, z2, z3, k0, k1, k2, k3⟩ := blk4 B2
        go_wp2_with fail
        clear hb2 hg1 B1 HNO t3 h2
        have w1' := ()
        generalize hww : w2 = w1 at *
        clear hww
  case' false =>
    clear hR
    go_wp2_with fail
  all_goals
    have BF := ((((B2.set_ 0 (Value.slice none 0 0)).set_ 1 (Value.int .u64 0)).set_ 2 (Value.slice none 0 0)).set_ 3 (Value.slice none 0 0))
    have hbF := (((hb01.setCell (p := ⟨w.heap.size + 1, 0, none⟩) (by simp) (Value.slice none 0 0)).setCell (p := ⟨w.heap.size + 1, 1, none⟩) (by simp) (Value.int .u64 0)).setCell (p := ⟨w.heap.size + 1, 2, none⟩) (by simp) (Value.slice none 0 0)).setCell (p := ⟨w.heap.size + 1, 3, none⟩) (by simp) (Value.slice none 0 0)
    generalize (((World.setCell _ ⟨w.heap.size + 1, 0, none⟩ (Value.slice none 0 0)).setCell ⟨w.heap.size + 1, 1, none⟩ (Value.int .u64 0)).setCell ⟨w.heap.size + 1, 2, none⟩ (Value.slice none 0 0)).setCell ⟨w.heap.size + 1, 3, none⟩ (Value.slice none 0 0) = WF at *
    obtain ⟨p0, p1, p2, p3, _⟩ := blk4 BF
    exact bodyPost_ret (v := noNode) (by unfold noNode; simp [results, Try.results39, go_sem, p0, p1, p2, p3]) rfl ⟨rfl, hbF⟩

end Go.Proofs.Ytaamkdejediccaa
