/- Walks of package node: Without. -/
import Derived.Test.YtaamkdejediccaaNodeX
namespace Go.Proofs.Ytaamkdejediccaa
open Go.RowKit

def findL (l : List UInt8) (x : UInt8) : Option Nat := l.findIdx? fun y => y.toNat == x.toNat
def outN (x : Nd) (i : Nat) : Nd := { pre := x.pre, val := x.val, labels := del x.labels i, kids := del x.kids i }

set_option maxHeartbeats 2000000 in
theorem without_no (A1 A2 A3 : Option Addr) (n1 c1 n2 c2 n3 c3 : Nat) (x : Nd) (label : UInt8) (w : World) (b1 : n1 ≤ 1000000) (b2 : n2 ≤ 1000000) (b3 : n3 ≤ 1000000) (h1 : Bs w A1 n1 x.pre) (h2 : Bs w A2 n2 x.labels) (h3 : Ws w A3 n3 x.kids) (hno : findL x.labels label = none ∨ rightB x = false) :
    Calls Try.prog 40 #[.agg #[.slice A1 n1 c1, .int .u64 (x.val.toNat : Int), .slice A2 n2 c2, .slice A3 n3 c3], .int .u8 (label.toNat : Int)] w fun e w' => e = .returned noNode ∧ Below w.heap.size w w' := by
  obtain ⟨W, hW, B1, B2, hbW, hsW⟩ := box_and_zero w 44 (.slice A1 n1 c1) (.int .u64 (x.val.toNat : Int)) (.slice A2 n2 c2) (.slice A3 n3 c3) (.slice none 0 0) (.int .u64 0) (.slice none 0 0) (.slice none 0 0)
  have HW := Lib.hid hW
  clear hW
  obtain ⟨y0, y1, y2, y3, f0, f1, f2, f3⟩ := blk4 B1
  obtain ⟨z0, z1, z2, z3, k0, k1, k2, k3⟩ := blk4 B2
  have hgw : w.heap.size < W.heap.size := by omega
  have hix := indexB_any A2 n2 c2 x.labels label W (by omega) (h2.below hbW)
  have HIX := Lib.hid hix
  clear hix
  cases hf : findL x.labels label with
  | none =>
    have hpl : placeOf (fun y => y.toNat == label.toNat) x.labels = -1 := by rw [placeOf, show x.labels.findIdx? _ = none from hf]
    have HPL := Lib.hid hpl
    clear hpl hf hno
    go_enter Try.func40, Try.ntmps40
    go_wp2_with fail
    rw [← HW.out]
    refine HIX.out.mono ?_
    rintro e w' ⟨rfl, rfl⟩
    rw [HPL.out]
    go_wp2_with fail
    have BF := ((((B2.set_ 0 (Value.slice none 0 0)).set_ 1 (Value.int .u64 0)).set_ 2 (Value.slice none 0 0)).set_ 3 (Value.slice none 0 0))
    have hbF := (((hbW.setCell (p := ⟨w.heap.size + 1, 0, none⟩) (by simp) (Value.slice none 0 0)).setCell (p := ⟨w.heap.size + 1, 1, none⟩) (by simp) (Value.int .u64 0)).setCell (p := ⟨w.heap.size + 1, 2, none⟩) (by simp) (Value.slice none 0 0)).setCell (p := ⟨w.heap.size + 1, 3, none⟩) (by simp) (Value.slice none 0 0)
    generalize (((W.setCell ⟨w.heap.size + 1, 0, none⟩ (Value.slice none 0 0)).setCell ⟨w.heap.size + 1, 1, none⟩ (Value.int .u64 0)).setCell ⟨w.heap.size + 1, 2, none⟩ (Value.slice none 0 0)).setCell ⟨w.heap.size + 1, 3, none⟩ (Value.slice none 0 0) = WF at *
    obtain ⟨p0, p1, p2, p3, _⟩ := blk4 BF
    exact bodyPost_ret (v := noNode) (by unfold noNode; simp [results, Try.results40, go_sem, p0, p1, p2, p3]) rfl ⟨rfl, hbF⟩
  | some i =>
    have hR : rightB x = false := by
      rcases hno with h | h
      · rw [hf] at h; cases h
      · exact h
    have hpl : placeOf (fun y => y.toNat == label.toNat) x.labels = (i : Int) := by rw [placeOf, show x.labels.findIdx? _ = some i from hf]
    have HPL := Lib.hid hpl
    have hi0 : decide ((i : Int) < 0) = false := by simp
    have hri := right_node A1 A2 A3 n1 c1 n2 c2 n3 c3 x W (by omega) (by omega) (by omega) (h1.below hbW) (h2.below hbW) (h3.below hbW)
    rw [hR] at hri
    have HRI := Lib.hid hri
    clear hpl hf hno hri hR
    go_enter Try.func40, Try.ntmps40
    go_wp2_with fail
    rw [← HW.out]
    refine HIX.out.mono ?_
    rintro e w' ⟨rfl, rfl⟩
    rw [HPL.out]
    clear HIX HPL
    go_wp2_with fail
    refine HRI.out.mono ?_
    rintro e w1 ⟨rfl, hb1⟩
    clear y0 y1 y2 y3 f0 f1 f2 f3 z0 z1 z2 z3 k0 k1 k2 k3 HRI
    replace B2 := B2.below hb1 (by omega)
    have hb01 := hbW.trans (hb1.mono hbW.size)
    clear hb1 hbW
    obtain ⟨z0, z1, z2, z3, k0, k1, k2, k3⟩ := blk4 B2
    go_wp2_with fail
    have BF := ((((B2.set_ 0 (Value.slice none 0 0)).set_ 1 (Value.int .u64 0)).set_ 2 (Value.slice none 0 0)).set_ 3 (Value.slice none 0 0))
    have hbF := (((hb01.setCell (p := ⟨w.heap.size + 1, 0, none⟩) (by simp) (Value.slice none 0 0)).setCell (p := ⟨w.heap.size + 1, 1, none⟩) (by simp) (Value.int .u64 0)).setCell (p := ⟨w.heap.size + 1, 2, none⟩) (by simp) (Value.slice none 0 0)).setCell (p := ⟨w.heap.size + 1, 3, none⟩) (by simp) (Value.slice none 0 0)
    generalize (((w1.setCell ⟨w.heap.size + 1, 0, none⟩ (Value.slice none 0 0)).setCell ⟨w.heap.size + 1, 1, none⟩ (Value.int .u64 0)).setCell ⟨w.heap.size + 1, 2, none⟩ (Value.slice none 0 0)).setCell ⟨w.heap.size + 1, 3, none⟩ (Value.slice none 0 0) = WF at *
    obtain ⟨p0, p1, p2, p3, _⟩ := blk4 BF
    exact bodyPost_ret (v := noNode) (by unfold noNode; simp [results, Try.results40, go_sem, p0, p1, p2, p3]) rfl ⟨rfl, hbF⟩

set_option maxHeartbeats 4000000 in
theorem without_yes (A1 A2 A3 : Option Addr) (n1 c1 n2 c2 n3 c3 : Nat) (x : Nd) (label : UInt8) (i : Nat) (w : World) (b1 : n1 ≤ 1000) (b2 : n2 ≤ 1000) (b3 : n3 ≤ 1000) (h1 : Bs w A1 n1 x.pre) (h2 : Bs w A2 n2 x.labels) (h3 : Ws w A3 n3 x.kids) (hf : findL x.labels label = some i) (hR : rightB x = true) :
    Calls Try.prog 40 #[.agg #[.slice A1 n1 c1, .int .u64 (x.val.toNat : Int), .slice A2 n2 c2, .slice A3 n3 c3], .int .u8 (label.toNat : Int)] w fun e w' => NodeOut (outN x i) w' e ∧ Below w.heap.size w w' := by
  obtain ⟨W, hW, B1, B2, hbW, hsW⟩ := box_and_zero w 44 (.slice A1 n1 c1) (.int .u64 (x.val.toNat : Int)) (.slice A2 n2 c2) (.slice A3 n3 c3) (.slice none 0 0) (.int .u64 0) (.slice none 0 0) (.slice none 0 0)
  have HW := Lib.hid hW
  clear hW
  have hl1 := h1.len
  have hl2 := h2.len
  have hl3 := h3.len
  obtain ⟨y0, y1, y2, y3, f0, f1, f2, f3⟩ := blk4 B1
  have hgw : w.heap.size < W.heap.size := by omega
  have hlk := ((rightB_iff x).1 hR).2.2.1
  have hi : i < x.labels.length := by
    unfold findL at hf
    rw [List.findIdx?_eq_some_iff_getElem] at hf
    obtain ⟨hi, _⟩ := hf
    exact hi
  have hpl : placeOf (fun y => y.toNat == label.toNat) x.labels = (i : Int) := by rw [placeOf, show x.labels.findIdx? _ = some i from hf]
  have HPL := Lib.hid hpl
  have hi0 : decide ((i : Int) < 0) = false := by simp
  have hix := indexB_any A2 n2 c2 x.labels label W (by omega) (h2.below hbW)
  have HIX := Lib.hid hix
  have hri := right_node A1 A2 A3 n1 c1 n2 c2 n3 c3 x W (by omega) (by omega) (by omega) (h1.below hbW) (h2.below hbW) (h3.below hbW)
  rw [hR] at hri
  have HRI := Lib.hid hri
  have hw1 : IntKind.i64.wrap ((i : Int) + 1) = (i : Int) + 1 := by rw [IntKind.wrap_i64]; omega
  clear hpl hf hix hri hR
  go_enter Try.func40, Try.ntmps40
  go_wp2_with fail
  rw [← HW.out]
  clear HW
  refine HIX.out.mono ?_
  rintro e w' ⟨rfl, rfl⟩
  rw [HPL.out]
  clear HIX HPL
  go_wp2_with fail
  refine HRI.out.mono ?_
  rintro e w1 ⟨rfl, hb1⟩
  clear y0 y1 y2 y3 f0 f1 f2 f3 HRI
  replace B1 := B1.below hb1 (by omega)
  replace B2 := B2.below hb1 (by omega)
  have hb01 := hbW.trans (hb1.mono hbW.size)
  have hs01 : w.heap.size + 2 ≤ w1.heap.size := by have := hb1.size; omega
  replace h1 := h1.below hb01
  replace h2 := h2.below hb01
  replace h3 := h3.below hb01
  clear hb1 hbW
  obtain ⟨y0, y1, y2, y3, f0, f1, f2, f3⟩ := blk4 B1
  go_wp2_with fail
  have hcn := clone_node A1 A2 A3 n1 c1 n2 c2 n3 c3 x w1 (by omega) (by omega) (by omega) h1 h2 h3
  refine hcn.mono ?_
  rintro e w2 ⟨B, A4, c4, A5, c5, A6, c6, rfl, hB1, hB2, ⟨o1, hq1⟩, o2, o3, hb2⟩
  clear y0 y1 y2 y3 f0 f1 f2 f3 hcn h1 h2 h3
  replace B1 := B1.below hb2 (by omega)
  replace B2 := B2.below hb2 (by omega)
  have hb02 := hb01.trans (hb2.mono hb01.size)
  have HQ1 := Lib.hid hq1
  clear hb2 hb01 hq1
  obtain ⟨y0, y1, y2, y3, f0, f1, f2, f3⟩ := blk4 B1
  go_wp2_with fail
  clear y0 y1 y2 y3 f0 f1 f2 f3
  rw [hl1] at o1
  rw [hl2] at o2
  rw [hl3] at o3
  -- the clone is stored
  have hsz : ((((w2.setCell ⟨w.heap.size, 0, none⟩ (Value.slice A4 n1 c4)).setCell ⟨w.heap.size, 1, none⟩ (Value.int .u64 (x.val.toNat : Int))).setCell ⟨w.heap.size, 2, none⟩ (Value.slice A5 n2 c5)).setCell ⟨w.heap.size, 3, none⟩ (Value.slice A6 n3 c6)).heap.size = w2.heap.size := by simp [World.setCell]
  replace B1 := ((((B1.set_ 0 (Value.slice A4 n1 c4)).set_ 1 (Value.int .u64 (x.val.toNat : Int))).set_ 2 (Value.slice A5 n2 c5)).set_ 3 (Value.slice A6 n3 c6))
  replace B2 := ((((B2.far (g' := w.heap.size) (by omega) 0 (Value.slice A4 n1 c4)).far (g' := w.heap.size) (by omega) 1 (Value.int .u64 (x.val.toNat : Int))).far (g' := w.heap.size) (by omega) 2 (Value.slice A5 n2 c5)).far (g' := w.heap.size) (by omega) 3 (Value.slice A6 n3 c6))
  replace o1 := (own_far (own_far (own_far (own_far o1 (g := w.heap.size) (by omega) 0 (Value.slice A4 n1 c4)) (g := w.heap.size) (by omega) 1 (Value.int .u64 (x.val.toNat : Int))) (g := w.heap.size) (by omega) 2 (Value.slice A5 n2 c5)) (g := w.heap.size) (by omega) 3 (Value.slice A6 n3 c6))
  replace o2 := (own_far (own_far (own_far (own_far o2 (g := w.heap.size) (by omega) 0 (Value.slice A4 n1 c4)) (g := w.heap.size) (by omega) 1 (Value.int .u64 (x.val.toNat : Int))) (g := w.heap.size) (by omega) 2 (Value.slice A5 n2 c5)) (g := w.heap.size) (by omega) 3 (Value.slice A6 n3 c6))
  replace o3 := (own_far (own_far (own_far (own_far o3 (g := w.heap.size) (by omega) 0 (Value.slice A4 n1 c4)) (g := w.heap.size) (by omega) 1 (Value.int .u64 (x.val.toNat : Int))) (g := w.heap.size) (by omega) 2 (Value.slice A5 n2 c5)) (g := w.heap.size) (by omega) 3 (Value.slice A6 n3 c6))
  replace hb02 := ((((hb02.setCell (p := ⟨w.heap.size, 0, none⟩) (by simp) (Value.slice A4 n1 c4)).setCell (p := ⟨w.heap.size, 1, none⟩) (by simp) (Value.int .u64 (x.val.toNat : Int))).setCell (p := ⟨w.heap.size, 2, none⟩) (by simp) (Value.slice A5 n2 c5)).setCell (p := ⟨w.heap.size, 3, none⟩) (by simp) (Value.slice A6 n3 c6))
  generalize ((((w2.setCell ⟨w.heap.size, 0, none⟩ (Value.slice A4 n1 c4)).setCell ⟨w.heap.size, 1, none⟩ (Value.int .u64 (x.val.toNat : Int))).setCell ⟨w.heap.size, 2, none⟩ (Value.slice A5 n2 c5)).setCell ⟨w.heap.size, 3, none⟩ (Value.slice A6 n3 c6)) = W3 at *
  rw [← hsz] at hB2
  clear hsz
  have hin := deleteB_any (.slice A5 n2 c5) n2 i (x.labels.map bv) W3 B o2 (by omega) (by omega) (by omega) (oneCell_bv _)
  rw [delV_map] at hin
  have HIN := Lib.hid hin
  clear hin
  refine HIN.out.mono ?_
  rintro e w4 ⟨v7, rfl, o7, hb4, k4⟩
  obtain ⟨A7, c7, rfl, _, _⟩ := rd_of_own o7
  clear HIN
  have hap := own_apart o2 o3 (by decide)
  have hs4 := hb4.size
  replace B1 := B1.below hb4 (by omega)
  replace B2 := B2.below hb4 (by omega)
  replace o1 := own_under o1 HQ1.out hb4
  replace o3 := own_kept o3 k4 (fun g hg e => hap g e hg)
  replace hb02 := hb02.trans (hb4.mono (by omega))
  clear hap o2 k4 hb4
  obtain ⟨y0, y1, y2, y3, f0, f1, f2, f3⟩ := blk4 B1
  go_wp2_with fail
  clear y0 y1 y2 y3 f0 f1 f2 f3
  have hsz4 : (w4.setCell ⟨w.heap.size, 2, none⟩ (Value.slice A7 (n2 - 1) c7)).heap.size = w4.heap.size := by simp [World.setCell]
  replace B1 := (B1.set_ 2 (Value.slice A7 (n2 - 1) c7))
  replace B2 := (B2.far (g' := w.heap.size) (by omega) 2 (Value.slice A7 (n2 - 1) c7))
  replace o1 := (own_far o1 (g := w.heap.size) (by omega) 2 (Value.slice A7 (n2 - 1) c7))
  replace o7 := (own_far o7 (g := w.heap.size) (by omega) 2 (Value.slice A7 (n2 - 1) c7))
  replace o3 := (own_far o3 (g := w.heap.size) (by omega) 2 (Value.slice A7 (n2 - 1) c7))
  replace hb02 := (hb02.setCell (p := ⟨w.heap.size, 2, none⟩) (by simp) (Value.slice A7 (n2 - 1) c7))
  generalize (w4.setCell ⟨w.heap.size, 2, none⟩ (Value.slice A7 (n2 - 1) c7)) = W5 at *
  rw [← hsz4] at hs4
  clear hsz4
  have hin := deleteW_any (.slice A6 n3 c6) n3 i (x.kids.map wv) W5 B o3 (by omega) (by omega) (by omega) (oneCell_wv _)
  rw [delV_map] at hin
  have HIN := Lib.hid hin
  clear hin
  refine HIN.out.mono ?_
  rintro e w6 ⟨v8, rfl, o8, hb6, k6⟩
  obtain ⟨A8, c8, rfl, _, _⟩ := rd_of_own o8
  clear HIN
  have hap := own_apart o3 o7 (by decide)
  have hs6 := hb6.size
  replace B1 := B1.below hb6 (by omega)
  replace B2 := B2.below hb6 (by omega)
  replace o1 := own_under o1 HQ1.out hb6
  replace o7 := own_kept o7 k6 (fun g hg e => hap g e hg)
  replace hb02 := hb02.trans (hb6.mono (by omega))
  clear hap o3 k6 hb6
  obtain ⟨y0, y1, y2, y3, f0, f1, f2, f3⟩ := blk4 B1
  obtain ⟨z0, z1, z2, z3, k0, k1, k2, k3⟩ := blk4 B2
  go_wp2_with fail
  clear y0 y1 y2 y3 f0 f1 f2 f3 z0 z1 z2 z3 k0 k1 k2 k3
  have BF := (((((B2.far (g' := w.heap.size) (by omega) 3 (Value.slice A8 (n3 - 1) c8)).set_ 0 (Value.slice A4 n1 c4)).set_ 1 (Value.int .u64 (x.val.toNat : Int))).set_ 2 (Value.slice A7 (n2 - 1) c7)).set_ 3 (Value.slice A8 (n3 - 1) c8))
  have hbF := (((((hb02.setCell (p := ⟨w.heap.size, 3, none⟩) (by simp) (Value.slice A8 (n3 - 1) c8)).setCell (p := ⟨w.heap.size + 1, 0, none⟩) (by simp) (Value.slice A4 n1 c4)).setCell (p := ⟨w.heap.size + 1, 1, none⟩) (by simp) (Value.int .u64 (x.val.toNat : Int))).setCell (p := ⟨w.heap.size + 1, 2, none⟩) (by simp) (Value.slice A7 (n2 - 1) c7)).setCell (p := ⟨w.heap.size + 1, 3, none⟩) (by simp) (Value.slice A8 (n3 - 1) c8))
  have S1 := (rd_own (own_far (own_far (own_far (own_far (own_far o1 (g := w.heap.size) (by omega) 3 (Value.slice A8 (n3 - 1) c8)) (g := w.heap.size + 1) (by omega) 0 (Value.slice A4 n1 c4)) (g := w.heap.size + 1) (by omega) 1 (Value.int .u64 (x.val.toNat : Int))) (g := w.heap.size + 1) (by omega) 2 (Value.slice A7 (n2 - 1) c7)) (g := w.heap.size + 1) (by omega) 3 (Value.slice A8 (n3 - 1) c8))).2
  have S2 := (rd_own (own_far (own_far (own_far (own_far (own_far o7 (g := w.heap.size) (by omega) 3 (Value.slice A8 (n3 - 1) c8)) (g := w.heap.size + 1) (by omega) 0 (Value.slice A4 n1 c4)) (g := w.heap.size + 1) (by omega) 1 (Value.int .u64 (x.val.toNat : Int))) (g := w.heap.size + 1) (by omega) 2 (Value.slice A7 (n2 - 1) c7)) (g := w.heap.size + 1) (by omega) 3 (Value.slice A8 (n3 - 1) c8))).2
  have S3 := (rd_own (own_far (own_far (own_far (own_far (own_far o8 (g := w.heap.size) (by omega) 3 (Value.slice A8 (n3 - 1) c8)) (g := w.heap.size + 1) (by omega) 0 (Value.slice A4 n1 c4)) (g := w.heap.size + 1) (by omega) 1 (Value.int .u64 (x.val.toNat : Int))) (g := w.heap.size + 1) (by omega) 2 (Value.slice A7 (n2 - 1) c7)) (g := w.heap.size + 1) (by omega) 3 (Value.slice A8 (n3 - 1) c8))).2
  generalize (((((w6.setCell ⟨w.heap.size, 3, none⟩ (Value.slice A8 (n3 - 1) c8)).setCell ⟨w.heap.size + 1, 0, none⟩ (Value.slice A4 n1 c4)).setCell ⟨w.heap.size + 1, 1, none⟩ (Value.int .u64 (x.val.toNat : Int))).setCell ⟨w.heap.size + 1, 2, none⟩ (Value.slice A7 (n2 - 1) c7)).setCell ⟨w.heap.size + 1, 3, none⟩ (Value.slice A8 (n3 - 1) c8)) = WF at *
  obtain ⟨p0, p1, p2, p3, _⟩ := blk4 BF
  have e2 : (del x.labels i).length = n2 - 1 := by rw [del_length _ _ (by omega)]; omega
  have e3 : (del x.kids i).length = n3 - 1 := by rw [del_length _ _ (by omega)]; omega
  refine bodyPost_ret (v := .tuple #[.agg #[(Value.slice A4 n1 c4), (Value.int .u64 (x.val.toNat : Int)), Value.slice A7 (n2 - 1) c7, Value.slice A8 (n3 - 1) c8], .bool true]) (by simp [results, Try.results40, go_sem, p0, p1, p2, p3]) rfl ?_
  refine ⟨⟨A4, c4, A7, c7, A8, c8, ?_, ?_, ?_, ?_⟩, hbF⟩
  · simp only [outN, e2, e3, hl1]
  · show Bs WF A4 x.pre.length x.pre
    rw [hl1]; exact S1
  · simp only [outN, e2]; exact S2
  · simp only [outN, e3]; exact S3

end Go.Proofs.Ytaamkdejediccaa
