/- Walks of package node: Kid; layer 9's alive. -/
import Derived.Test.YtaamkdejediccaaNodeJ
namespace Go.Proofs.Ytaamkdejediccaa
open Go.RowKit

/-- What Kid answers. -/
def kidV (x : Nd) (label : UInt8) : Value :=
  match x.labels.findIdx? (fun y => y.toNat == label.toNat) with
  | some i => if rightB x then .tuple #[.int .u64 ((x.kids.getD i 0).toNat : Int), .int .i64 (if x.kids.length ≤ 4 then 4 + (i : Int) else 4 + (label.toNat : Int)), .bool true] else .tuple #[.int .u64 0, .int .i64 0, .bool false]
  | none => .tuple #[.int .u64 0, .int .i64 0, .bool false]

set_option maxHeartbeats 1000000 in
theorem kid_node (A1 A2 A3 : Option Addr) (n1 c1 n2 c2 n3 c3 : Nat) (x : Nd) (label : UInt8) (w : World) (b1 : n1 ≤ 1000000) (b2 : n2 ≤ 1000000) (b3 : n3 ≤ 1000000) (h1 : Bs w A1 n1 x.pre) (h2 : Bs w A2 n2 x.labels) (h3 : Ws w A3 n3 x.kids) :
    Calls Try.prog 36 #[.agg #[.slice A1 n1 c1, .int .u64 (x.val.toNat : Int), .slice A2 n2 c2, .slice A3 n3 c3], .int .u8 (label.toNat : Int)] w fun e w' => e = .returned (kidV x label) ∧ Below w.heap.size w w' := by
  have hl1 := h1.len
  have hl2 := h2.len
  have hl3 := h3.len
  have hlb : label.toNat < 256 := label.toNat_lt
  obtain ⟨W, hW, e0, e1, e2, e3, hb, hs⟩ := box4 w 44 (.slice A1 n1 c1) (.int .u64 (x.val.toNat : Int)) (.slice A2 n2 c2) (.slice A3 n3 c3)
  have hix := indexB_any A2 n2 c2 x.labels label W (by omega) (h2.below hb)
  have hri := right_node A1 A2 A3 n1 c1 n2 c2 n3 c3 x W b1 b2 b3 (h1.below hb) (h2.below hb) (h3.below hb)
  have HW := Lib.hid hW
  have HIX := Lib.hid hix
  have HRI := Lib.hid hri
  clear hW hix hri
  cases hf : x.labels.findIdx? (fun y => y.toNat == label.toNat) with
  | none =>
    have hpl : placeOf (fun y => y.toNat == label.toNat) x.labels = -1 := by rw [placeOf, hf]
    have HV : Hid (kidV x label = .tuple #[.int .u64 0, .int .i64 0, .bool false]) := Lib.hid (by rw [kidV, hf])
    have HPL := Lib.hid hpl
    clear hpl hf
    go_enter Try.func36, Try.ntmps36
    go_wp2_with fail
    rw [← HW.out]
    refine HIX.out.mono ?_
    rintro e w' ⟨rfl, rfl⟩
    rw [HPL.out]
    go_wp2_with fail
    go_ret3
    exact ⟨by rw [HV.out]; rfl, hb⟩
  | some i =>
    have hi0 : decide ((i : Int) < 0) = false := by simp
    have hpl : placeOf (fun y => y.toNat == label.toNat) x.labels = (i : Int) := by rw [placeOf, hf]
    have hi : i < n2 := by
      rw [List.findIdx?_eq_some_iff_getElem] at hf
      obtain ⟨hi, _⟩ := hf
      omega
    have HPL := Lib.hid hpl
    have HF := Lib.hid hf
    clear hpl hf
    go_enter Try.func36, Try.ntmps36
    go_wp2_with fail
    rw [← HW.out]
    refine HIX.out.mono ?_
    rintro e w' ⟨rfl, rfl⟩
    rw [HPL.out]
    clear HIX HPL
    go_wp2_with fail
    refine HRI.out.mono ?_
    rintro e w1 ⟨rfl, hb1⟩
    obtain ⟨p0, p1, p2, p3, hs1⟩ := box_keep e0 e1 e2 e3 (by omega) hb1
    have hb01 := hb.trans (hb1.mono hb.size)
    clear HRI e0 e1 e2 e3 hb hb1
    cases hR : rightB x with
    | false =>
      have HV : Hid (kidV x label = .tuple #[.int .u64 0, .int .i64 0, .bool false]) := Lib.hid (by rw [kidV, HF.out]; simp [hR])
      clear hR
      go_wp2_with fail
      go_ret3
      exact ⟨by rw [HV.out]; rfl, hb01⟩
    | true =>
      have hlk := ((rightB_iff x).1 hR).2.2.1
      have hi3 : i < n3 := by omega
      have hg : x.kids.getD i 0 = x.kids[i]'(by omega) := by simp [List.getD, show i < x.kids.length by omega]
      have hv : kidV x label = .tuple #[.int .u64 ((x.kids.getD i 0).toNat : Int), .int .i64 (if x.kids.length ≤ 4 then 4 + (i : Int) else 4 + (label.toNat : Int)), .bool true] := by rw [kidV, HF.out]; simp [hR]
      rw [hl3, hg] at hv
      clear hg
      have HV := Lib.hid hv
      clear hv hR
      go_wp2_with fail
      refine (class_any _ _ _ A3 n3 c3 w1 (by omega)).mono ?_
      rintro e w2 ⟨rfl, hb2⟩
      obtain ⟨q0, q1, q2, q3, hs2⟩ := box_keep p0 p1 p2 p3 hs1 hb2
      have hb02 := hb01.trans (hb2.mono hb01.size)
      clear p0 p1 p2 p3 hb01 hb2
      obtain ⟨hq, b, off, rfl, _, hc⟩ := (h3.below hb02).at hi3
      by_cases h4 : n3 ≤ 4
      · rw [if_pos h4] at HV
        rw [if_pos h4]
        go_wp2_with fail
        go_ret3
        exact ⟨by rw [HV.out]; rfl, hb02⟩
      · rw [if_neg h4] at HV
        rw [if_neg h4]
        go_wp2_with fail
        go_ret3
        exact ⟨by rw [HV.out]; rfl, hb02⟩

def aliveN : Nd := { pre := [6, 1], val := 0, labels := [2], kids := [99] }

/-- Words in a new block are a slice of words. -/
theorem ws_new (w : World) (l : List UInt64) (t : TypeId) (g : Nat) (hg : g = w.heap.size) : Ws (w.alloc (.cells (l.map wv).toArray t)) (some ⟨g, 0, none⟩) l.length l := by
  subst hg
  refine ⟨by simp, fun _ => ⟨w.heap.size, 0, rfl, by show w.heap.size < (w.heap.push _).size; simp, fun j hj => ?_⟩⟩
  rw [cell_of_row _ w.heap.size _ _ t (0, 0) (heap_alloc_new w _)]
  simp

set_option maxHeartbeats 2000000 in
theorem alive9_any (w : World) : Calls Try.prog 27 #[] w fun e w' => e = .returned (.bool true) ∧ Below w.heap.size w w' := by
  have hen := encode_node none none none 0 0 0 0 0 0 { pre := [], val := 7, labels := [], kids := [] } w (by decide) (by decide) (by decide) Rd.nil Rd.nil Rd.nil
  have HEN := Lib.hid hen
  clear hen
  go_enter Try.func27, Try.ntmps27
  go_wp2_with fail
  refine HEN.out.mono ?_
  rintro e w1 ⟨hb1, hE⟩
  rw [if_pos (by decide)] at hE
  obtain ⟨v1, rfl, ho1⟩ := hE
  obtain ⟨A1, c1, rfl, _, r1⟩ := rd_of_own ho1
  have s1 : Ws w1 A1 8 [1, 0, 7, 0, 0, 0, 0, 0] := r1
  rw [show (encW { pre := [], val := 7, labels := [], kids := [] }).length = 8 from rfl]
  clear HEN ho1 r1
  go_wp2_with fail
  have r2 := ws_new w1 [257, 354, 0, 33, 99, 0, 0, 0] 30 _ rfl
  have hb2 := (Below.refl w1.heap.size w1).alloc (Nat.le_refl _) (.cells (([257, 354, 0, 33, 99, 0, 0, 0] : List UInt64).map wv).toArray 30)
  have hW : (w1.alloc (.cells #[.int .u64 257, .int .u64 354, .int .u64 0, .int .u64 33, .int .u64 99, .int .u64 0, .int .u64 0, .int .u64 0] 30)) = w1.alloc (.cells (([257, 354, 0, 33, 99, 0, 0, 0] : List UInt64).map wv).toArray 30) := rfl
  rw [hW]
  clear hW
  generalize w1.alloc (.cells (([257, 354, 0, 33, 99, 0, 0, 0] : List UInt64).map wv).toArray 30) = W2 at *
  have hde := decode8 (some ⟨w1.heap.size, 0, none⟩) 8 [257, 354, 0, 33, 99, 0, 0, 0] W2 (by decide) r2
  have HDE := Lib.hid hde
  clear hde
  refine HDE.out.mono ?_
  rintro e w3 ⟨hb3, hD⟩
  rw [if_pos (by decide)] at hD
  obtain ⟨A4, c4, A5, c5, A6, c6, rfl, _, _, _, g4, g5, g6⟩ := hD
  have G4 : Bs w3 A4 2 [6, 1] := g4
  have G5 : Bs w3 A5 1 [2] := g5
  have G6 : Ws w3 A6 1 [99] := g6
  clear g4 g5 g6 HDE
  have ev : (Value.tuple #[.agg #[.slice A4 (cand [257, 354, 0, 33, 99, 0, 0, 0]).pre.length c4, .int .u64 ((cand [257, 354, 0, 33, 99, 0, 0, 0]).val.toNat : Int), .slice A5 (cand [257, 354, 0, 33, 99, 0, 0, 0]).labels.length c5, .slice A6 (cand [257, 354, 0, 33, 99, 0, 0, 0]).kids.length c6], .bool true]) =
    .tuple #[.agg #[.slice A4 2 c4, .int .u64 0, .slice A5 1 c5, .slice A6 1 c6], .bool true] := rfl
  rw [ev]
  clear ev
  have hb13 : Below w1.heap.size w1 w3 := hb2.trans (hb3.mono hb2.size)
  have s1' := s1.below hb13
  have hb03 := hb1.trans (hb13.mono hb1.size)
  clear s1 r2 hb2 hb3 hb13 hb1
  go_wp2_with fail
  obtain ⟨W4, hW4, e0, e1, e2, e3, hb4, hs4⟩ := box4 w3 44 (.slice A4 2 c4) (.int .u64 0) (.slice A5 1 c5) (.slice A6 1 c6)
  rw [← hW4]
  clear hW4
  have hki : Calls Try.prog 36 #[.agg #[.slice A4 2 c4, .int .u64 0, .slice A5 1 c5, .slice A6 1 c6], .int .u8 2] W4 fun e w' => e = .returned (.tuple #[.int .u64 99, .int .i64 4, .bool true]) ∧ Below W4.heap.size W4 w' :=
    kid_node A4 A5 A6 2 c4 1 c5 1 c6 aliveN 2 W4 (by decide) (by decide) (by decide) (G4.below hb4) (G5.below hb4) (G6.below hb4)
  refine hki.mono ?_
  rintro e w5 ⟨rfl, hb5⟩
  obtain ⟨p0, p1, p2, p3, hs5⟩ := box_keep e0 e1 e2 e3 (by omega) hb5
  have hb35 : Below w3.heap.size w3 w5 := hb4.trans (hb5.mono hb4.size)
  clear e0 e1 e2 e3 hki hb4 hb5
  go_wp2_with fail
  have r6 := ws_new w5 [1, 0, 7, 0, 0, 0, 0, 0] 30 _ rfl
  have hb6 := (Below.refl w5.heap.size w5).alloc (Nat.le_refl _) (.cells (([1, 0, 7, 0, 0, 0, 0, 0] : List UInt64).map wv).toArray 30)
  have hW : (w5.alloc (.cells #[.int .u64 1, .int .u64 0, .int .u64 7, .int .u64 0, .int .u64 0, .int .u64 0, .int .u64 0, .int .u64 0] 30)) = w5.alloc (.cells (([1, 0, 7, 0, 0, 0, 0, 0] : List UInt64).map wv).toArray 30) := rfl
  rw [hW]
  clear hW
  generalize w5.alloc (.cells (([1, 0, 7, 0, 0, 0, 0, 0] : List UInt64).map wv).toArray 30) = W6 at *
  have hsa := sameWords_any A1 (some ⟨w5.heap.size, 0, none⟩) 8 8 c1 8 [1, 0, 7, 0, 0, 0, 0, 0] [1, 0, 7, 0, 0, 0, 0, 0] W6 (by decide) (by decide) ((s1'.below hb35).below hb6) r6
  rw [show decide (([1, 0, 7, 0, 0, 0, 0, 0] : List UInt64) = [1, 0, 7, 0, 0, 0, 0, 0]) = true from rfl] at hsa
  refine hsa.mono ?_
  rintro e w7 ⟨rfl, hd7⟩
  have hb57 := hb6.trans ((hd7.below w5.heap.size))
  obtain ⟨q0, q1, q2, q3, hs7⟩ := box_keep p0 p1 p2 p3 hs5 hb57
  have hb37 := hb35.trans (hb57.mono hb35.size)
  have k4 := conv_bs (G4.below hb37) c4
  have k5 := conv_bs (G5.below hb37) c5
  have hb07 := hb03.trans (hb37.mono hb03.size)
  clear p0 p1 p2 p3 hsa hb57 hb37 hb35 hb6 hb03 s1' r6 hd7 G4 G5 G6 hs4 hs5
  go_wp2_with fail
  refine (class_any _ _ _ A6 1 c6 w7 (by decide)).mono ?_
  rintro e w8 ⟨rfl, hb8⟩
  rw [if_pos (by decide)]
  clear k4 k5 q0 q1 q2 q3
  go_wp2_with fail
  refine (words_any 2 w8).mono ?_
  rintro e w' ⟨rfl, rfl⟩
  rw [show wordsN 2 = 32 from rfl]
  go_wp2_with fail
  go_ret
  exact ⟨rfl, hb07.trans (hb8.mono hb07.size)⟩

end Go.Proofs.Ytaamkdejediccaa
