/- Walks of package node: Decode at 32 words, and at others. -/
import Derived.Test.YtaamkdejediccaaNodeI
namespace Go.Proofs.Ytaamkdejediccaa
open Go.RowKit

set_option maxHeartbeats 1000000 in
theorem decode32 (A : Option Addr) (c : Nat) (l : List UInt64) (w : World) (hc : 32 ≤ c) (h : Ws w A 32 l) :
    Calls Try.prog 30 #[.slice A 32 c] w (DecPost l w) := by
  have hlen := h.len
  obtain ⟨hq1, b, off, rfl, hb0, hc1⟩ := h.at (show 1 < 32 by decide)
  go_enter Try.func30, Try.ntmps30
  go_wp2_with (first | (go_at_call_of 32 (Value.int IntKind.i64 1); refine (words_any 1 _).mono ?_; rintro e w' ⟨rfl, rfl⟩; rw [show wordsN 1 = 8 from rfl]) | (go_at_call_of 32 (Value.int IntKind.i64 2); refine (words_any 2 _).mono ?_; rintro e w' ⟨rfl, rfl⟩; rw [show wordsN 2 = 32 from rfl]))
  obtain ⟨W, hW, B1, B2, hbW, hsW⟩ := two_boxes w 44 (.slice none 0 0) (.int .u64 0)
  rw [← hW]
  clear hW
  have q3 : 3 < l.length := by omega
  have hsm := big_any (some ⟨b, off, none⟩) c l W hc (h.below hbW)
  have HSM := Lib.hid hsm
  clear hsm
  refine HSM.out.mono ?_
  rintro e w1 ⟨hb1, A2, c2, A3, c3, rfl, r2, r3⟩
  have R2 := Lib.hid r2
  have R3 := Lib.hid r3
  clear r2 r3
  clear HSM
  replace B1 := B1.below hb1 (by omega)
  replace B2 := B2.below hb1 (by omega)
  obtain ⟨y0, y1, y2, y3, f0, f1, f2, f3⟩ := blk4 B2
  have hb01 := hbW.trans (hb1.mono hbW.size)
  have hx1 : w1.cell? ⟨b, off + 1, none⟩ = some (.int .u64 (l[1].toNat : Int)) := (hb01.cell (p := ⟨b, off + 1, none⟩) hb0).trans hc1
  have hne : b ≠ w.heap.size + 1 := by omega
  go_wp2_with fail
  have hcand : cand l = { pre := candP l[1].toNat, val := l[2], labels := (collB 0 ((l.drop 4).take 16)), kids := (collK ((l.drop 4).take 16)) } := by
    rw [cand, if_neg (by omega), cand32]
    simp [List.getD, show 1 < l.length by omega, show 2 < l.length by omega]
  have hlk3 : (collK ((l.drop 4).take 16)).length ≤ 16 := by have := collK_le ((l.drop 4).take 16); simp at this; omega
  have hlk2 : (collB 0 ((l.drop 4).take 16)).length ≤ 16 := by rw [coll_length]; exact hlk3
  have r2 := R2.out
  have r3 := R3.out
  clear R2 R3
  generalize (collB 0 ((l.drop 4).take 16)) = lb at *
  generalize (collK ((l.drop 4).take 16)) = ks at *
  have hlp := candP_len l[1].toNat
  -- the labels and the kids are stored
  have B2' := (B2.set_ 2 (.slice A2 lb.length c2)).set_ 3 (.slice A3 ks.length c3)
  have B1' := (B1.far (g' := w.heap.size + 1) (by omega) 2 (.slice A2 lb.length c2)).far (g' := w.heap.size + 1) (by omega) 3 (.slice A3 ks.length c3)
  have hb02 := (hb01.setCell (p := ⟨w.heap.size + 1, 2, none⟩) (by simp) (.slice A2 lb.length c2)).setCell (p := ⟨w.heap.size + 1, 3, none⟩) (by simp) (.slice A3 ks.length c3)
  have r2' := own_far (own_far r2 (g := w.heap.size + 1) (by omega) 2 (.slice A2 lb.length c2)) (g := w.heap.size + 1) (by omega) 3 (.slice A3 ks.length c3)
  have r3' := own_far (own_far r3 (g := w.heap.size + 1) (by omega) 2 (.slice A2 lb.length c2)) (g := w.heap.size + 1) (by omega) 3 (.slice A3 ks.length c3)
  have hs2 : w.heap.size + 2 ≤ ((w1.setCell ⟨w.heap.size + 1, 2, none⟩ (.slice A2 lb.length c2)).setCell ⟨w.heap.size + 1, 3, none⟩ (.slice A3 ks.length c3)).heap.size := by
    have := hb1.size; simp only [World.setCell, Array.size_modify]; omega
  clear r2 r3 B1 B2 hb01 y0 y1 y2 y3 f0 f1 f2 f3 hx1 hb1
  generalize (w1.setCell ⟨w.heap.size + 1, 2, none⟩ (.slice A2 lb.length c2)).setCell ⟨w.heap.size + 1, 3, none⟩ (.slice A3 ks.length c3) = W2 at *
  -- the prefix
  refine (unpackP_any l[1].toNat W2 (by have := l[1].toNat_lt; simpa [UInt64.size] using this)).mono ?_
  rintro e w3 ⟨hb3, A1, c1, b1, rfl, r1⟩
  replace B1' := B1'.below hb3 B1'.lt
  replace B2' := B2'.below hb3 B2'.lt
  have hb03 := hb02.trans (hb3.mono hb02.size)
  obtain ⟨y0, y1, y2, y3, f0, f1, f2, f3⟩ := blk4 B2'
  have hx2 : w3.cell? ⟨b, off + 2, none⟩ = some (.int .u64 (l[2].toNat : Int)) := (hb03.cell (p := ⟨b, off + 2, none⟩) hb0).trans (h.cellAt (by decide) (by omega))
  go_wp2_with fail
  have B2'' := (B2'.set_ 0 (.slice A1 (candP l[1].toNat).length c1)).set_ 1 (.int .u64 (l[2].toNat : Int))
  have B1'' := (B1'.far (g' := w.heap.size + 1) (by omega) 0 (.slice A1 (candP l[1].toNat).length c1)).far (g' := w.heap.size + 1) (by omega) 1 (.int .u64 (l[2].toNat : Int))
  have hb04 := (hb03.setCell (p := ⟨w.heap.size + 1, 0, none⟩) (by simp) (.slice A1 (candP l[1].toNat).length c1)).setCell (p := ⟨w.heap.size + 1, 1, none⟩) (by simp) (.int .u64 (l[2].toNat : Int))
  have s2 := own_far (own_far (own_below r2' hb3) (g := w.heap.size + 1) (by omega) 0 (.slice A1 (candP l[1].toNat).length c1)) (g := w.heap.size + 1) (by omega) 1 (.int .u64 (l[2].toNat : Int))
  have s3 := own_far (own_far (own_below r3' hb3) (g := w.heap.size + 1) (by omega) 0 (.slice A1 (candP l[1].toNat).length c1)) (g := w.heap.size + 1) (by omega) 1 (.int .u64 (l[2].toNat : Int))
  have s1 := own_far (own_far r1 (g := w.heap.size + 1) (by omega) 0 (.slice A1 (candP l[1].toNat).length c1)) (g := w.heap.size + 1) (by omega) 1 (.int .u64 (l[2].toNat : Int))
  clear r1 r2' r3' B1' B2' hb02 hb03 y0 y1 y2 y3 f0 f1 f2 f3 hx2
  generalize (w3.setCell ⟨w.heap.size + 1, 0, none⟩ (.slice A1 (candP l[1].toNat).length c1)).setCell ⟨w.heap.size + 1, 1, none⟩ (.int .u64 (l[2].toNat : Int)) = W4 at *
  -- the node is encoded anew
  have hen := encode_node A1 A2 A3 (candP l[1].toNat).length c1 lb.length c2 ks.length c3 (cand l) W4 (by omega) (by omega) (by omega) (by rw [hcand]; exact (rd_own s1).2) (by rw [hcand]; exact (rd_own s2).2) (by rw [hcand]; exact (rd_own s3).2)
  rw [show (cand l).val = l[2] by rw [hcand]] at hen
  have HEN := Lib.hid hen
  have HC := Lib.hid hcand
  clear hen hcand
  obtain ⟨y0, y1, y2, y3, f0, f1, f2, f3⟩ := blk4 B2''
  go_wp2_with fail
  refine HEN.out.mono ?_
  rintro e w5 ⟨hb5, hE⟩
  clear HEN y0 y1 y2 y3 f0 f1 f2 f3
  replace B1'' := B1''.below hb5 B1''.lt
  replace B2'' := B2''.below hb5 B2''.lt
  obtain ⟨y0, y1, y2, y3, f0, f1, f2, f3⟩ := blk4 B2''
  obtain ⟨z0, z1, z2, z3, k0, k1, k2, k3⟩ := blk4 B1''
  have hb05 := hb04.trans (hb5.mono hb04.size)
  cases hR : rightB (cand l) with
  | false =>
    rw [hR] at hE
    subst hE
    have HD : Hid (decOk l = false) := Lib.hid (by rw [decOk, hR]; simp)
    clear hR
    go_wp2_with fail
    have BF := ((((B1''.set_ 0 (Value.slice none 0 0)).set_ 1 (Value.int .u64 0)).set_ 2 (Value.slice none 0 0)).set_ 3 (Value.slice none 0 0))
    have hbF := (((hb05.setCell (p := ⟨w.heap.size, 0, none⟩) (Nat.le_refl _) (Value.slice none 0 0)).setCell (p := ⟨w.heap.size, 1, none⟩) (Nat.le_refl _) (Value.int .u64 0)).setCell (p := ⟨w.heap.size, 2, none⟩) (Nat.le_refl _) (Value.slice none 0 0)).setCell (p := ⟨w.heap.size, 3, none⟩) (Nat.le_refl _) (Value.slice none 0 0)
    generalize (((w5.setCell ⟨w.heap.size, 0, none⟩ (Value.slice none 0 0)).setCell ⟨w.heap.size, 1, none⟩ (Value.int .u64 0)).setCell ⟨w.heap.size, 2, none⟩ (Value.slice none 0 0)).setCell ⟨w.heap.size, 3, none⟩ (Value.slice none 0 0) = WF at *
    obtain ⟨p0, p1, p2, p3, _⟩ := blk4 BF
    refine bodyPost_ret (v := .tuple #[.agg #[Value.slice none 0 0, Value.int .u64 0, Value.slice none 0 0, Value.slice none 0 0], .bool false]) (by simp [results, Try.results30, go_sem, p0, p1, p2, p3]) rfl ?_
    exact ⟨hbF, by rw [HD.out]; rfl⟩
  | true =>
    rw [hR, if_pos rfl] at hE
    obtain ⟨v5, rfl, ho5⟩ := hE
    obtain ⟨A5, c5, rfl, _, hr5⟩ := rd_of_own ho5
    have heq := equalW_any A5 (some ⟨b, off, none⟩) (encW (cand l)).length 32 c5 c (encW (cand l)) l w5 (by rw [encW_length]; split <;> decide) (by decide) hr5 (h.below hb05)
    have hnn : (encW (cand l)).length ≤ 32 := by rw [encW_length]; split <;> decide
    generalize (encW (cand l)).length = n5 at *
    have HEQ := Lib.hid heq
    clear heq ho5 hr5
    by_cases he : encW (cand l) = l
    · have HD : Hid (decOk l = true) := Lib.hid (by rw [decOk, hR]; simp [hlen, he])
      have HE : Hid (decide (encW (cand l) = l) = true) := Lib.hid (by simp [he])
      clear he hR
      go_wp2_with fail
      refine HEQ.out.mono ?_
      rintro e w6 ⟨rfl, hdr⟩
      have hb6 : Below w5.heap.size w5 w6 := hdr.below _
      replace B1'' := B1''.below hb6 B1''.lt
      replace B2'' := B2''.below hb6 B2''.lt
      replace hb05 := hb05.trans (hb6.mono hb05.size)
      clear y0 y1 y2 y3 f0 f1 f2 f3 z0 z1 z2 z3 k0 k1 k2 k3 hdr
      obtain ⟨y0, y1, y2, y3, f0, f1, f2, f3⟩ := blk4 B2''
      obtain ⟨z0, z1, z2, z3, k0, k1, k2, k3⟩ := blk4 B1''
      rw [HE.out]
      clear HEQ HE
      go_wp2_with fail
      have BF := ((((B1''.set_ 0 (Value.slice A1 (candP l[1].toNat).length c1)).set_ 1 (Value.int .u64 (l[2].toNat : Int))).set_ 2 (Value.slice A2 lb.length c2)).set_ 3 (Value.slice A3 ks.length c3))
      have hbF := (((hb05.setCell (p := ⟨w.heap.size, 0, none⟩) (Nat.le_refl _) (Value.slice A1 (candP l[1].toNat).length c1)).setCell (p := ⟨w.heap.size, 1, none⟩) (Nat.le_refl _) (Value.int .u64 (l[2].toNat : Int))).setCell (p := ⟨w.heap.size, 2, none⟩) (Nat.le_refl _) (Value.slice A2 lb.length c2)).setCell (p := ⟨w.heap.size, 3, none⟩) (Nat.le_refl _) (Value.slice A3 ks.length c3)
      have S1 := own_far (own_far (own_far (own_far (own_below (own_below s1 hb5) hb6) (g := w.heap.size) (by omega) 0 (Value.slice A1 (candP l[1].toNat).length c1)) (g := w.heap.size) (by omega) 1 (Value.int .u64 (l[2].toNat : Int))) (g := w.heap.size) (by omega) 2 (Value.slice A2 lb.length c2)) (g := w.heap.size) (by omega) 3 (Value.slice A3 ks.length c3)
      have S2 := own_far (own_far (own_far (own_far (own_below (own_below s2 hb5) hb6) (g := w.heap.size) (by omega) 0 (Value.slice A1 (candP l[1].toNat).length c1)) (g := w.heap.size) (by omega) 1 (Value.int .u64 (l[2].toNat : Int))) (g := w.heap.size) (by omega) 2 (Value.slice A2 lb.length c2)) (g := w.heap.size) (by omega) 3 (Value.slice A3 ks.length c3)
      have S3 := own_far (own_far (own_far (own_far (own_below (own_below s3 hb5) hb6) (g := w.heap.size) (by omega) 0 (Value.slice A1 (candP l[1].toNat).length c1)) (g := w.heap.size) (by omega) 1 (Value.int .u64 (l[2].toNat : Int))) (g := w.heap.size) (by omega) 2 (Value.slice A2 lb.length c2)) (g := w.heap.size) (by omega) 3 (Value.slice A3 ks.length c3)
      generalize (((w6.setCell ⟨w.heap.size, 0, none⟩ (Value.slice A1 (candP l[1].toNat).length c1)).setCell ⟨w.heap.size, 1, none⟩ (Value.int .u64 (l[2].toNat : Int))).setCell ⟨w.heap.size, 2, none⟩ (Value.slice A2 lb.length c2)).setCell ⟨w.heap.size, 3, none⟩ (Value.slice A3 ks.length c3) = WF at *
      obtain ⟨p0, p1, p2, p3, _⟩ := blk4 BF
      refine bodyPost_ret (v := .tuple #[.agg #[Value.slice A1 (candP l[1].toNat).length c1, Value.int .u64 (l[2].toNat : Int), Value.slice A2 lb.length c2, Value.slice A3 ks.length c3], .bool true]) (by simp [results, Try.results30, go_sem, p0, p1, p2, p3]) rfl ?_
      refine ⟨hbF, ?_⟩
      rw [HD.out, if_pos rfl, HC.out]
      exact ⟨A1, c1, A2, c2, A3, c3, rfl, (rd_own S1).1, (rd_own S2).1, (rd_own S3).1, (rd_own S1).2, (rd_own S2).2, (rd_own S3).2⟩
    · have HD : Hid (decOk l = false) := Lib.hid (by rw [decOk, hR]; simp [he])
      have HE : Hid (decide (encW (cand l) = l) = false) := Lib.hid (by simp [he])
      clear he hR
      go_wp2_with fail
      refine HEQ.out.mono ?_
      rintro e w6 ⟨rfl, hdr⟩
      have hb6 : Below w5.heap.size w5 w6 := hdr.below _
      replace B1'' := B1''.below hb6 B1''.lt
      replace B2'' := B2''.below hb6 B2''.lt
      replace hb05 := hb05.trans (hb6.mono hb05.size)
      clear y0 y1 y2 y3 f0 f1 f2 f3 z0 z1 z2 z3 k0 k1 k2 k3 hdr
      obtain ⟨y0, y1, y2, y3, f0, f1, f2, f3⟩ := blk4 B2''
      obtain ⟨z0, z1, z2, z3, k0, k1, k2, k3⟩ := blk4 B1''
      rw [HE.out]
      clear HEQ HE
      go_wp2_with fail
      have BF := ((((B1''.set_ 0 (Value.slice none 0 0)).set_ 1 (Value.int .u64 0)).set_ 2 (Value.slice none 0 0)).set_ 3 (Value.slice none 0 0))
      have hbF := (((hb05.setCell (p := ⟨w.heap.size, 0, none⟩) (Nat.le_refl _) (Value.slice none 0 0)).setCell (p := ⟨w.heap.size, 1, none⟩) (Nat.le_refl _) (Value.int .u64 0)).setCell (p := ⟨w.heap.size, 2, none⟩) (Nat.le_refl _) (Value.slice none 0 0)).setCell (p := ⟨w.heap.size, 3, none⟩) (Nat.le_refl _) (Value.slice none 0 0)
      generalize (((w6.setCell ⟨w.heap.size, 0, none⟩ (Value.slice none 0 0)).setCell ⟨w.heap.size, 1, none⟩ (Value.int .u64 0)).setCell ⟨w.heap.size, 2, none⟩ (Value.slice none 0 0)).setCell ⟨w.heap.size, 3, none⟩ (Value.slice none 0 0) = WF at *
      obtain ⟨p0, p1, p2, p3, _⟩ := blk4 BF
      refine bodyPost_ret (v := .tuple #[.agg #[Value.slice none 0 0, Value.int .u64 0, Value.slice none 0 0, Value.slice none 0 0], .bool false]) (by simp [results, Try.results30, go_sem, p0, p1, p2, p3]) rfl ?_
      exact ⟨hbF, by rw [HD.out]; rfl⟩

set_option maxHeartbeats 400000 in
theorem decode_other (A : Option Addr) (n c : Nat) (l : List UInt64) (w : World) (_hn : n ≤ 1000000) (h : Ws w A n l) (h8 : n ≠ 8) (h32 : n ≠ 32) :
    Calls Try.prog 30 #[.slice A n c] w (DecPost l w) := by
  have hlen := h.len
  have HD : Hid (decOk l = false) := Lib.hid (by rw [decOk, hlen]; simp [h8, h32])
  have t8 : ((n : Int) == 8) = false := by simp; omega
  have t32 : ((n : Int) == 32) = false := by simp; omega
  obtain ⟨W, hW, B1, B2, hbW, hsW⟩ := two_boxes w 44 (.slice none 0 0) (.int .u64 0)
  obtain ⟨z0, z1, z2, z3, k0, k1, k2, k3⟩ := blk4 B1
  have HW := Lib.hid hW
  clear hW h8 h32
  go_enter Try.func30, Try.ntmps30
  go_wp2_with fail
  rw [← HW.out]
  refine (words_any 1 _).mono ?_
  rintro e w' ⟨rfl, rfl⟩
  rw [show wordsN 1 = 8 from rfl]
  go_wp2_with fail
  refine (words_any 2 _).mono ?_
  rintro e w' ⟨rfl, rfl⟩
  rw [show wordsN 2 = 32 from rfl]
  go_wp2_with fail
  have BF := ((((B1.set_ 0 (Value.slice none 0 0)).set_ 1 (Value.int .u64 0)).set_ 2 (Value.slice none 0 0)).set_ 3 (Value.slice none 0 0))
  have hbF := (((hbW.setCell (p := ⟨w.heap.size, 0, none⟩) (Nat.le_refl _) (Value.slice none 0 0)).setCell (p := ⟨w.heap.size, 1, none⟩) (Nat.le_refl _) (Value.int .u64 0)).setCell (p := ⟨w.heap.size, 2, none⟩) (Nat.le_refl _) (Value.slice none 0 0)).setCell (p := ⟨w.heap.size, 3, none⟩) (Nat.le_refl _) (Value.slice none 0 0)
  generalize (((W.setCell ⟨w.heap.size, 0, none⟩ (Value.slice none 0 0)).setCell ⟨w.heap.size, 1, none⟩ (Value.int .u64 0)).setCell ⟨w.heap.size, 2, none⟩ (Value.slice none 0 0)).setCell ⟨w.heap.size, 3, none⟩ (Value.slice none 0 0) = WF at *
  obtain ⟨p0, p1, p2, p3, _⟩ := blk4 BF
  refine bodyPost_ret (v := .tuple #[.agg #[Value.slice none 0 0, Value.int .u64 0, Value.slice none 0 0, Value.slice none 0 0], .bool false]) (by simp [results, Try.results30, go_sem, p0, p1, p2, p3]) rfl ?_
  exact ⟨hbF, by rw [HD.out]; rfl⟩

theorem decode_any (A : Option Addr) (n c : Nat) (l : List UInt64) (w : World) (hn : n ≤ 1000000) (hc : n ≤ c) (h : Ws w A n l) :
    Calls Try.prog 30 #[.slice A n c] w (DecPost l w) := by
  by_cases h8 : n = 8
  · subst h8; exact decode8 A c l w hc h
  · by_cases h32 : n = 32
    · subst h32; exact decode32 A c l w hc h
    · exact decode_other A n c l w hn h h8 h32

end Go.Proofs.Ytaamkdejediccaa
