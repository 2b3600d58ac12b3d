/- Walks of package node: Encode. -/
import Derived.Test.YtaamkdejediccaaNodeC
import Derived.Test.YtaamkdejediccaaBaseB
import Derived.Test.YtaamkdejediccaaNodeQ
namespace Go.Proofs.Ytaamkdejediccaa
open Go.RowKit

theorem Try.wordsTy : RowTy Try.prog 38 30 (.int .u64 0) 8 := ⟨Try.underlying38, by kernel_rfl, rfl⟩
theorem Try.infoWord : (Try.prog.info? 30).map (fun i => (i.zero, i.size, i.bytes)) = some (some (.int .u64 0), 1, 8) := by kernel_rfl

def EncPost (x : Nd) (w : World) (e : Ending) (w' : World) : Prop :=
  Below w.heap.size w w' ∧ (if rightB x then ∃ v, e = .returned (.tuple #[v, .bool true]) ∧ w'.ownsRow w.heap.size 30 1 v (encW x).length ((encW x).map wv)
    else e = .returned (.tuple #[.slice none 0 0, .bool false]))

set_option maxHeartbeats 1000000 in
theorem encode_node (A1 A2 A3 : Option Addr) (n1 c1 n2 c2 n3 c3 : Nat) (x : Nd) (w : World) (b1 : n1 ≤ 1000000) (b2 : n2 ≤ 1000000) (b3 : n3 ≤ 1000000) (h1 : Bs w A1 n1 x.pre) (h2 : Bs w A2 n2 x.labels) (h3 : Ws w A3 n3 x.kids) :
    Calls Try.prog 29 #[.agg #[.slice A1 n1 c1, .int .u64 (x.val.toNat : Int), .slice A2 n2 c2, .slice A3 n3 c3]] w (EncPost x w) := by
  obtain ⟨i0, hi, hz0, hz1, hz2⟩ := info_parts Try.infoWord
  have hl1 := h1.len
  have hl2 := h2.len
  have hl3 := h3.len
  obtain ⟨W, hW, e0, e1, e2, e3, hb, hs⟩ := box4 w 44 (.slice A1 n1 c1) (.int .u64 (x.val.toNat : Int)) (.slice A2 n2 c2) (.slice A3 n3 c3)
  have g1 := h1.below hb
  have g2 := h2.below hb
  have g3 := h3.below hb
  have HW := Lib.hid hW
  clear hW
  have hri := right_node A1 A2 A3 n1 c1 n2 c2 n3 c3 x W b1 b2 b3 g1 g2 g3
  have HRI := Lib.hid hri
  clear hri
  go_enter Try.func29, Try.ntmps29
  go_wp2_with fail
  rw [← HW.out]
  refine HRI.out.mono ?_
  rintro e W1 ⟨rfl, hb1⟩
  clear HRI HW
  obtain ⟨e1x0, e1x1, e1x2, e1x3, hs1⟩ := box_keep e0 e1 e2 e3 (by omega) hb1
  clear e0 e1 e2 e3
  have hb01 : Below w.heap.size w W1 := hb.trans (hb1.mono hb.size)
  clear hb hb1 hs g1 g2 g3
  cases hR : rightB x with
  | false =>
    have HR := Lib.hid hR
    clear hR
    go_wp2_with fail
    go_ret2
    exact ⟨hb01, by rw [HR.out]; rfl⟩
  | true =>
    have HR := Lib.hid hR
    clear hR
    go_wp2_with fail
    refine (class_any _ _ _ A3 n3 c3 W1 (by omega)).mono ?_
    rintro e W2 ⟨rfl, hb2⟩
    obtain ⟨e2x0, e2x1, e2x2, e2x3, hs2⟩ := box_keep e1x0 e1x1 e1x2 e1x3 hs1 hb2
    clear e1x0 e1x1 e1x2 e1x3
    have hb02 := hb01.trans (hb2.mono hb01.size)
    clear hb01 hb2 hs1
    by_cases h4 : n3 ≤ 4
    · rw [if_pos h4]
      go_wp2_with fail
      refine (words_any 1 W2).mono ?_
      rintro e w' ⟨rfl, rfl⟩
      rw [show wordsN 1 = 8 from rfl]
      go_wp2_with
        (at_make
         refine wpList_make_full _ rfl _ _ 38 rfl w.heap.size 30 i0 (.int .u64 0) 1 Try.underlying38 hi hz0 hz1 .i64 .i64 _ _ 8 rfl rfl rfl rfl (by rw [hz2]; omega) (by decide) (by exact hb02.size) ?_
         intro w3 hown3 hgrow3
         have hb3 : Below W2.heap.size W2 w3 := (Below.refl _ _).grown hgrow3 (Nat.le_refl _) (by simp)
         obtain ⟨e3x0, e3x1, e3x2, e3x3, hs3⟩ := box_keep e2x0 e2x1 e2x2 e2x3 hs2 hb3
         clear e2x0 e2x1 e2x2 e2x3
         have hb03 := hb02.trans (hb3.mono hb02.size)
         have B3 : Blk w3 W2.heap.size 30 ((List.replicate 8 (0 : UInt64)).map wv) := by rw [← made_words]; exact blk_of_own hown3
         have i0 := B3.has (i := 0) (by simp)
         have i1 := B3.has (i := 1) (by simp)
         have i2 := B3.has (i := 2) (by simp)
         have i3 := B3.has (i := 3) (by simp)
         have f0 := B3.frozen 0
         have f1 := B3.frozen 1
         have f2 := B3.frozen 2
         have f3 := B3.frozen 3
         have hne : w.heap.size ≠ W2.heap.size := by omega
         have hb02s := hb02.size
         clear hown3 hgrow3 hb3 hb02)
      have hx := (rightB_iff x).1 HR.out
      obtain ⟨x1, x2, x3, x4, _, _⟩ := hx
      have hp1 := pack_any A1 n1 c1 x.pre (w3.setCell ⟨W2.heap.size, 0, none⟩ (.int .u64 (1 + 256 * (n3 : Int)))) (by omega) (h1.below (hb03.setCell (p := ⟨W2.heap.size, 0, none⟩) hb02s _)) x2
      have hP1 := packN_le x.pre 15 x1 x2
      rw [nat_pow_16_15] at hP1
      have E1 : Hid (((n1 + 16 * packN x.pre : Nat) : Int) = ((packU x.pre).toNat : Int)) := Lib.hid (by rw [packU, hl1, UInt64.toNat_ofNat_of_lt' (by simp [UInt64.size]; omega)])
      rw [E1.out] at hp1
      have HP1 := Lib.hid hp1
      have HL2 : Hid (n2 ≤ 4) := Lib.hid (by omega)
      clear hp1 x3 hP1
      refine HP1.out.mono ?_
      rintro e w' ⟨rfl, rfl⟩
      clear HP1
      go_wp2_with fail
      have B4 := ((B3.set_ 0 (.int .u64 (1 + 256 * (n3 : Int)))).set_ 1 (.int .u64 ((packU x.pre).toNat : Int))).set_ 2 (.int .u64 (x.val.toNat : Int))
      have hb04 := ((hb03.setCell (p := ⟨W2.heap.size, 0, none⟩) hb02s (.int .u64 (1 + 256 * (n3 : Int)))).setCell (p := ⟨W2.heap.size, 1, none⟩) hb02s (.int .u64 ((packU x.pre).toNat : Int))).setCell (p := ⟨W2.heap.size, 2, none⟩) hb02s (.int .u64 (x.val.toNat : Int))
      obtain ⟨e4x0, e4x1, e4x2, e4x3, hs3⟩ := box_set e3x0 e3x1 e3x2 e3x3 hs3 hne 0 (.int .u64 (1 + 256 * (n3 : Int)))
      clear e3x0 e3x1 e3x2 e3x3
      obtain ⟨e5x0, e5x1, e5x2, e5x3, hs3⟩ := box_set e4x0 e4x1 e4x2 e4x3 hs3 hne 1 (.int .u64 ((packU x.pre).toNat : Int))
      clear e4x0 e4x1 e4x2 e4x3
      obtain ⟨e6x0, e6x1, e6x2, e6x3, hs3⟩ := box_set e5x0 e5x1 e5x2 e5x3 hs3 hne 2 (.int .u64 (x.val.toNat : Int))
      clear e5x0 e5x1 e5x2 e5x3
      clear i0 i1 i2 i3 f0 f1 f2 f3 hb03 B3
      generalize (((w3.setCell ⟨W2.heap.size, 0, none⟩ (.int .u64 (1 + 256 * (n3 : Int)))).setCell ⟨W2.heap.size, 1, none⟩ (.int .u64 ((packU x.pre).toNat : Int))).setCell ⟨W2.heap.size, 2, none⟩ (.int .u64 (x.val.toNat : Int))) = W4 at *
      have hp2 := pack_any A2 n2 c2 x.labels W4 (by have := HL2.out; omega) (h2.below hb04) x4
      have hP2 := packN_le x.labels 15 (by have := HL2.out; omega) x4
      rw [nat_pow_16_15] at hP2
      have E2 : Hid (((n2 + 16 * packN x.labels : Nat) : Int) = ((packU x.labels).toNat : Int)) := Lib.hid (by rw [packU, hl2, UInt64.toNat_ofNat_of_lt' (by have := HL2.out; simp [UInt64.size]; omega)])
      rw [E2.out] at hp2
      have HP2 := Lib.hid hp2
      have i3 := B4.has (i := 3) (by simp)
      have f3 := B4.frozen 3
      clear hp2 hP2
      refine HP2.out.mono ?_
      rintro e w' ⟨rfl, rfl⟩
      clear HP2
      have B5 := B4.set_ 3 (.int .u64 ((packU x.labels).toNat : Int))
      have hb05 := hb04.setCell (p := ⟨W2.heap.size, 3, none⟩) hb02s (.int .u64 ((packU x.labels).toNat : Int))
      have hsl : ∀ W, (Instr.slice 38 (.slice (some ⟨W2.heap.size, 0, none⟩) 8 8) (some (.int .i64 4)) none none).run Try.prog W = .ok (.slice (some ⟨W2.heap.size, 4, none⟩) 4 4) W := fun W => by
        have := run_from Try.wordsTy (some ⟨W2.heap.size, 0, none⟩) 8 8 .i64 4 (by decide) W
        simpa [subA, Addr.add_lit] using this
      obtain ⟨e7x0, e7x1, e7x2, e7x3, hs3⟩ := box_set e6x0 e6x1 e6x2 e6x3 hs3 hne 3 (.int .u64 ((packU x.labels).toNat : Int))
      clear e6x0 e6x1 e6x2 e6x3
      go_wp2_with fail
      clear i3 f3 hb04 B4
      generalize W4.setCell ⟨W2.heap.size, 3, none⟩ (.int .u64 ((packU x.labels).toNat : Int)) = W5 at *
      have g3 : Ws W5.drew A3 n3 x.kids := h3.below hb05.drew
      go_region_law (refine step_copy_splice rfl (.tmp 49) (.tmp 51) 38 38 rfl 30 Try.underlying38 (by kernel_rfl) (some ⟨W2.heap.size, 4, none⟩) A3 4 4 n3 c3 (by simp [Act.eval]) (by simp [Act.eval]) W2.heap.size 4 _ 30 B5.drew (x.kids.map wv) (by rw [List.length_map, hl3]; exact (Nat.min_eq_left h4).symm) (src_of_ws g3) (by simp [hl3]; omega) (oneCell_wv _) w.heap.size w hb05.drew hb02s ?_; intro w6 hB6 hb6)
      all_goals
        go_wp2
        go_ret2
        refine ⟨hb6, ?_⟩
        rw [if_pos HR.out]
        have hB : Blk w6 W2.heap.size 30 ((encW x).map wv) := by
          have h := hB6.out
          rw [encW_small x (by omega)]
          rw [hl3]
          exact h
        have hlen : ((encW x).map wv).length = 8 := by rw [List.length_map, encW_length, if_pos (by omega)]
        refine ⟨_, rfl, ?_⟩
        have := hB.own (B := w.heap.size) hb02s (by rw [hlen]; decide)
        rw [hlen] at this
        rw [show (encW x).length = 8 by simpa using hlen]
        exact this
    · rw [if_neg h4]
      go_wp2_with fail
      refine (words_any 2 W2).mono ?_
      rintro e w' ⟨rfl, rfl⟩
      rw [show wordsN 2 = 32 from rfl]
      go_wp2_with
        (at_make
         refine wpList_make_full _ rfl _ _ 38 rfl w.heap.size 30 i0 (.int .u64 0) 1 Try.underlying38 hi hz0 hz1 .i64 .i64 _ _ 32 rfl rfl rfl rfl (by rw [hz2]; omega) (by decide) (by exact hb02.size) ?_
         intro w3 hown3 hgrow3
         have hb3 : Below W2.heap.size W2 w3 := (Below.refl _ _).grown hgrow3 (Nat.le_refl _) (by simp)
         obtain ⟨e8x0, e8x1, e8x2, e8x3, hs3⟩ := box_keep e2x0 e2x1 e2x2 e2x3 hs2 hb3
         clear e2x0 e2x1 e2x2 e2x3
         have hb03 := hb02.trans (hb3.mono hb02.size)
         have B3 : Blk w3 W2.heap.size 30 ((List.replicate 32 (0 : UInt64)).map wv) := by rw [← made_words]; exact blk_of_own hown3
         have i0 := B3.has (i := 0) (by simp)
         have i1 := B3.has (i := 1) (by simp)
         have i2 := B3.has (i := 2) (by simp)
         have i3 := B3.has (i := 3) (by simp)
         have f0 := B3.frozen 0
         have f1 := B3.frozen 1
         have f2 := B3.frozen 2
         have f3 := B3.frozen 3
         have hne : w.heap.size ≠ W2.heap.size := by omega
         have hb02s := hb02.size
         clear hown3 hgrow3 hb3 hb02)
      have hx := (rightB_iff x).1 HR.out
      obtain ⟨x1, x2, x3, x4, _, _⟩ := hx
      have hp1 := pack_any A1 n1 c1 x.pre (w3.setCell ⟨W2.heap.size, 0, none⟩ (.int .u64 (2 + 256 * (n3 : Int)))) (by omega) (h1.below (hb03.setCell (p := ⟨W2.heap.size, 0, none⟩) hb02s _)) x2
      have hP1 := packN_le x.pre 15 x1 x2
      rw [nat_pow_16_15] at hP1
      have E1 : Hid (((n1 + 16 * packN x.pre : Nat) : Int) = ((packU x.pre).toNat : Int)) := Lib.hid (by rw [packU, hl1, UInt64.toNat_ofNat_of_lt' (by simp [UInt64.size]; omega)])
      rw [E1.out] at hp1
      have HP1 := Lib.hid hp1
      clear hp1 hP1
      refine HP1.out.mono ?_
      rintro e w' ⟨rfl, rfl⟩
      clear HP1
      go_wp2_with fail
      have B4 := ((B3.set_ 0 (.int .u64 (2 + 256 * (n3 : Int)))).set_ 1 (.int .u64 ((packU x.pre).toNat : Int))).set_ 2 (.int .u64 (x.val.toNat : Int))
      have hb04 := ((hb03.setCell (p := ⟨W2.heap.size, 0, none⟩) hb02s (.int .u64 (2 + 256 * (n3 : Int)))).setCell (p := ⟨W2.heap.size, 1, none⟩) hb02s (.int .u64 ((packU x.pre).toNat : Int))).setCell (p := ⟨W2.heap.size, 2, none⟩) hb02s (.int .u64 (x.val.toNat : Int))
      obtain ⟨e9x0, e9x1, e9x2, e9x3, hs3⟩ := box_set e8x0 e8x1 e8x2 e8x3 hs3 hne 0 (.int .u64 (2 + 256 * (n3 : Int)))
      clear e8x0 e8x1 e8x2 e8x3
      obtain ⟨e10x0, e10x1, e10x2, e10x3, hs3⟩ := box_set e9x0 e9x1 e9x2 e9x3 hs3 hne 1 (.int .u64 ((packU x.pre).toNat : Int))
      clear e9x0 e9x1 e9x2 e9x3
      obtain ⟨e11x0, e11x1, e11x2, e11x3, hs3⟩ := box_set e10x0 e10x1 e10x2 e10x3 hs3 hne 2 (.int .u64 (x.val.toNat : Int))
      clear e10x0 e10x1 e10x2 e10x3
      clear i0 i1 i2 i3 f0 f1 f2 f3 hb03 B3
      generalize (((w3.setCell ⟨W2.heap.size, 0, none⟩ (.int .u64 (2 + 256 * (n3 : Int)))).setCell ⟨W2.heap.size, 1, none⟩ (.int .u64 ((packU x.pre).toNat : Int))).setCell ⟨W2.heap.size, 2, none⟩ (.int .u64 (x.val.toNat : Int))) = W4 at *
      have hrow : Blk W4 W2.heap.size 30 ((putKids (headB x) (x.labels.take 0) (x.kids.take 0)).map wv) := by
        rw [headB_row x (by omega), hl3]
        exact B4
      clear B4
      have hl23 : n2 = n3 := by omega
      have HX4 := Lib.hid x4
      clear x4 x3 x2
      subst hl23
      go_wp2_with fail
      go_loopw [57] (fun i wr => ∃ k : Nat, k ≤ n2 ∧ i = .int .i64 k ∧ Blk wr W2.heap.size 30 ((putKids (headB x) (x.labels.take k) (x.kids.take k)).map wv) ∧ Below W2.heap.size W4 wr) (fun i _ => n2 - (intOf i).toNat)
      case atStart => exact ⟨0, Nat.zero_le _, rfl, hrow, Below.refl _ _⟩
      case round =>
        obtain ⟨k, hk, rfl, hrow, hbr⟩ := hrel
        obtain ⟨e12x0, e12x1, e12x2, e12x3, hs3⟩ := box_keepB e11x0 e11x1 e11x2 e11x3 hs2 hbr
        clear e11x0 e11x1 e11x2 e11x3
        have hb0r : Below w.heap.size w wr := hb04.trans (hbr.mono hb02s)
        by_cases hlt : k < n2
        · obtain ⟨hq2, p2, off2, rfl, _, hc2⟩ := (h2.below hb0r).at hlt
          obtain ⟨hq3, p3, off3, rfl, _, hc3⟩ := (h3.below hb0r).at hlt
          have h16 := nib_get HX4.out hq2
          have hlen : ((putKids (headB x) (x.labels.take k) (x.kids.take k)).map wv).length = 32 := by simp [putKids_length, headB]
          have ic := hrow.has (i := 4 + x.labels[k].toNat) (by rw [hlen]; omega)
          have fc := hrow.frozen (4 + x.labels[k].toNat)
          have hrow2 := hrow.set_ (4 + x.labels[k].toNat) (.int .u64 (x.kids[k].toNat : Int))
          rw [← putKids_row x k hq2 hq3] at hrow2
          have HR2 := Lib.hid hrow2
          have HB2 := Lib.hid (hbr.setCell (p := ⟨W2.heap.size, 4 + x.labels[k].toNat, none⟩) (Nat.le_refl _) (.int .u64 (x.kids[k].toNat : Int)))
          clear hrow hrow2 hbr
          go_wp2
          go_roundw
          case rel => exact ⟨k + 1, by omega, by go_num, HR2.out, HB2.out⟩
          case measure => simp [intOf]; omega
        · have hkn : k = n2 := by omega
          subst hkn
          have hfin : (putKids (headB x) (x.labels.take k) (x.kids.take k)).map wv = (encW x).map wv := by
            rw [encW, if_neg (by omega), encB, List.take_of_length_le (by omega), List.take_of_length_le (by omega)]
          rw [hfin] at hrow
          have hlen : ((encW x).map wv).length = 32 := by rw [List.length_map, encW_length, if_neg (by omega)]
          have HO := Lib.hid (hrow.own (B := w.heap.size) hb02s (by rw [hlen]; decide))
          have HLE := Lib.hid hlen
          clear hrow hbr hfin hlen e12x0 e12x1 e12x2 e12x3
          go_wp2
          go_ret2
          refine ⟨hb0r, ?_⟩
          rw [if_pos HR.out]
          refine ⟨_, rfl, ?_⟩
          have := HO.out
          rw [HLE.out] at this
          rw [show (encW x).length = 32 by simpa using HLE.out]
          exact this
