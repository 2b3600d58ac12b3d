/- Walks of the reference of layer 9: With. -/
import Derived.Test.YtaamkdejediccaaNdRefB
namespace Go.Proofs.Ytaamkdejediccaa
open Go.RowKit

set_option maxHeartbeats 8000000 in
theorem withR_yes (A1 A2 A3 : Option Addr) (n1 c1 n2 c2 n3 c3 : Nat) (x : Nd) (label : UInt8) (kid : UInt64) (w : World) (b1 : n1 ≤ 1000) (b2 : n2 ≤ 1000) (b3 : n3 ≤ 1000) (h1 : Bs w A1 n1 x.pre) (h2 : Bs w A2 n2 x.labels) (h3 : Ws w A3 n3 x.kids) (hok : withOk x label kid = true) :
    Calls Try.prog 39 #[.agg #[.slice A1 n1 c1, .int .u64 (x.val.toNat : Int), .slice A2 n2 c2, .slice A3 n3 c3], .int .u8 (label.toNat : Int), .int .u64 (kid.toNat : Int)] w fun e w' => NodeOut (withN x label kid) w' e ∧ Below w.heap.size w w' := by
  obtain ⟨W, hW, B1, B2, hbW, hsW⟩ := box_and_zero w 40 (.slice A1 n1 c1) (.int .u64 (x.val.toNat : Int)) (.slice A2 n2 c2) (.slice A3 n3 c3) (.slice none 0 0) (.int .u64 0) (.slice none 0 0) (.slice none 0 0)
  have HW := Lib.hid hW
  clear hW
  have hl1 := h1.len
  have hl2 := h2.len
  have hl3 := h3.len
  obtain ⟨y0, y1, y2, y3, f0, f1, f2, f3⟩ := blk4 B1
  have hgw : w.heap.size < W.heap.size := by omega
  have hlb : label.toNat < 256 := label.toNat_lt
  obtain ⟨hR, h16, hk, hh⟩ := (withOk_iff x label kid).1 hok
  have hR' := (rightB_iff x).1 hR
  have t1 : decide ((15 : Int) < (label.toNat : Int)) = false := by simp; omega
  have t2 : ((kid.toNat : Int) == 0) = false := by rw [beq_eq_false_iff_ne]; omega
  have hri := rightR_any A1 A2 A3 n1 c1 n2 c2 n3 c3 x W (by omega) (by omega) (by omega) (h1.below hbW) (h2.below hbW) (h3.below hbW)
  rw [hR] at hri
  have HRI := Lib.hid hri
  have hpl := placeS_le x.labels label
  have hlk := hR'.2.2.1
  obtain ⟨hlt, hge⟩ := place_split x.labels label hR'.2.2.2.2.1
  have hne := has_false_at x.labels label hh
  have HLT := Lib.hid hlt
  have HGE := Lib.hid hge
  have HNE := Lib.hid hne
  have HF0 := Lib.hid (placeOf_none _ _ (findL_none _ _ hh))
  generalize hp : placeS x.labels label = p at *
  have HP := Lib.hid hp
  clear hR hR' hri hk hh hok hlt hge hne hp h16
  go_enter Try.func39, Try.ntmps39
  go_wp2_with fail
  rw [← HW.out]
  clear HW
  refine HRI.out.mono ?_
  rintro e w1 ⟨rfl, hb1⟩
  clear y0 y1 y2 y3 f0 f1 f2 f3 HRI
  replace B1 := B1.below hb1 (by omega)
  replace B2 := B2.below hb1 (by omega)
  have hb01 := hbW.trans (hb1.mono hbW.size)
  have hs01 : w.heap.size + 2 ≤ w1.heap.size := by have := hb1.size; omega
  clear hb1 hbW hsW hgw
  obtain ⟨y0, y1, y2, y3, f0, f1, f2, f3⟩ := blk4 B1
  go_wp2_with fail
  have hfi := findR_any (.slice A1 n1 c1) (.int .u64 (x.val.toNat : Int)) (.slice A3 n3 c3) A2 n2 c2 x.labels label w1 (by omega) (h2.below hb01)
  rw [HF0.out] at hfi
  refine hfi.mono ?_
  rintro e w2 ⟨rfl, hb2⟩
  clear y0 y1 y2 y3 f0 f1 f2 f3 hfi HF0
  replace B1 := B1.below hb2 (by omega)
  replace B2 := B2.below hb2 (by omega)
  have hb02 := hb01.trans (hb2.mono hb01.size)
  have hs02 : w.heap.size + 2 ≤ w2.heap.size := by have := hb2.size; omega
  clear hb2 hb01 hs01
  obtain ⟨y0, y1, y2, y3, f0, f1, f2, f3⟩ := blk4 B1
  go_wp2_with fail
  clear y0 y1 y2 y3 f0 f1 f2 f3 t1 t2
  -- the new node's box
  obtain ⟨g2, hg2⟩ : ∃ g2, g2 = w2.heap.size := ⟨_, rfl⟩
  have hb23 : Below w2.heap.size w2 (w2.alloc (.cells #[.slice A1 n1 c1, .int .u64 (x.val.toNat : Int), .slice none 0 0, .slice none 0 0] 40)) := (Below.refl _ _).alloc (Nat.le_refl _) _
  have B3 : Blk (w2.alloc (.cells #[.slice A1 n1 c1, .int .u64 (x.val.toNat : Int), .slice none 0 0, .slice none 0 0] 40)) w2.heap.size 40 [.slice A1 n1 c1, .int .u64 (x.val.toNat : Int), .slice none 0 0, .slice none 0 0] := heap_alloc_new w2 _
  have hs3 : (w2.alloc (.cells #[.slice A1 n1 c1, .int .u64 (x.val.toNat : Int), .slice none 0 0, .slice none 0 0] 40)).heap.size = w2.heap.size + 1 := by simp
  rw [← hg2] at hb23 B3 hs3 ⊢
  generalize w2.alloc (.cells #[.slice A1 n1 c1, .int .u64 (x.val.toNat : Int), .slice none 0 0, .slice none 0 0] 40) = w3 at *
  have hg0 : w.heap.size + 2 ≤ g2 := by omega
  have HG2 := Lib.hid hg2
  clear hg2
  go_loopg [9, 10] n2 (fun gk d i wr => ∃ k A5 c5 A6 c6 m, k ≤ n2 ∧ n2 - k ≤ gk ∧ m ≤ k + 1 ∧ d = .bool (decide (p < k)) ∧ i = .int .i64 (k : Nat) ∧ wr.ownsRow (g2 + 1) 5 1 (.slice A5 m c5) m ((outW x.labels p label k).map bv) ∧ wr.ownsRow (g2 + 1) 30 1 (.slice A6 m c6) m ((outW x.kids p kid k).map wv) ∧
      Blk wr g2 40 [.slice A1 n1 c1, .int .u64 (x.val.toNat : Int), .slice A5 m c5, .slice A6 m c6] ∧ g2 < wr.heap.size ∧ Below g2 w2 wr)
  case atStart => exact ⟨0, none, 0, none, 0, 0, Nat.zero_le _, by omega, by omega, rfl, rfl, by rw [outW_zero]; exact World.ownsRow_nil _ _ _ _, by rw [outW_zero]; exact World.ownsRow_nil _ _ _ _, B3, by omega, hb23⟩
  case round =>
    obtain ⟨k, A5, c5, A6, c6, m, hk, hgk, hm, rfl, rfl, o5, o6, B4, hs4, hb4⟩ := hrel
    have B1r := B1.below hb4 (by omega)
    have hb0 := hb02.trans (hb4.mono (by have := HG2.out; omega))
    have r2 := h2.below hb0
    have r3 := h3.below hb0
    clear B3 hb23
    by_cases hlt : k < n2
    · have hk3 : k < n3 := by omega
      obtain ⟨hq2, b2', f2', rfl, hbb2, hc2⟩ := r2.at hlt
      obtain ⟨hq3, b3', f3', rfl, hbb3, hc3⟩ := r3.at hk3
      have i0 : (k : Int) < (n2 : Int) := by omega
      have i1 : (0 : Int) ≤ (k : Int) := by omega
      have i2 : (k : Int) < (n3 : Int) := by omega
      have hg23 : g2 = w2.heap.size := HG2.out
      have hb2g : b2' < g2 := by
        have := (h2.below hb02).at hlt
        obtain ⟨_, _, _, e, hb, _⟩ := this
        injection e with e; injection e with e _ _; omega
      have hb3g : b3' < g2 := by
        have := (h3.below hb02).at hk3
        obtain ⟨_, _, _, e, hb, _⟩ := this
        injection e with e; injection e with e _ _; omega
      clear hg23
      have C2 : Hid (∀ wx, Below g2 w2 wx → wx.cell? ⟨b2', f2' + k, none⟩ = some (.int .u8 (x.labels[k].toNat : Int))) := Lib.hid (fun wx hx => by
        obtain ⟨_, _, _, e, _, hc⟩ := (h2.below (hb02.trans (hx.mono (by have := HG2.out; omega)))).at hlt
        injection e with e; injection e with e1 e2 _; subst e1 e2; exact hc)
      have C3 : Hid (∀ wx, Below g2 w2 wx → wx.cell? ⟨b3', f3' + k, none⟩ = some (.int .u64 (x.kids[k].toNat : Int))) := Lib.hid (fun wx hx => by
        obtain ⟨_, _, _, e, _, hc⟩ := (h3.below (hb02.trans (hx.mono (by have := HG2.out; omega)))).at hk3
        injection e with e; injection e with e1 e2 _; subst e1 e2; exact hc)
      obtain ⟨La, hLa⟩ : ∃ La, La = outW x.labels p label k := ⟨_, rfl⟩
      obtain ⟨Ka, hKa⟩ : ∃ Ka, Ka = outW x.kids p kid k := ⟨_, rfl⟩
      rw [← hLa] at o5
      rw [← hKa] at o6
      obtain ⟨y0, y1, y2, y3, f0, f1, f2, f3⟩ := blk4 B4
      obtain ⟨z0, z1, z2, z3, k0, k1, k2, k3⟩ := blk4 B1r
      rcases Nat.lt_trichotomy k p with hkp | hkp | hkp
      case' inl =>
        rw [show decide (p < k) = false from decide_eq_false (by omega)]
        have t2 : decide (label.toNat < x.labels[k].toNat) = false := decide_eq_false (by have := HLT.out k hq2 hkp; omega)
        have PK : PackR w2 wr g2 A1 n1 c1 x.val x.labels[k] x.kids[k] (outW x.labels p label (k + 1)) (outW x.kids p kid (k + 1)) k :=
          ⟨A5, c5, A6, c6, m, La, Ka, hm, o5, o6, B4, hs4, hb4, by rw [hLa]; exact outW_lo _ _ _ _ hq2 hkp, by rw [hKa]; exact outW_lo _ _ _ _ hq3 hkp⟩
        have HD : Hid (decide (p < k + 1) = false) := Lib.hid (decide_eq_false (by omega))
        clear hLa hKa hkp
        go_wp2_with fail
        clear t2
      case' inr.inl =>
        rw [show decide (p < k) = false from decide_eq_false (by omega)]
        have t2 : label.toNat < x.labels[k].toNat := by
          have := HGE.out k hq2 (by omega)
          have := HNE.out k hq2
          omega
        have HLa : Hid ((La ++ [label]) ++ [x.labels[k]] = outW x.labels p label (k + 1)) := Lib.hid (by subst hkp; rw [hLa]; exact outW_at _ _ _ hq2)
        have HKa : Hid ((Ka ++ [kid]) ++ [x.kids[k]] = outW x.kids p kid (k + 1)) := Lib.hid (by subst hkp; rw [hKa]; exact outW_at _ _ _ hq3)
        have HD : Hid (decide (p < k + 1) = true) := Lib.hid (decide_eq_true (by omega))
        have hm' : m ≤ k := by
          have h5 := o5.1
          rw [hLa, List.length_map] at h5
          have : (outW x.labels p label k).length = k := by unfold outW; rw [if_pos (by omega)]; simp; omega
          omega
        clear hLa hKa hkp
        go_wp2_with (first
          | (at_builtin; refine wpList_app_new2 rfl (.tmp 53) (.tmp 55) 22 rfl Try.bytesTy wr (g2 + 1) (.slice A5 m c5) m (La.map bv) [Value.int .u8 (label.toNat : Int)] rfl o5 rfl rfl rfl rfl 1 1 rfl rfl (by simp [Value.oneCell']) (by simp; omega) (by decide) (by omega) ?_; intro v9 w9 o9 hb9 hk9; obtain ⟨A9, c9, rfl, _, _⟩ := rd_of_own o9; obtain ⟨B9, o9'⟩ := app_frame hb9 hk9 B4 (by omega) o5 o6 (by decide) o9; obtain ⟨u0, u1, u2, u3, j0, j1, j2, j3⟩ := blk4 B9)
          | (at_builtin; refine wpList_app_new3 rfl (.tmp 59) (.tmp 61) 38 rfl Try.wordsTy (w9.setCell ⟨g2, 2, none⟩ (.slice A9 (m + 1) c9)) w9.heap.size (by simp [World.setCell]) (g2 + 1) (.slice A6 m c6) m (Ka.map wv) [Value.int .u64 (kid.toNat : Int)] rfl (own_far o9' (by omega) 2 _) rfl rfl rfl rfl 1 1 rfl rfl (by simp [Value.oneCell']) (by simp; omega) (by decide) (by have := hb9.size; simp [World.setCell]; omega) ?_; intro v8 w8 o8 hb8 hk8; obtain ⟨A8, c8, rfl, _, _⟩ := rd_of_own o8; obtain ⟨B8, o8'⟩ := app_frame hb8 hk8 (B9.set_ 2 (.slice A9 (m + 1) c9)) (by omega) (own_far o9' (by omega) 2 (.slice A9 (m + 1) c9)) (own_far o9 (by omega) 2 (.slice A9 (m + 1) c9)) (by decide) o8; obtain ⟨u0', u1', u2', u3', j0', j1', j2', j3'⟩ := blk4 B8)
          | fail)
        have PK : PackR w2 (w8.setCell ⟨g2, 3, none⟩ (.slice A8 (m + 1) c8)) g2 A1 n1 c1 x.val x.labels[k] x.kids[k] (outW x.labels p label (k + 1)) (outW x.kids p kid (k + 1)) k := by
          refine ⟨A9, c9, A8, c8, m + 1, La ++ [label], Ka ++ [kid], by omega, ?_, ?_, B8.set_ 3 _, ?_, ?_, HLa.out, HKa.out⟩
          · have := own_far o8' (g := g2) (by omega) 3 (.slice A8 (m + 1) c8)
            rw [List.map_append]; exact this
          · have := own_far o8 (g := g2) (by omega) 3 (.slice A8 (m + 1) c8)
            rw [List.map_append]; exact this
          · have h1 := hb9.size; have h2 := hb8.size
            simp only [World.setCell, Array.size_modify] at h2 ⊢; omega
          · exact ((((hb4.trans (hb9.mono (by omega))).setCell (p := ⟨g2, 2, none⟩) (Nat.le_refl _) _).trans (hb8.mono (by omega))).setCell (p := ⟨g2, 3, none⟩) (Nat.le_refl _) _)
        clear t2 u0 u1 u2 u3 j0 j1 j2 j3 u0' u1' u2' u3' j0' j1' j2' j3' o9 o9' o8 o8' B8 B9 hb8 hb9 hk8 hk9 HLa HKa hm'
        generalize w8.setCell ⟨g2, 3, none⟩ (.slice A8 (m + 1) c8) = wa at *
      case' inr.inr =>
        rw [show decide (p < k) = true from decide_eq_true (by omega)]
        have PK : PackR w2 wr g2 A1 n1 c1 x.val x.labels[k] x.kids[k] (outW x.labels p label (k + 1)) (outW x.kids p kid (k + 1)) k :=
          ⟨A5, c5, A6, c6, m, La, Ka, hm, o5, o6, B4, hs4, hb4, by rw [hLa]; exact outW_hi _ _ _ _ hq2 hkp, by rw [hKa]; exact outW_hi _ _ _ _ hq3 hkp⟩
        have HD : Hid (decide (p < k + 1) = true) := Lib.hid (decide_eq_true (by omega))
        clear hLa hKa hkp
        go_wp2_with fail
      all_goals
        clear y0 y1 y2 y3 f0 f1 f2 f3 z0 z1 z2 z3 k0 k1 k2 k3 hc2 hc3 o5 o6 B4 B1r hs4 hb4 hb0 r2 r3 hm
        obtain ⟨A7, c7, A8, c8, m5, La5, Ka5, hm5, o5, o6, B4, hs4, hb4, hLa5, hKa5⟩ := PK
        have HLa5 := Lib.hid hLa5
        have HKa5 := Lib.hid hKa5
        have B1r := B1.below hb4 (by omega)
        have hc2 := C2.out _ hb4
        have hc3 := C3.out _ hb4
        clear hLa5 hKa5
        obtain ⟨y0, y1, y2, y3, f0, f1, f2, f3⟩ := blk4 B4
        obtain ⟨z0, z1, z2, z3, k0, k1, k2, k3⟩ := blk4 B1r
        go_cut [] (fun wx => ∃ A9 c9, wx.ownsRow (g2 + 1) 5 1 (.slice A9 (m5 + 1) c9) (m5 + 1) (List.map bv (La5 ++ [x.labels[k]])) ∧ wx.ownsRow (g2 + 1) 30 1 (.slice A8 m5 c8) m5 (List.map wv Ka5) ∧
          Blk wx g2 40 [.slice A1 n1 c1, .int .u64 (x.val.toNat : Int), .slice A9 (m5 + 1) c9, .slice A8 m5 c8] ∧ g2 < wx.heap.size ∧ Below g2 w2 wx)
        case first =>
          go_region_law (refine step_app_new3 rfl (.tmp 65) (.tmp 71) 22 rfl Try.bytesTy _ _ rfl (g2 + 1) (.slice A7 m5 c7) m5 (La5.map bv) [Value.int .u8 (x.labels[k].toNat : Int)] (by simp [Act.eval]) o5 rfl rfl rfl rfl 1 1 (by simp [Act.eval]) rfl (by simp [Value.oneCell']) (by simp; omega) (by decide) (by omega) ?_; intro v9 w9 o9 hb9 hk9; obtain ⟨A9, c9, rfl, _, _⟩ := rd_of_own o9; obtain ⟨B9, o9'⟩ := app_frame hb9 hk9 B4 (by omega) o5 o6 (by decide) o9; obtain ⟨u0, u1, u2, u3, j0, j1, j2, j3⟩ := blk4 B9)
          all_goals
            go_wp2_with fail
            go_meet
            refine ⟨A9, c9, ?_, own_far o9' (by omega) 2 _, B9.set_ 2 _, ?_, ((hb4.trans (hb9.mono (by omega))).setCell (p := ⟨g2, 2, none⟩) (Nat.le_refl _) _)⟩
            · have := own_far o9 (g := g2) (by omega) 2 (.slice A9 (m5 + 1) c9)
              rw [List.map_append]; exact this
            · have h9 := hb9.size
              simp only [World.setCell, Array.size_modify] at h9 ⊢; omega
        case rest =>
          clear y0 y1 y2 y3 f0 f1 f2 f3 z0 z1 z2 z3 k0 k1 k2 k3 hc2 hc3 o5 o6 B4 B1r hs4 hb4
          obtain ⟨A9, c9, o5, o6, B4, hs4, hb4⟩ := hcut
          have B1r := B1.below hb4 (by omega)
          have hc3 := C3.out _ hb4
          obtain ⟨y0, y1, y2, y3, f0, f1, f2, f3⟩ := blk4 B4
          obtain ⟨z0, z1, z2, z3, k0, k1, k2, k3⟩ := blk4 B1r
          go_wp2_with fail
          go_region_law (refine step_app_new3 rfl (.tmp 75) (.tmp 81) 38 rfl Try.wordsTy _ _ rfl (g2 + 1) (.slice A8 m5 c8) m5 (Ka5.map wv) [Value.int .u64 (x.kids[k].toNat : Int)] (by simp [Act.eval]) o6 rfl rfl rfl rfl 1 1 (by simp [Act.eval]) rfl (by simp [Value.oneCell']) (by simp; omega) (by decide) (by omega) ?_; intro v7 w7 o7 hb7 hk7; obtain ⟨A10, c10, rfl, _, _⟩ := rd_of_own o7; obtain ⟨B7, o7'⟩ := app_frame hb7 hk7 B4 (by omega) o6 o5 (by decide) o7; obtain ⟨u0, u1, u2, u3, j0, j1, j2, j3⟩ := blk4 B7)
          all_goals
            have P5 := own_far o7' (g := g2) (by omega) 3 (.slice A10 (m5 + 1) c10)
            have P6 := own_far o7 (g := g2) (by omega) 3 (.slice A10 (m5 + 1) c10)
            have hP6 : (List.map wv Ka5 ++ [Value.int .u64 (x.kids[k].toNat : Int)]) = List.map wv (Ka5 ++ [x.kids[k]]) := by rw [List.map_append]; rfl
            rw [hP6, HKa5.out] at P6
            rw [HLa5.out] at P5
            have P4 := B7.set_ 3 (.slice A10 (m5 + 1) c10)
            have Pb := (hb4.trans (hb7.mono (by omega))).setCell (p := ⟨g2, 3, none⟩) (Nat.le_refl _) (.slice A10 (m5 + 1) c10)
            have Ps : g2 < (w7.setCell ⟨g2, 3, none⟩ (.slice A10 (m5 + 1) c10)).heap.size := by
              have h9 := hb7.size
              simp only [World.setCell, Array.size_modify] at h9 ⊢; omega
            clear hP6 o7 o7' B7 hb7 hk7
            go_wp2_with fail
            go_roundg (n2 - (k + 1))
            case measure => omega
            case rel => exact ⟨k + 1, A9, c9, A10, c10, m5 + 1, by omega, Nat.le_refl _, by omega, by rw [HD.out], by go_num, P5, P6, P4, Ps, Pb⟩
    · have hkn : k = n2 := by omega
      subst hkn
      obtain ⟨y0, y1, y2, y3, f0, f1, f2, f3⟩ := blk4 B4
      obtain ⟨z0, z1, z2, z3, k0, k1, k2, k3⟩ := blk4 B1r
      have B2r := B2.below hb4 (by omega)
      rcases Nat.lt_or_ge p k with hpk | hpk
      case' inl =>
        rw [show decide (p < k) = true from decide_eq_true hpk]
        have o5' : wr.ownsRow (g2 + 1) 5 1 (.slice A5 m c5) m ((ins x.labels p label).map bv) := by
          rw [← hl2, outW_end _ _ _ (by omega)] at o5; exact o5
        have o6' : wr.ownsRow (g2 + 1) 30 1 (.slice A6 m c6) m ((ins x.kids p kid).map wv) := by
          rw [← hl2, hlk, outW_end _ _ _ (by omega)] at o6; exact o6
        have PE : EndR w2 wr g2 A1 n1 c1 x.val (ins x.labels p label) (ins x.kids p kid) A5 c5 A6 c6 m := ⟨o5', o6', B4, hs4, hb4⟩
        clear o5 o6 B4 o5' o6' hb4 hs4
        obtain ⟨x0, x1, x2, x3, q0, q1, q2, q3⟩ := blk4 B2r
        go_wp2_with fail
        clear x0 x1 x2 x3 q0 q1 q2 q3 B2r y0 y1 y2 y3 f0 f1 f2 f3 z0 z1 z2 z3 k0 k1 k2 k3 hb0 r2 r3 B1r
        generalize wr = wa at *
        generalize A5 = X5 at *
        generalize c5 = d5 at *
        generalize A6 = X6 at *
        generalize c6 = d6 at *
        generalize m = m7 at *
      case' inr =>
        have hpn : p = k := by omega
        rw [show decide (p < k) = false from decide_eq_false (by omega)]
        have e5 : Hid (outW x.labels p label k ++ [label] = ins x.labels p label) := Lib.hid (by rw [hpn, ← hl2]; exact outW_last _ _)
        have e6 : Hid (outW x.kids p kid k ++ [kid] = ins x.kids p kid) := Lib.hid (by rw [hpn, ← hl2, hlk]; exact outW_last _ _)
        obtain ⟨La, hLa⟩ : ∃ La, La = outW x.labels p label k := ⟨_, rfl⟩
        obtain ⟨Ka, hKa⟩ : ∃ Ka, Ka = outW x.kids p kid k := ⟨_, rfl⟩
        rw [← hLa] at o5 e5
        rw [← hKa] at o6 e6
        clear hLa hKa hpn
        go_wp2_with (first
          | (at_builtin; refine wpList_app_new2 rfl (.tmp 87) (.tmp 89) 22 rfl Try.bytesTy wr (g2 + 1) (.slice A5 m c5) m (La.map bv) [Value.int .u8 (label.toNat : Int)] rfl o5 rfl rfl rfl rfl 1 1 rfl rfl (by simp [Value.oneCell']) (by simp; omega) (by decide) (by omega) ?_; intro v9 w9 o9 hb9 hk9; obtain ⟨A9, c9, rfl, _, _⟩ := rd_of_own o9; obtain ⟨B9, o9'⟩ := app_frame hb9 hk9 B4 (by omega) o5 o6 (by decide) o9; obtain ⟨u0, u1, u2, u3, j0, j1, j2, j3⟩ := blk4 B9)
          | (at_builtin; refine wpList_app_new3 rfl (.tmp 93) (.tmp 95) 38 rfl Try.wordsTy (w9.setCell ⟨g2, 2, none⟩ (.slice A9 (m + 1) c9)) w9.heap.size (by simp [World.setCell]) (g2 + 1) (.slice A6 m c6) m (Ka.map wv) [Value.int .u64 (kid.toNat : Int)] rfl (own_far o9' (by omega) 2 _) rfl rfl rfl rfl 1 1 rfl rfl (by simp [Value.oneCell']) (by simp; omega) (by decide) (by have := hb9.size; simp [World.setCell]; omega) ?_; intro v8 w8 o8 hb8 hk8; obtain ⟨A8, c8, rfl, _, _⟩ := rd_of_own o8; obtain ⟨B8, o8'⟩ := app_frame hb8 hk8 (B9.set_ 2 (.slice A9 (m + 1) c9)) (by omega) (own_far o9' (by omega) 2 (.slice A9 (m + 1) c9)) (own_far o9 (by omega) 2 (.slice A9 (m + 1) c9)) (by decide) o8; obtain ⟨u0', u1', u2', u3', j0', j1', j2', j3'⟩ := blk4 B8; obtain ⟨x0, x1, x2, x3, q0, q1, q2, q3⟩ := blk4 (((B2r.below hb9 (by omega)).far (g' := g2) (by omega) 2 (.slice A9 (m + 1) c9)).below hb8 (by omega)))
          | fail)
        have PE : EndR w2 (w8.setCell ⟨g2, 3, none⟩ (.slice A8 (m + 1) c8)) g2 A1 n1 c1 x.val (ins x.labels p label) (ins x.kids p kid) A9 c9 A8 c8 (m + 1) := by
          refine ⟨?_, ?_, B8.set_ 3 _, ?_, ?_⟩
          · have := own_far o8' (g := g2) (by omega) 3 (.slice A8 (m + 1) c8)
            rw [← e5.out, List.map_append]; exact this
          · have := own_far o8 (g := g2) (by omega) 3 (.slice A8 (m + 1) c8)
            rw [← e6.out, List.map_append]; exact this
          · have h1 := hb9.size; have h2 := hb8.size
            simp only [World.setCell, Array.size_modify] at h2 ⊢; omega
          · exact ((((hb4.trans (hb9.mono (by omega))).setCell (p := ⟨g2, 2, none⟩) (Nat.le_refl _) _).trans (hb8.mono (by omega))).setCell (p := ⟨g2, 3, none⟩) (Nat.le_refl _) _)
        clear x0 x1 x2 x3 q0 q1 q2 q3 B2r z0 z1 z2 z3 k0 k1 k2 k3 hb0 r2 r3 B1r y0 y1 y2 y3 f0 f1 f2 f3 u0 u1 u2 u3 j0 j1 j2 j3 u0' u1' u2' u3' j0' j1' j2' j3' o9 o9' o8 o8' B8 B9 hb8 hb9 hk8 hk9 e5 e6 o5 o6 B4 hb4 hs4
        generalize w8.setCell ⟨g2, 3, none⟩ (.slice A8 (m + 1) c8) = wa at *
        generalize A9 = X5 at *
        generalize c9 = d5 at *
        generalize A8 = X6 at *
        generalize c8 = d6 at *
        generalize m + 1 = m7 at *
      all_goals
        obtain ⟨o5, o6, B4, hs4, hb4⟩ := PE
        have hba := hb02.trans (hb4.mono (by have := HG2.out; omega))
        have B2a := B2.below hb4 (by omega)
        have BF := ((((B2a.set_ 0 (Value.slice A1 n1 c1)).set_ 1 (Value.int .u64 (x.val.toNat : Int))).set_ 2 (Value.slice X5 m7 d5)).set_ 3 (Value.slice X6 m7 d6))
        have hbF := ((((hba.setCell (p := ⟨w.heap.size + 1, 0, none⟩) (by simp) (Value.slice A1 n1 c1)).setCell (p := ⟨w.heap.size + 1, 1, none⟩) (by simp) (Value.int .u64 (x.val.toNat : Int))).setCell (p := ⟨w.heap.size + 1, 2, none⟩) (by simp) (Value.slice X5 m7 d5)).setCell (p := ⟨w.heap.size + 1, 3, none⟩) (by simp) (Value.slice X6 m7 d6))
        have S2 := (rd_own (own_far (own_far (own_far (own_far o5 (g := w.heap.size + 1) (by omega) 0 (Value.slice A1 n1 c1)) (g := w.heap.size + 1) (by omega) 1 (Value.int .u64 (x.val.toNat : Int))) (g := w.heap.size + 1) (by omega) 2 (Value.slice X5 m7 d5)) (g := w.heap.size + 1) (by omega) 3 (Value.slice X6 m7 d6))).2
        have S3 := (rd_own (own_far (own_far (own_far (own_far o6 (g := w.heap.size + 1) (by omega) 0 (Value.slice A1 n1 c1)) (g := w.heap.size + 1) (by omega) 1 (Value.int .u64 (x.val.toNat : Int))) (g := w.heap.size + 1) (by omega) 2 (Value.slice X5 m7 d5)) (g := w.heap.size + 1) (by omega) 3 (Value.slice X6 m7 d6))).2
        generalize ((((wa.setCell ⟨w.heap.size + 1, 0, none⟩ (Value.slice A1 n1 c1)).setCell ⟨w.heap.size + 1, 1, none⟩ (Value.int .u64 (x.val.toNat : Int))).setCell ⟨w.heap.size + 1, 2, none⟩ (Value.slice X5 m7 d5)).setCell ⟨w.heap.size + 1, 3, none⟩ (Value.slice X6 m7 d6)) = WF at *
        obtain ⟨p0, p1, p2, p3, _⟩ := blk4 BF
        have e2 : (ins x.labels p label).length = m7 := by have := o5.1; simpa using this
        have e3 : (ins x.kids p kid).length = m7 := by have := o6.1; simpa using this
        refine bodyPost_ret (v := .tuple #[.agg #[(Value.slice A1 n1 c1), (Value.int .u64 (x.val.toNat : Int)), (Value.slice X5 m7 d5), (Value.slice X6 m7 d6)], .bool true]) (by simp [results, Try.results39, go_sem, p0, p1, p2, p3]) rfl ?_
        refine ⟨⟨A1, c1, X5, d5, X6, d6, ?_, ?_, ?_, ?_⟩, hbF⟩
        · simp only [withN, HP.out, e2, e3, hl1]
        · show Bs WF A1 x.pre.length x.pre
          rw [hl1]; exact h1.below hbF
        · simp only [withN, HP.out, e2]; exact S2
        · simp only [withN, HP.out, e3]; exact S3

end Go.Proofs.Ytaamkdejediccaa
