/- Walks of the reference of layer 9: Without. -/
import Derived.Test.YtaamkdejediccaaNdRefA
namespace Go.Proofs.Ytaamkdejediccaa
open Go.RowKit

set_option maxHeartbeats 4000000 in
theorem withoutR_no (A1 A2 A3 : Option Addr) (n1 c1 n2 c2 n3 c3 : Nat) (x : Nd) (label : UInt8) (w : World) (b1 : n1 ≤ 1000000) (b2 : n2 ≤ 1000000) (b3 : n3 ≤ 1000000) (h1 : Bs w A1 n1 x.pre) (h2 : Bs w A2 n2 x.labels) (h3 : Ws w A3 n3 x.kids) (hno : findL x.labels label = none ∨ rightB x = false) :
    Calls Try.prog 41 #[.agg #[.slice A1 n1 c1, .int .u64 (x.val.toNat : Int), .slice A2 n2 c2, .slice A3 n3 c3], .int .u8 (label.toNat : Int)] w fun e w' => e = .returned noNode ∧ Below w.heap.size w w' := by
  obtain ⟨W, hW, B1, B2, hbW, hsW⟩ := box_and_zero w 40 (.slice A1 n1 c1) (.int .u64 (x.val.toNat : Int)) (.slice A2 n2 c2) (.slice A3 n3 c3) (.slice none 0 0) (.int .u64 0) (.slice none 0 0) (.slice none 0 0)
  have HW := Lib.hid hW
  clear hW
  obtain ⟨y0, y1, y2, y3, f0, f1, f2, f3⟩ := blk4 B1
  have hgw : w.heap.size < W.heap.size := by omega
  go_enter Try.func41, Try.ntmps41
  go_wp2_with fail
  rw [← HW.out]
  clear HW
  refine (rightR_any A1 A2 A3 n1 c1 n2 c2 n3 c3 x W b1 b2 b3 (h1.below hbW) (h2.below hbW) (h3.below hbW)).mono ?_
  rintro e w1 ⟨rfl, hb1⟩
  clear y0 y1 y2 y3 f0 f1 f2 f3
  replace B1 := B1.below hb1 (by omega)
  replace B2 := B2.below hb1 (by omega)
  have hb01 := hbW.trans (hb1.mono hbW.size)
  have hg1 : w.heap.size + 2 ≤ w1.heap.size := by have := hb1.size; omega
  replace h2 := h2.below hb01
  clear hb1 hbW
  obtain ⟨y0, y1, y2, y3, f0, f1, f2, f3⟩ := blk4 B1
  obtain ⟨z0, z1, z2, z3, k0, k1, k2, k3⟩ := blk4 B2
  cases hR : rightB x
  case' true =>
    have hf : findL x.labels label = none := by
      rcases hno with h | h
      · exact h
      · rw [hR] at h; cases h
    have hs := findR_any (.slice A1 n1 c1) (.int .u64 (x.val.toNat : Int)) (.slice A3 n3 c3) A2 n2 c2 x.labels label w1 b2 h2
    rw [placeOf_none _ _ hf] at hs
    have HS := Lib.hid hs
    clear hs hf hR hno
    go_wp2_with fail
    refine HS.out.mono ?_
    rintro e w2 ⟨rfl, hb2⟩
    clear y0 y1 y2 y3 f0 f1 f2 f3 z0 z1 z2 z3 k0 k1 k2 k3 HS
    replace B2 := B2.below hb2 (by omega)
    replace hb01 := hb01.trans (hb2.mono hb01.size)
    obtain ⟨z0, z1, z2, z3, k0, k1, k2, k3⟩ := blk4 B2
    go_wp2_with fail
    clear hb2 hg1 B1 h2
    generalize hww : w2 = w1 at *
    clear hww
  case' false =>
    clear hR hno
    go_wp2_with fail
  all_goals
    have BF := ((((B2.set_ 0 (Value.slice none 0 0)).set_ 1 (Value.int .u64 0)).set_ 2 (Value.slice none 0 0)).set_ 3 (Value.slice none 0 0))
    have hbF := (((hb01.setCell (p := ⟨w.heap.size + 1, 0, none⟩) (by simp) (Value.slice none 0 0)).setCell (p := ⟨w.heap.size + 1, 1, none⟩) (by simp) (Value.int .u64 0)).setCell (p := ⟨w.heap.size + 1, 2, none⟩) (by simp) (Value.slice none 0 0)).setCell (p := ⟨w.heap.size + 1, 3, none⟩) (by simp) (Value.slice none 0 0)
    generalize (((World.setCell _ ⟨w.heap.size + 1, 0, none⟩ (Value.slice none 0 0)).setCell ⟨w.heap.size + 1, 1, none⟩ (Value.int .u64 0)).setCell ⟨w.heap.size + 1, 2, none⟩ (Value.slice none 0 0)).setCell ⟨w.heap.size + 1, 3, none⟩ (Value.slice none 0 0) = WF at *
    obtain ⟨p0, p1, p2, p3, _⟩ := blk4 BF
    exact bodyPost_ret (v := noNode) (by unfold noNode; simp [results, Try.results41, go_sem, p0, p1, p2, p3]) rfl ⟨rfl, hbF⟩

set_option maxHeartbeats 8000000 in
theorem withoutR_yes (A1 A2 A3 : Option Addr) (n1 c1 n2 c2 n3 c3 : Nat) (x : Nd) (label : UInt8) (q : Nat) (w : World) (b1 : n1 ≤ 1000) (b2 : n2 ≤ 1000) (b3 : n3 ≤ 1000) (h1 : Bs w A1 n1 x.pre) (h2 : Bs w A2 n2 x.labels) (h3 : Ws w A3 n3 x.kids) (hf : findL x.labels label = some q) (hR : rightB x = true) :
    Calls Try.prog 41 #[.agg #[.slice A1 n1 c1, .int .u64 (x.val.toNat : Int), .slice A2 n2 c2, .slice A3 n3 c3], .int .u8 (label.toNat : Int)] w fun e w' => NodeOut (outN x q) w' e ∧ Below w.heap.size w w' := by
  obtain ⟨W, hW, B1, B2, hbW, hsW⟩ := box_and_zero w 40 (.slice A1 n1 c1) (.int .u64 (x.val.toNat : Int)) (.slice A2 n2 c2) (.slice A3 n3 c3) (.slice none 0 0) (.int .u64 0) (.slice none 0 0) (.slice none 0 0)
  have HW := Lib.hid hW
  clear hW
  have hl1 := h1.len
  have hl2 := h2.len
  have hl3 := h3.len
  obtain ⟨y0, y1, y2, y3, f0, f1, f2, f3⟩ := blk4 B1
  have hgw : w.heap.size < W.heap.size := by omega
  have hlb : label.toNat < 256 := label.toNat_lt
  have hri := rightR_any A1 A2 A3 n1 c1 n2 c2 n3 c3 x W (by omega) (by omega) (by omega) (h1.below hbW) (h2.below hbW) (h3.below hbW)
  rw [hR] at hri
  have HRI := Lib.hid hri
  have hlk := ((rightB_iff x).1 hR).2.2.1
  have hris := ((rightB_iff x).1 hR).2.2.2.2.1
  have HF0 := Lib.hid (placeOf_some _ _ _ hf)
  have hq : q < x.labels.length ∧ (∀ j (hj : j < x.labels.length), j = q → x.labels[j].toNat = label.toNat) ∧ (∀ j (hj : j < x.labels.length), j ≠ q → x.labels[j].toNat ≠ label.toNat) := by
    have hf' : x.labels.findIdx? (fun y => y.toNat == label.toNat) = some q := hf
    rw [List.findIdx?_eq_some_iff_getElem] at hf'
    obtain ⟨hi, he, _⟩ := hf'
    have he' : x.labels[q].toNat = label.toNat := by simpa using he
    refine ⟨hi, fun j hj e => by subst e; exact he', fun j hj hne e => ?_⟩
    rcases Nat.lt_or_ge j q with h | h
    · have := rising_lt' x.labels hris j q h hi; omega
    · have := rising_lt' x.labels hris q j (by omega) hj; omega
  obtain ⟨hql, hqe, hqn⟩ := hq
  have HQE := Lib.hid hqe
  have HQN := Lib.hid hqn
  have hi0 : decide ((q : Int) < 0) = false := by simp
  clear hR hri hris hqe hqn hf
  go_enter Try.func41, Try.ntmps41
  go_wp2_with fail
  rw [← HW.out]
  clear HW
  refine HRI.out.mono ?_
  rintro e w1 ⟨rfl, hb1⟩
  clear y0 y1 y2 y3 f0 f1 f2 f3 HRI
  replace B1 := B1.below hb1 (by omega)
  replace B2 := B2.below hb1 (by omega)
  have hb01 := hbW.trans (hb1.mono hbW.size)
  have hs01 : w.heap.size + 2 ≤ w1.heap.size := by have := hb1.size; omega
  clear hb1 hbW hsW hgw
  obtain ⟨y0, y1, y2, y3, f0, f1, f2, f3⟩ := blk4 B1
  go_wp2_with fail
  have hfi := findR_any (.slice A1 n1 c1) (.int .u64 (x.val.toNat : Int)) (.slice A3 n3 c3) A2 n2 c2 x.labels label w1 (by omega) (h2.below hb01)
  rw [HF0.out] at hfi
  refine hfi.mono ?_
  rintro e w2 ⟨rfl, hb2⟩
  clear y0 y1 y2 y3 f0 f1 f2 f3 hfi HF0
  replace B1 := B1.below hb2 (by omega)
  replace B2 := B2.below hb2 (by omega)
  have hb02 := hb01.trans (hb2.mono hb01.size)
  have hs02 : w.heap.size + 2 ≤ w2.heap.size := by have := hb2.size; omega
  clear hb2 hb01 hs01
  obtain ⟨y0, y1, y2, y3, f0, f1, f2, f3⟩ := blk4 B1
  go_wp2_with fail
  clear y0 y1 y2 y3 f0 f1 f2 f3
  -- the new node's box
  obtain ⟨g2, hg2⟩ : ∃ g2, g2 = w2.heap.size := ⟨_, rfl⟩
  have hb23 : Below w2.heap.size w2 (w2.alloc (.cells #[.slice A1 n1 c1, .int .u64 (x.val.toNat : Int), .slice none 0 0, .slice none 0 0] 40)) := (Below.refl _ _).alloc (Nat.le_refl _) _
  have B3 : Blk (w2.alloc (.cells #[.slice A1 n1 c1, .int .u64 (x.val.toNat : Int), .slice none 0 0, .slice none 0 0] 40)) w2.heap.size 40 [.slice A1 n1 c1, .int .u64 (x.val.toNat : Int), .slice none 0 0, .slice none 0 0] := heap_alloc_new w2 _
  have hs3 : (w2.alloc (.cells #[.slice A1 n1 c1, .int .u64 (x.val.toNat : Int), .slice none 0 0, .slice none 0 0] 40)).heap.size = w2.heap.size + 1 := by simp
  rw [← hg2] at hb23 B3 hs3 ⊢
  generalize w2.alloc (.cells #[.slice A1 n1 c1, .int .u64 (x.val.toNat : Int), .slice none 0 0, .slice none 0 0] 40) = w3 at *
  have hg0 : w.heap.size + 2 ≤ g2 := by omega
  have HG2 := Lib.hid hg2
  clear hg2
  go_loopg [7] n2 (fun gk i wr => ∃ k A5 c5 A6 c6 m, k ≤ n2 ∧ n2 - k ≤ gk ∧ m ≤ k ∧ i = .int .i64 (k : Nat) ∧ wr.ownsRow (g2 + 1) 5 1 (.slice A5 m c5) m ((outD x.labels q k).map bv) ∧ wr.ownsRow (g2 + 1) 30 1 (.slice A6 m c6) m ((outD x.kids q k).map wv) ∧
      Blk wr g2 40 [.slice A1 n1 c1, .int .u64 (x.val.toNat : Int), .slice A5 m c5, .slice A6 m c6] ∧ g2 < wr.heap.size ∧ Below g2 w2 wr)
  case atStart => exact ⟨0, none, 0, none, 0, 0, Nat.zero_le _, by omega, by omega, rfl, by rw [outD_zero]; exact World.ownsRow_nil _ _ _ _, by rw [outD_zero]; exact World.ownsRow_nil _ _ _ _, B3, by omega, hb23⟩
  case round =>
    obtain ⟨k, A5, c5, A6, c6, m, hk, hgk, hm, rfl, o5, o6, B4, hs4, hb4⟩ := hrel
    have B1r := B1.below hb4 (by omega)
    have hb0 := hb02.trans (hb4.mono (by have := HG2.out; omega))
    have r2 := h2.below hb0
    have r3 := h3.below hb0
    clear B3 hb23
    by_cases hlt : k < n2
    · have hk3 : k < n3 := by omega
      obtain ⟨hq2, b2', f2', rfl, hbb2, hc2⟩ := r2.at hlt
      obtain ⟨hq3, b3', f3', rfl, hbb3, hc3⟩ := r3.at hk3
      have i0 : (k : Int) < (n2 : Int) := by omega
      have i1 : (0 : Int) ≤ (k : Int) := by omega
      have i2 : (k : Int) < (n3 : Int) := by omega
      have C3 : Hid (∀ wx, Below g2 w2 wx → wx.cell? ⟨b3', f3' + k, none⟩ = some (.int .u64 (x.kids[k].toNat : Int))) := Lib.hid (fun wx hx => by
        obtain ⟨_, _, _, e, _, hc⟩ := (h3.below (hb02.trans (hx.mono (by have := HG2.out; omega)))).at hk3
        injection e with e; injection e with e1 e2 _; subst e1 e2; exact hc)
      have hb2g : b2' < g2 := by
        have hg := HG2.out
        obtain ⟨_, _, _, e, hb, _⟩ := (h2.below hb02).at hlt
        injection e with e; injection e with e _ _; omega
      have hb3g : b3' < g2 := by
        have hg := HG2.out
        obtain ⟨_, _, _, e, hb, _⟩ := (h3.below hb02).at hk3
        injection e with e; injection e with e _ _; omega
      obtain ⟨y0, y1, y2, y3, f0, f1, f2, f3⟩ := blk4 B4
      obtain ⟨z0, z1, z2, z3, k0, k1, k2, k3⟩ := blk4 B1r
      by_cases hkq : k = q
      · have t2 : ((x.labels[k].toNat : Int) != (label.toNat : Int)) = false := by have := HQE.out k hq2 hkq; rw [this]; simp
        have P5 : Hid (outD x.labels q k = outD x.labels q (k + 1)) := Lib.hid (by rw [hkq]; exact outD_at _ _ hql)
        have P6 : Hid (outD x.kids q k = outD x.kids q (k + 1)) := Lib.hid (by rw [hkq]; exact outD_at _ _ (by omega))
        rw [P5.out] at o5
        rw [P6.out] at o6
        clear hkq
        go_wp2_with fail
        go_roundg (n2 - (k + 1))
        case measure => omega
        case rel => exact ⟨k + 1, A5, c5, A6, c6, m, by omega, Nat.le_refl _, by omega, by go_num, o5, o6, B4, hs4, hb4⟩
      · have t2 : ((x.labels[k].toNat : Int) != (label.toNat : Int)) = true := by have := HQN.out k hq2 hkq; rw [bne_iff_ne]; omega
        obtain ⟨La, hLa⟩ : ∃ La, La = outD x.labels q k := ⟨_, rfl⟩
        obtain ⟨Ka, hKa⟩ : ∃ Ka, Ka = outD x.kids q k := ⟨_, rfl⟩
        have HLa5 : Hid (La ++ [x.labels[k]] = outD x.labels q (k + 1)) := Lib.hid (by
          rw [hLa]
          rcases Nat.lt_or_ge k q with h | h
          · exact outD_lo _ _ _ hq2 h
          · exact outD_hi _ _ _ hq2 (by omega))
        have HKa5 : Hid (Ka ++ [x.kids[k]] = outD x.kids q (k + 1)) := Lib.hid (by
          rw [hKa]
          rcases Nat.lt_or_ge k q with h | h
          · exact outD_lo _ _ _ hq3 h
          · exact outD_hi _ _ _ hq3 (by omega))
        rw [← hLa] at o5
        rw [← hKa] at o6
        clear hLa hKa hkq
        go_wp2_with fail
        clear t2
        go_cut [] (fun wx => ∃ A9 c9, wx.ownsRow (g2 + 1) 5 1 (.slice A9 (m + 1) c9) (m + 1) (List.map bv (La ++ [x.labels[k]])) ∧ wx.ownsRow (g2 + 1) 30 1 (.slice A6 m c6) m (List.map wv Ka) ∧
          Blk wx g2 40 [.slice A1 n1 c1, .int .u64 (x.val.toNat : Int), .slice A9 (m + 1) c9, .slice A6 m c6] ∧ g2 < wx.heap.size ∧ Below g2 w2 wx)
        case first =>
          go_region_law (refine step_app_new3 rfl (.tmp 38) (.tmp 44) 22 rfl Try.bytesTy _ _ rfl (g2 + 1) (.slice A5 m c5) m (La.map bv) [Value.int .u8 (x.labels[k].toNat : Int)] (by simp [Act.eval]) o5 rfl rfl rfl rfl 1 1 (by simp [Act.eval]) rfl (by simp [Value.oneCell']) (by simp; omega) (by decide) (by omega) ?_; intro v9 w9 o9 hb9 hk9; obtain ⟨A9, c9, rfl, _, _⟩ := rd_of_own o9; obtain ⟨B9, o9'⟩ := app_frame hb9 hk9 B4 (by omega) o5 o6 (by decide) o9; obtain ⟨u0, u1, u2, u3, j0, j1, j2, j3⟩ := blk4 B9)
          all_goals
            go_wp2_with fail
            go_meet
            refine ⟨A9, c9, ?_, own_far o9' (by omega) 2 _, B9.set_ 2 _, ?_, ((hb4.trans (hb9.mono (by omega))).setCell (p := ⟨g2, 2, none⟩) (Nat.le_refl _) _)⟩
            · have := own_far o9 (g := g2) (by omega) 2 (.slice A9 (m + 1) c9)
              rw [List.map_append]; exact this
            · have h9 := hb9.size
              simp only [World.setCell, Array.size_modify] at h9 ⊢; omega
        case rest =>
          clear y0 y1 y2 y3 f0 f1 f2 f3 z0 z1 z2 z3 k0 k1 k2 k3 hc2 hc3 o5 o6 B4 B1r hs4 hb4 hb0 r2 r3
          obtain ⟨A9, c9, o5, o6, B4, hs4, hb4⟩ := hcut
          have B1r := B1.below hb4 (by omega)
          have hc3 := C3.out _ hb4
          obtain ⟨y0, y1, y2, y3, f0, f1, f2, f3⟩ := blk4 B4
          obtain ⟨z0, z1, z2, z3, k0, k1, k2, k3⟩ := blk4 B1r
          go_wp2_with fail
          go_region_law (refine step_app_new3 rfl (.tmp 48) (.tmp 54) 38 rfl Try.wordsTy _ _ rfl (g2 + 1) (.slice A6 m c6) m (Ka.map wv) [Value.int .u64 (x.kids[k].toNat : Int)] (by simp [Act.eval]) o6 rfl rfl rfl rfl 1 1 (by simp [Act.eval]) rfl (by simp [Value.oneCell']) (by simp; omega) (by decide) (by omega) ?_; intro v7 w7 o7 hb7 hk7; obtain ⟨A10, c10, rfl, _, _⟩ := rd_of_own o7; obtain ⟨B7, o7'⟩ := app_frame hb7 hk7 B4 (by omega) o6 o5 (by decide) o7; obtain ⟨u0, u1, u2, u3, j0, j1, j2, j3⟩ := blk4 B7)
          all_goals
            have P5 := own_far o7' (g := g2) (by omega) 3 (.slice A10 (m + 1) c10)
            have P6 := own_far o7 (g := g2) (by omega) 3 (.slice A10 (m + 1) c10)
            have hP6 : (List.map wv Ka ++ [Value.int .u64 (x.kids[k].toNat : Int)]) = List.map wv (Ka ++ [x.kids[k]]) := by rw [List.map_append]; rfl
            rw [hP6, HKa5.out] at P6
            rw [HLa5.out] at P5
            have P4 := B7.set_ 3 (.slice A10 (m + 1) c10)
            have Pb := (hb4.trans (hb7.mono (by omega))).setCell (p := ⟨g2, 3, none⟩) (Nat.le_refl _) (.slice A10 (m + 1) c10)
            have Ps : g2 < (w7.setCell ⟨g2, 3, none⟩ (.slice A10 (m + 1) c10)).heap.size := by
              have h9 := hb7.size
              simp only [World.setCell, Array.size_modify] at h9 ⊢; omega
            clear hP6 o7 o7' B7 hb7 hk7
            go_wp2_with fail
            go_roundg (n2 - (k + 1))
            case measure => omega
            case rel => exact ⟨k + 1, A9, c9, A10, c10, m + 1, by omega, Nat.le_refl _, by omega, by go_num, P5, P6, P4, Ps, Pb⟩
    · have hkn : k = n2 := by omega
      subst hkn
      obtain ⟨y0, y1, y2, y3, f0, f1, f2, f3⟩ := blk4 B4
      obtain ⟨z0, z1, z2, z3, k0, k1, k2, k3⟩ := blk4 B1r
      have B2r := B2.below hb4 (by omega)
      obtain ⟨x0, x1, x2, x3, q0, q1, q2, q3⟩ := blk4 B2r
      rw [← hl2, outD_end _ _ hql] at o5
      rw [← hl2, hlk, outD_end _ _ (by omega)] at o6
      go_wp2_with fail
      clear x0 x1 x2 x3 q0 q1 q2 q3 z0 z1 z2 z3 k0 k1 k2 k3 y0 y1 y2 y3 f0 f1 f2 f3
      have BF := ((((B2r.set_ 0 (Value.slice A1 n1 c1)).set_ 1 (Value.int .u64 (x.val.toNat : Int))).set_ 2 (Value.slice A5 m c5)).set_ 3 (Value.slice A6 m c6))
      have hbF := ((((hb0.setCell (p := ⟨w.heap.size + 1, 0, none⟩) (by simp) (Value.slice A1 n1 c1)).setCell (p := ⟨w.heap.size + 1, 1, none⟩) (by simp) (Value.int .u64 (x.val.toNat : Int))).setCell (p := ⟨w.heap.size + 1, 2, none⟩) (by simp) (Value.slice A5 m c5)).setCell (p := ⟨w.heap.size + 1, 3, none⟩) (by simp) (Value.slice A6 m c6))
      have S2 := (rd_own (own_far (own_far (own_far (own_far o5 (g := w.heap.size + 1) (by omega) 0 (Value.slice A1 n1 c1)) (g := w.heap.size + 1) (by omega) 1 (Value.int .u64 (x.val.toNat : Int))) (g := w.heap.size + 1) (by omega) 2 (Value.slice A5 m c5)) (g := w.heap.size + 1) (by omega) 3 (Value.slice A6 m c6))).2
      have S3 := (rd_own (own_far (own_far (own_far (own_far o6 (g := w.heap.size + 1) (by omega) 0 (Value.slice A1 n1 c1)) (g := w.heap.size + 1) (by omega) 1 (Value.int .u64 (x.val.toNat : Int))) (g := w.heap.size + 1) (by omega) 2 (Value.slice A5 m c5)) (g := w.heap.size + 1) (by omega) 3 (Value.slice A6 m c6))).2
      generalize ((((wr.setCell ⟨w.heap.size + 1, 0, none⟩ (Value.slice A1 n1 c1)).setCell ⟨w.heap.size + 1, 1, none⟩ (Value.int .u64 (x.val.toNat : Int))).setCell ⟨w.heap.size + 1, 2, none⟩ (Value.slice A5 m c5)).setCell ⟨w.heap.size + 1, 3, none⟩ (Value.slice A6 m c6)) = WF at *
      obtain ⟨p0, p1, p2, p3, _⟩ := blk4 BF
      have e2 : (del x.labels q).length = m := by have := o5.1; simpa using this
      have e3 : (del x.kids q).length = m := by have := o6.1; simpa using this
      refine bodyPost_ret (v := .tuple #[.agg #[(Value.slice A1 n1 c1), (Value.int .u64 (x.val.toNat : Int)), (Value.slice A5 m c5), (Value.slice A6 m c6)], .bool true]) (by simp [results, Try.results41, go_sem, p0, p1, p2, p3]) rfl ?_
      refine ⟨⟨A1, c1, A5, c5, A6, c6, ?_, ?_, ?_, ?_⟩, hbF⟩
      · simp only [outN, e2, e3, hl1]
      · show Bs WF A1 x.pre.length x.pre
        rw [hl1]; exact h1.below hbF
      · simp only [outN, e2]; exact S2
      · simp only [outN, e3]; exact S3

end Go.Proofs.Ytaamkdejediccaa
