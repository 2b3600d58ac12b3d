import Derived.Test.YtcelabojehaioaaGreatDoorG10
/- Walks: container/heap at pool's order: down, Push, Pop. -/
namespace Go.Proofs.YtcelabojehaioaaGreatDoor
open Go.RowKit

section
variable {w : World} {B o g c N : Nat} {l : List Nat}

theorem OrdAt.mLess (h : OrdAt w B o g c l) (hl : l.length = N) : ∀ f, (method (f + 1) 317 (.pointer (some ⟨o, 0, none⟩)) "Less").run Tryz.prog w = .ok (291, .slice (some ⟨g, 0, none⟩) N c) w := fun f =>
  meth_Less f o _ w (by have := h.box.cell 0; simpa only [List.getElem?_cons_zero, hl] using this)
theorem OrdAt.mLen (h : OrdAt w B o g c l) (hl : l.length = N) : ∀ f, (method (f + 1) 317 (.pointer (some ⟨o, 0, none⟩)) "Len").run Tryz.prog w = .ok (230, .slice (some ⟨g, 0, none⟩) N c) w := fun f =>
  meth_Len f o _ w (by have := h.box.cell 0; simpa only [List.getElem?_cons_zero, hl] using this)
theorem OrdAt.mSwap (h : OrdAt w B o g c l) (hl : l.length = N) : ∀ f, (method (f + 1) 317 (.pointer (some ⟨o, 0, none⟩)) "Swap").run Tryz.prog w = .ok (294, .slice (some ⟨g, 0, none⟩) N c) w := fun f =>
  meth_Swap f o _ w (by have := h.box.cell 0; simpa only [List.getElem?_cons_zero, hl] using this)
theorem OrdAt.less (h : OrdAt w B o g c l) (hl : l.length = N) (i j : Nat) (hi : i < N) (hj : j < N) (b : Bool) (hb : decide (keyF id l i < keyF id l j) = b) :
    Calls Tryz.prog 291 #[.slice (some ⟨g, 0, none⟩) N c, .int .i64 (i : Int), .int .i64 (j : Int)] w fun e w' => e = .returned (.bool b) ∧ Dr w w' := by
  subst hl hb
  have := h.len
  exact ordLess g l.length c i j l w hi hj (by omega) (rd_own h.row).2
theorem OrdAt.swap (h : OrdAt w B o g c l) (hl : l.length = N) (i j : Nat) (hi : i < N) (hj : j < N) :
    Calls Tryz.prog 294 #[.slice (some ⟨g, 0, none⟩) N c, .int .i64 (i : Int), .int .i64 (j : Int)] w fun e w' => e = .returned (.tuple #[]) ∧ OrdAt w' B o g c (swapL l i j) ∧ Touch (fun b => b = o ∨ b = g) w w' := by
  subst hl
  have := h.len
  refine (ordSwap g l.length c i j B l w hi hj (by omega) h.row).mono ?_
  rintro e w' ⟨rfl, h1, h2⟩
  exact ⟨rfl, h.swapped rfl h1 h2, h2.mono (fun b h => .inr h)⟩

set_option maxHeartbeats 4000000 in
set_option maxRecDepth 100000 in
theorem heapDown (n : Nat) (h : OrdAt w B o g c l) (hl : l.length = N) (hn : n < N) (hH : HeapBut (keyF id l) 0 n) :
    Calls Tryz.prog 244 #[.iface 317 (.pointer (some ⟨o, 0, none⟩)), .int .i64 0, .int .i64 (n : Int)] w fun e w' => (∃ b, e = .returned (.bool b)) ∧
      ∃ l', l'.Perm l ∧ HeapTo (keyF id l') n ∧ (∀ k, n ≤ k → l'[k]? = l[k]?) ∧ OrdAt w' B o g c l' ∧ Touch (fun b => b = o ∨ b = g) w w' := by
  have hn1 := h.len
  rw [hl] at hn1
  go_enter Tryz.func244, Tryz.ntmps244
  go_wp2_with fail
  go_loopw [7] (fun i wr => ∃ k l', (k = 0 ∨ k < n) ∧ i = .int .i64 (k : Nat) ∧ l'.Perm l ∧ HeapBut (keyF id l') k n ∧ (∀ k, n ≤ k → l'[k]? = l[k]?) ∧ OrdAt wr B o g c l' ∧ Touch (fun b => b = o ∨ b = g) w wr) (fun i _ => n - (intOf i).toNat)
  case atStart => exact ⟨0, l, .inl rfl, rfl, List.Perm.refl _, hH, fun _ _ => rfl, h, Touch.refl _ _⟩
  case round =>
    obtain ⟨i, l', hi, rfl, hp, hHk, hk, ho, ht⟩ := hrel
    have hL : l'.length = N := by rw [hp.length_eq]; exact hl
    have HHk := Lib.hid hHk
    have HO := Lib.hid ho
    have HPm := Lib.hid hp
    have HT := Lib.hid ht
    have HK := Lib.hid hk
    have HL := Lib.hid hL
    have iB : i ≤ n := by omega
    clear h hH hHk ho hp ht hk hL hl
    have t3 : decide (2 * (i : Int) + 1 < 0) = false := decide_eq_false (by omega)
    by_cases h1 : n ≤ 2 * i + 1
    · have t1 : decide ((n : Int) ≤ 2 * (i : Int) + 1) = true := decide_eq_true (by omega)
      go_wp2_with fail
      go_ret
      exact ⟨⟨_, rfl⟩, l', HPm.out, heapBut_end HHk.out (fun k h0 hk hp => by omega), HK.out, HO.out, HT.out⟩
    · have t1 : decide ((n : Int) ≤ 2 * (i : Int) + 1) = false := decide_eq_false (by omega)
      obtain ⟨j1, hj1⟩ : ∃ j1, 2 * i + 1 = j1 := ⟨_, rfl⟩
      obtain ⟨j2, hj2⟩ : ∃ j2, j1 + 1 = j2 := ⟨_, rfl⟩
      have e1 : 2 * (i : Int) + 1 = (j1 : Int) := by omega
      have e2 : (j1 : Int) + 1 = (j2 : Int) := by omega
      have t4 : decide ((n : Int) ≤ (j1 : Int)) = false := decide_eq_false (by omega)
      have t5 : decide ((j1 : Int) < 0) = false := decide_eq_false (by omega)
      have J1 : Hid (2 * i + 1 = j1) := Lib.hid hj1
      have J2 : Hid (2 * i + 2 = j2) := Lib.hid (by omega)
      have j1n : j1 < n := by omega
      clear t1 t3 hj1 hj2
      by_cases h2 : j2 < n
      · have t2 : decide ((j2 : Int) < (n : Int)) = true := decide_eq_true (by omega)
        by_cases h4 : keyF id l' j2 < keyF id l' j1
        · have H2 := Lib.hid h4
          clear h4
          have mL := HO.out.mLess HL.out
          go_wp2_with fail
          refine (HO.out.less HL.out j2 j1 (by omega) (by omega) true (decide_eq_true H2.out)).mono ?_
          rintro e w2 ⟨rfl, hd⟩
          have ho2 := HO.out.below (hd.below _)
          have ht2 := HT.out.trans (Touch.of_below (F := fun b => b = o ∨ b = g) (hd.below _)) (fun b h => .inl h)
          have HO2 := Lib.hid ho2
          have HT2 := Lib.hid ht2
          clear ho2 ht2
          have mL2 := HO2.out.mLess HL.out
          have hj1 : j2 < n := by omega
          have hj2 : (j2 - 1) / 2 = i := by have := J1.out; have := J2.out; omega
          have HM : Hid (∀ k, 0 < k → k < n → (k - 1) / 2 = i → keyF id l' j2 ≤ keyF id l' k) := Lib.hid (fun k h0 hk hp => by
            have hk2 : k = j1 ∨ k = j2 := by have := J1.out; have := J2.out; omega
            rcases hk2 with rfl | rfl
            · have := H2.out; omega
            · exact Nat.le_refl _)
          by_cases h3 : keyF id l' j2 < keyF id l' i
          · have H3 := Lib.hid h3
            clear h3
            clear mL
            go_wp2_with fail
            refine (HO2.out.less HL.out j2 i (by omega) (by omega) true (decide_eq_true H3.out)).mono ?_
            rintro e w3 ⟨rfl, hd3⟩
            have ho3 := HO2.out.below (hd3.below _)
            have ht3 := HT2.out.trans (Touch.of_below (F := fun b => b = o ∨ b = g) (hd3.below _)) (fun b h => .inl h)
            have mS := ho3.mSwap HL.out
            have HO3 := Lib.hid ho3
            have HT3 := Lib.hid ht3
            clear mL2 ho3 ht3
            go_wp2_with fail
            refine (HO3.out.swap HL.out i j2 (by omega) (by omega)).mono ?_
            rintro e w4 ⟨rfl, ho4, ht4⟩
            have HO4 := Lib.hid ho4
            have HT4 := Lib.hid (HT3.out.trans ht4 (fun b h => .inl h))
            clear mS ho4 ht4
            go_wp2_with fail
            go_roundw
            case rel =>
              refine ⟨j2, swapL l' i j2, .inr hj1, rfl, (swapL_perm _ _ _).trans HPm.out, ?_, fun k hk => ?_, HO4.out, HT4.out⟩
              · rw [keyF_swap id l' i j2 (by rw [HL.out]; omega) (by rw [HL.out]; omega)]
                exact heapBut_swap HHk.out (by omega) hj1 hj2 HM.out H3.out
              · rw [swapL_get l' i j2 (by rw [HL.out]; omega) (by rw [HL.out]; omega), if_neg (by omega), if_neg (by omega)]
                exact HK.out k hk
            case measure => simp [intOf]; omega
          · have H3 := Lib.hid h3
            clear h3
            clear mL
            go_wp2_with fail
            refine (HO2.out.less HL.out j2 i (by omega) (by omega) false (decide_eq_false H3.out)).mono ?_
            rintro e w3 ⟨rfl, hd3⟩
            have ho3 := HO2.out.below (hd3.below _)
            have ht3 := HT2.out.trans (Touch.of_below (F := fun b => b = o ∨ b = g) (hd3.below _)) (fun b h => .inl h)
            clear mL2
            go_wp2_with fail
            go_ret
            exact ⟨⟨_, rfl⟩, l', HPm.out, heapBut_end HHk.out (fun k h0 hk hp => by have := HM.out k h0 hk hp; have := H3.out; omega), HK.out, ho3, ht3⟩
        · have H2 := Lib.hid h4
          clear h4
          have mL := HO.out.mLess HL.out
          go_wp2_with fail
          refine (HO.out.less HL.out j2 j1 (by omega) (by omega) false (decide_eq_false H2.out)).mono ?_
          rintro e w2 ⟨rfl, hd⟩
          have ho2 := HO.out.below (hd.below _)
          have ht2 := HT.out.trans (Touch.of_below (F := fun b => b = o ∨ b = g) (hd.below _)) (fun b h => .inl h)
          have HO2 := Lib.hid ho2
          have HT2 := Lib.hid ht2
          clear ho2 ht2
          have mL2 := HO2.out.mLess HL.out
          have hj1 : j1 < n := by omega
          have hj2 : (j1 - 1) / 2 = i := by have := J1.out; have := J2.out; omega
          have HM : Hid (∀ k, 0 < k → k < n → (k - 1) / 2 = i → keyF id l' j1 ≤ keyF id l' k) := Lib.hid (fun k h0 hk hp => by
            have hk2 : k = j1 ∨ k = j2 := by have := J1.out; have := J2.out; omega
            rcases hk2 with rfl | rfl
            · exact Nat.le_refl _
            · have := H2.out; omega)
          by_cases h3 : keyF id l' j1 < keyF id l' i
          · have H3 := Lib.hid h3
            clear h3
            clear mL
            go_wp2_with fail
            refine (HO2.out.less HL.out j1 i (by omega) (by omega) true (decide_eq_true H3.out)).mono ?_
            rintro e w3 ⟨rfl, hd3⟩
            have ho3 := HO2.out.below (hd3.below _)
            have ht3 := HT2.out.trans (Touch.of_below (F := fun b => b = o ∨ b = g) (hd3.below _)) (fun b h => .inl h)
            have mS := ho3.mSwap HL.out
            have HO3 := Lib.hid ho3
            have HT3 := Lib.hid ht3
            clear mL2 ho3 ht3
            go_wp2_with fail
            refine (HO3.out.swap HL.out i j1 (by omega) (by omega)).mono ?_
            rintro e w4 ⟨rfl, ho4, ht4⟩
            have HO4 := Lib.hid ho4
            have HT4 := Lib.hid (HT3.out.trans ht4 (fun b h => .inl h))
            clear mS ho4 ht4
            go_wp2_with fail
            go_roundw
            case rel =>
              refine ⟨j1, swapL l' i j1, .inr hj1, rfl, (swapL_perm _ _ _).trans HPm.out, ?_, fun k hk => ?_, HO4.out, HT4.out⟩
              · rw [keyF_swap id l' i j1 (by rw [HL.out]; omega) (by rw [HL.out]; omega)]
                exact heapBut_swap HHk.out (by omega) hj1 hj2 HM.out H3.out
              · rw [swapL_get l' i j1 (by rw [HL.out]; omega) (by rw [HL.out]; omega), if_neg (by omega), if_neg (by omega)]
                exact HK.out k hk
            case measure => simp [intOf]; omega
          · have H3 := Lib.hid h3
            clear h3
            clear mL
            go_wp2_with fail
            refine (HO2.out.less HL.out j1 i (by omega) (by omega) false (decide_eq_false H3.out)).mono ?_
            rintro e w3 ⟨rfl, hd3⟩
            have ho3 := HO2.out.below (hd3.below _)
            have ht3 := HT2.out.trans (Touch.of_below (F := fun b => b = o ∨ b = g) (hd3.below _)) (fun b h => .inl h)
            clear mL2
            go_wp2_with fail
            go_ret
            exact ⟨⟨_, rfl⟩, l', HPm.out, heapBut_end HHk.out (fun k h0 hk hp => by have := HM.out k h0 hk hp; have := H3.out; omega), HK.out, ho3, ht3⟩
      · have t2 : decide ((j2 : Int) < (n : Int)) = false := decide_eq_false (by omega)
        have ho2 := HO.out
        have ht2 := HT.out
        have HO2 := Lib.hid ho2
        have HT2 := Lib.hid ht2
        clear ho2 ht2
        have mL2 := HO2.out.mLess HL.out
        have hj1 : j1 < n := by omega
        have hj2 : (j1 - 1) / 2 = i := by have := J1.out; have := J2.out; omega
        have HM : Hid (∀ k, 0 < k → k < n → (k - 1) / 2 = i → keyF id l' j1 ≤ keyF id l' k) := Lib.hid (fun k h0 hk hp => by
          have hk2 : k = j1 ∨ k = j2 := by have := J1.out; have := J2.out; omega
          rcases hk2 with rfl | rfl
          · exact Nat.le_refl _
          · omega)
        by_cases h3 : keyF id l' j1 < keyF id l' i
        · have H3 := Lib.hid h3
          clear h3

          go_wp2_with fail
          refine (HO2.out.less HL.out j1 i (by omega) (by omega) true (decide_eq_true H3.out)).mono ?_
          rintro e w3 ⟨rfl, hd3⟩
          have ho3 := HO2.out.below (hd3.below _)
          have ht3 := HT2.out.trans (Touch.of_below (F := fun b => b = o ∨ b = g) (hd3.below _)) (fun b h => .inl h)
          have mS := ho3.mSwap HL.out
          have HO3 := Lib.hid ho3
          have HT3 := Lib.hid ht3
          clear mL2 ho3 ht3
          go_wp2_with fail
          refine (HO3.out.swap HL.out i j1 (by omega) (by omega)).mono ?_
          rintro e w4 ⟨rfl, ho4, ht4⟩
          have HO4 := Lib.hid ho4
          have HT4 := Lib.hid (HT3.out.trans ht4 (fun b h => .inl h))
          clear mS ho4 ht4
          go_wp2_with fail
          go_roundw
          case rel =>
            refine ⟨j1, swapL l' i j1, .inr hj1, rfl, (swapL_perm _ _ _).trans HPm.out, ?_, fun k hk => ?_, HO4.out, HT4.out⟩
            · rw [keyF_swap id l' i j1 (by rw [HL.out]; omega) (by rw [HL.out]; omega)]
              exact heapBut_swap HHk.out (by omega) hj1 hj2 HM.out H3.out
            · rw [swapL_get l' i j1 (by rw [HL.out]; omega) (by rw [HL.out]; omega), if_neg (by omega), if_neg (by omega)]
              exact HK.out k hk
          case measure => simp [intOf]; omega
        · have H3 := Lib.hid h3
          clear h3

          go_wp2_with fail
          refine (HO2.out.less HL.out j1 i (by omega) (by omega) false (decide_eq_false H3.out)).mono ?_
          rintro e w3 ⟨rfl, hd3⟩
          have ho3 := HO2.out.below (hd3.below _)
          have ht3 := HT2.out.trans (Touch.of_below (F := fun b => b = o ∨ b = g) (hd3.below _)) (fun b h => .inl h)
          clear mL2
          go_wp2_with fail
          go_ret
          exact ⟨⟨_, rfl⟩, l', HPm.out, heapBut_end HHk.out (fun k h0 hk hp => by have := HM.out k h0 hk hp; have := H3.out; omega), HK.out, ho3, ht3⟩

end

end Go.Proofs.YtcelabojehaioaaGreatDoor
