import Derived.Test.YtklcklflnkbccaaGreatDoorG44
import Derived.Test.YtklcklflnkbccaaGreatDoorG49
import Derived.Test.YtklcklflnkbccaaGreatDoorG50
/- Law 11: the law WalkParts. -/
namespace Go.Proofs.YtklcklflnkbccaaGreatDoor
open Go.RowKit

/-- Is what is asked too much, or no ranges that touch? -/
def partsOk (c0 c1 c2 : ByteArray) : Bool := fewP [c0, c1, c2] && !(c1.toList == []) && !(c2.toList == []) && !Op.bytesLess c1.toList c0.toList && !Op.bytesLess c2.toList c1.toList

theorem ItR.kept {w w' : World} {A : Option Addr} {l : List It} (h : ItR w A l) {r : Option Nat} (hk : Kept w w' r) (hn : ∀ a, A = some a → some a.block ≠ r) : ItR w' A l :=
  ⟨h.1, fun hn' => by
    obtain ⟨b, off, e, hb, hc⟩ := h.2 hn'
    exact ⟨b, off, e, Nat.lt_of_lt_of_le hb hk.1, fun j hj => (World.cell?_of_block (w := w) (hk.2 b hb (hn ⟨b, off, none⟩ e))).trans (hc j hj)⟩⟩

theorem gt_no {a b : List UInt8} (h : (!Op.bytesLess a b && !a == b) = false) : Op.bytesLess b a = false := by
  cases h1 : Op.bytesLess a b with
  | true =>
    cases h2 : Op.bytesLess b a
    · rfl
    · have := bless_trans _ _ _ h1 h2
      rw [bless_irrefl] at this; cases this
  | false =>
    rw [h1] at h
    have : (a == b) = true := by simpa using h
    rw [eq_of_beq this]; exact bless_irrefl _

set_option maxHeartbeats 8000000 in
set_option maxRecDepth 100000 in
theorem walkParts_any (keys : List ByteArray) (A : Option Addr) (c : Nat) (c0 c1 c2 : ByteArray) (n : Nat) (hn : n < 256) (w : World) (hm : keys.length ≤ maxLen) (h : StrR w A keys) (hT : Tabs w) :
    Calls Tryz.prog 4 #[.slice A keys.length c, .agg #[.string c0, .string c1, .string c2], .int .u8 (n : Int)] w fun e w' => e = .returned (.bool true) ∧ Below w.heap.size w w' := by
  obtain ⟨W0, hW0⟩ : ∃ W0, W0 = w.alloc (.cells #[.string c0, .string c1, .string c2] 39) := ⟨_, rfl⟩
  have B0 : Blk W0 w.heap.size 39 [.string c0, .string c1, .string c2] := hW0 ▸ heap_alloc_new _ _
  have hb0 : Below w.heap.size w W0 := hW0 ▸ (Below.refl _ _).alloc (Nat.le_refl _) _
  have HAl := Lib.hid (alive11 (hT.below hb0))
  have HR := Lib.hid h
  have HT := Lib.hid hT
  have HB0 := Lib.hid hb0
  have HK0 := Lib.hid B0
  have HW0 := Lib.hid hW0
  unfold maxLen at hm
  have HFw := Lib.hid (fun W (hW : Below w.heap.size w W) => few_any keys A c W (by omega) (h.below hW))
  have HFc := Lib.hid (fun W (hW : Below W0.heap.size W0 W) => few_any [c0, c1, c2] (some ⟨w.heap.size, 0, none⟩) 3 W (by simp) ((B0.below hW B0.lt).rd))
  clear hT h hb0 B0 hW0
  go_enter Tryz.func4, Tryz.ntmps4
  go_wp2_with fail
  rw [← HW0.out]
  refine HAl.out.mono ?_
  rintro e w1 ⟨rfl, hb1⟩
  have HB1 := Lib.hid (HB0.out.trans (hb1.mono HB0.out.size))
  have HC1 := Lib.hid hb1
  have HFw1 := Lib.hid (HFw.out w1 HB1.out)
  clear HAl hb1 HFw
  cases hfw : fewP keys with
  | false =>
    rw [hfw] at HFw1
    clear hfw
    go_wp2_with fail
    refine HFw1.out.mono ?_
    rintro e w2 ⟨rfl, hd2⟩
    have HB2 := Lib.hid (HB1.out.trans (hd2.below w.heap.size))
    clear HFw1 hd2
    go_wp2_with fail
    go_ret
    exact ⟨rfl, HB2.out⟩
  | true =>
    obtain ⟨hk60, hk40⟩ := fewP_parts hfw
    rw [hfw] at HFw1
    have HK40 := Lib.hid hk40
    clear hfw hk40
    cases hfc : fewP [c0, c1, c2] with
    | false =>
      go_wp2_with fail
      refine HFw1.out.mono ?_
      rintro e w2 ⟨rfl, hd2⟩
      have HB2 := Lib.hid (HB1.out.trans (hd2.below w.heap.size))
      have HC2 := HC1.out.trans (hd2.below W0.heap.size)
      have HFc2 := HFc.out w2 HC2
      rw [hfc] at HFc2
      have HFc2 := Lib.hid HFc2
      have B2 := HK0.out.below HC2 HK0.out.lt
      have y0 := B2.cell 0
      have y1 := B2.cell 1
      have y2 := B2.cell 2
      simp only [List.getElem?_cons_zero, List.getElem?_cons_succ] at y0 y1 y2
      clear HFw1 hd2 B2 HC2 HFc
      go_wp2_with fail
      refine HFc2.out.mono ?_
      rintro e w3 ⟨rfl, hd3⟩
      have HB3 := Lib.hid (HB2.out.trans (hd3.below w.heap.size))
      clear HFc2 hd3
      go_wp2_with fail
      go_ret
      exact ⟨rfl, HB3.out⟩
    | true =>
      go_wp2_with fail
      refine HFw1.out.mono ?_
      rintro e w2 ⟨rfl, hd2⟩
      have HB2 := Lib.hid (HB1.out.trans (hd2.below w.heap.size))
      have HC2 := HC1.out.trans (hd2.below W0.heap.size)
      have HFc2 := HFc.out w2 HC2
      rw [hfc] at HFc2
      have HFc2 := Lib.hid HFc2
      have B2 := HK0.out.below HC2 HK0.out.lt
      clear HFw1 hd2 HFc hfc
      have HC2 := Lib.hid HC2
      have HK2 := Lib.hid B2
      clear B2
      have hcs : (c1.toList == []) = true ∨ ((c1.toList == []) = false ∧ (c2.toList == []) = true) ∨ ((c1.toList == []) = false ∧ (c2.toList == []) = false ∧ (!Op.bytesLess c0.toList c1.toList && !c0.toList == c1.toList) = true) ∨
          ((c1.toList == []) = false ∧ (c2.toList == []) = false ∧ (!Op.bytesLess c0.toList c1.toList && !c0.toList == c1.toList) = false ∧ (!Op.bytesLess c1.toList c2.toList && !c1.toList == c2.toList) = true) ∨
          ((c1.toList == []) = false ∧ (c2.toList == []) = false ∧ (!Op.bytesLess c0.toList c1.toList && !c0.toList == c1.toList) = false ∧ (!Op.bytesLess c1.toList c2.toList && !c1.toList == c2.toList) = false) := by
        cases (c1.toList == []) <;> cases (c2.toList == []) <;> cases (!Op.bytesLess c0.toList c1.toList && !c0.toList == c1.toList) <;> cases (!Op.bytesLess c1.toList c2.toList && !c1.toList == c2.toList) <;> simp
      rcases hcs with t1 | ⟨t1, t2⟩ | ⟨t1, t2, t3⟩ | ⟨t1, t2, t3, t4⟩ | ⟨t1, t2, t3, t4⟩
      case inr.inr.inr.inr =>
        go_wp2_with fail
        refine HFc2.out.mono ?_
        rintro e w3 ⟨rfl, hd3⟩
        have hb3 := HB2.out.trans (hd3.below w.heap.size)
        have HB3 := Lib.hid hb3
        have B3 := HK2.out.below (hd3.below _) HK2.out.lt
        have y0 := B3.cell 0
        have y1 := B3.cell 1
        have y2 := B3.cell 2
        simp only [List.getElem?_cons_zero, List.getElem?_cons_succ] at y0 y1 y2
        have HK3 := Lib.hid B3
        have HBg := Lib.hid (begun_any keys A c w3 (by omega) (fun k hk => Nat.le_trans (HK40.out k hk) (by decide)) (HT.out.below hb3) (HR.out.below hb3))
        clear HFc2 hd3 B3 hb3
        go_wp2_with fail
        refine HBg.out.mono ?_
        rintro e w4 ⟨x, d, p, F, Am, cm, rfl, _, _, hx4, _, hb4, _, _⟩
        have HB4 := Lib.hid (HB3.out.trans (hb4.mono HB3.out.size))
        have B4 := HK3.out.below hb4 HK3.out.lt
        have y0 := B4.cell 0
        have y1 := B4.cell 1
        have y2 := B4.cell 2
        simp only [List.getElem?_cons_zero, List.getElem?_cons_succ] at y0 y1 y2
        have HK4 := Lib.hid B4
        obtain ⟨l, hal, hup, hll⟩ := begun_keys (L := 1000) (by decide) shape1000 keys
        have hlen : ∀ a b, (keepG (rangeG a b) l).length ≤ (1000 : Int).toNat := fun a b => Nat.le_trans (List.length_filter_le _ _) (by have : (1000 : Int).toNat = 1000 := rfl; omega)
        have HRn := Lib.hid (fun W (hW : Below w4.heap.size w4 W) a b => range_own (hx4.below hW) a b 1000 l hal (hlen a b))
        have HRt := Lib.hid (fun W (hW : Below w4.heap.size w4 W) a b (n : Int) => range_new (hx4.below hW) a b n)
        rw [hal] at HRt
        simp only [Option.map_some] at HRt
        have HR1 := Lib.hid (HRn.out w4 (Below.refl _ _) c0 c1)
        have HUp := Lib.hid hup
        clear HBg hx4 hb4 B4 hal hup hlen
        go_wp2_with fail
        refine HR1.out.mono ?_
        rintro e w5 ⟨hb5, v5, rfl, ho5⟩
        have HB5 := Lib.hid (HB4.out.trans (hb5.mono HB4.out.size))
        have HA5 := Lib.hid hb5
        have HO5 := Lib.hid ho5
        have B5 := HK4.out.below hb5 HK4.out.lt
        have y0 := B5.cell 0
        have y1 := B5.cell 1
        have y2 := B5.cell 2
        simp only [List.getElem?_cons_zero, List.getElem?_cons_succ] at y0 y1 y2
        have HK5 := Lib.hid B5
        have HR2 := Lib.hid (HRn.out w5 hb5 c1 c2)
        clear HR1 hb5 ho5 B5
        go_wp2_with fail
        refine HR2.out.mono ?_
        rintro e w6 ⟨hb6, v6, rfl, ho6⟩
        have HB6 := Lib.hid (HB5.out.trans (hb6.mono HB5.out.size))
        have HA6 := Lib.hid (HA5.out.trans (hb6.mono HA5.out.size))
        have HO6 := Lib.hid ho6
        have H56 := Lib.hid hb6
        have B6 := HK5.out.below hb6 HK5.out.lt
        have y0 := B6.cell 0
        have y1 := B6.cell 1
        have y2 := B6.cell 2
        simp only [List.getElem?_cons_zero, List.getElem?_cons_succ] at y0 y1 y2
        have HK6 := Lib.hid B6
        have HR3 := Lib.hid (HRn.out w6 HA6.out c0 c2)
        clear HR2 hb6 ho6 B6
        go_wp2_with fail
        refine HR3.out.mono ?_
        rintro e w7 ⟨hb7, v7, rfl, ho7⟩
        have HB7 := Lib.hid (HB6.out.trans (hb7.mono HB6.out.size))
        have HA7 := Lib.hid (HA6.out.trans (hb7.mono HA6.out.size))
        have HO7 := Lib.hid ho7
        have H67 := Lib.hid hb7
        have B7 := HK6.out.below hb7 HK6.out.lt
        have y0 := B7.cell 0
        have y1 := B7.cell 1
        have y2 := B7.cell 2
        simp only [List.getElem?_cons_zero, List.getElem?_cons_succ] at y0 y1 y2
        have HK7 := Lib.hid B7
        have HR4 := Lib.hid (HRt.out w7 HA7.out c0 c2 (n : Int))
        have hcv : IntKind.i64.wrap (n : Int) = (n : Int) := wrap64 _ (by omega) (by omega)
        clear HR3 hb7 ho7 B7
        go_wp2_with fail
        refine HR4.out.mono ?_
        rintro e w8 ⟨hb8, A8, c8, rfl, hc8, hr8, hn8⟩
        have HB8 := Lib.hid (HB7.out.trans (hb8.mono HB7.out.size))
        have h58 := (H56.out.trans (H67.out.mono H56.out.size)).trans (hb8.mono (Nat.le_trans H56.out.size H67.out.size))
        have HO8 := Lib.hid (own_stay HO5.out (Kept.of_below (r := none) h58) (by
          rcases HO5.out.2 with ⟨h1, _⟩ | ⟨g, cap, cur, h1, _⟩
          · exact .inr (by subst h1; rfl)
          · exact .inl (by subst h1; exact fun e => nomatch e)))
        obtain ⟨A6, c6, rfl, hc6, hr6⟩ := own_itr HO6.out
        obtain ⟨A7, c7, rfl, hc7, hr7⟩ := own_itr HO7.out
        have HR6 := Lib.hid (hr6.below (H67.out.trans (hb8.mono H67.out.size)))
        have HR7 := Lib.hid (hr7.below hb8)
        have HR8 := Lib.hid hr8
        have hsz : w4.heap.size ≤ w8.heap.size := Nat.le_trans HA7.out.size hb8.size
        have hRl : ∀ a b, (keepG (rangeG a b) l).length ≤ 60 := fun a b => Nat.le_trans (List.length_filter_le _ _) (by omega)
        have HPp : Hid (keepG (rangeG c0 c1) l ++ keepG (rangeG c1 c2) l = keepG (rangeG c0 c2) l) := Lib.hid (range_parts (fun e => by rw [e] at t1; cases t1) (fun e => by rw [e] at t2; cases t2) (gt_no t3) (gt_no t4) l HUp.out)
        have HL := Lib.hid (And.intro (hRl c0 c1) (And.intro (hRl c1 c2) (hRl c0 c2)))
        have HTn : Hid ((n : Int).toNat = n) := Lib.hid (Int.toNat_natCast n)
        obtain ⟨M1, hM1⟩ : ∃ M, M = keepG (rangeG c0 c1) l := ⟨_, rfl⟩
        obtain ⟨M2, hM2⟩ : ∃ M, M = keepG (rangeG c1 c2) l := ⟨_, rfl⟩
        obtain ⟨M3, hM3⟩ : ∃ M, M = keepG (rangeG c0 c2) l := ⟨_, rfl⟩
        rw [← hM1] at HO8 HL HPp
        rw [← hM2] at HR6 HL HPp hc6
        rw [← hM3] at HR7 HL HR8 HPp HO7 hc7
        rw [← hM2, ← hM3]
        rw [HTn.out] at HR8
        rw [HTn.out]
        have hD0 : (M3.take n).length = min n M3.length := List.length_take
        obtain ⟨D, hD⟩ : ∃ D, D = M3.take n := ⟨_, rfl⟩
        rw [← hD] at HR8 hD0
        rw [← hD]
        have HD := Lib.hid hD
        have hv5 : ∀ k, v5.ownBlock = some k → k < w5.heap.size := fun k hk => (HO5.out.lt k hk).2
        have hl1 := HL.out.1
        have hl2 := HL.out.2.1
        have hl3 := HL.out.2.2
        have hDl : D.length ≤ 60 := by omega
        have hDM : D.length ≤ M3.length := by omega
        have HHo := Lib.hid (itCs_one M2)
        have HCv : Hid (∀ w' v, w'.ownsRow w4.heap.size 35 2 v (M1.length + M2.length) (itCs M1 ++ itCs M2) → ∃ A c, v = .slice A M3.length c ∧ M3.length ≤ c ∧ ItR w' A M3) := Lib.hid (fun w' v h => own_itr (l := M3) (by rw [← HPp.out, List.length_append, itCs_app']; exact h))
        have HK7' : Hid (∀ w', Kept w8 w' v5.ownBlock → ItR w' A7 M3) := Lib.hid (fun w' hk => HR7.out.kept hk (fun a ea e => by
          subst ea
          have h1 := hv5 a.block e.symm
          have h2 := (HO7.out.lt a.block rfl).1
          have h3 := H56.out.size
          omega))
        have HK8' : Hid (∀ w', Kept w8 w' v5.ownBlock → ItR w' A8 D) := Lib.hid (fun w' hk => HR8.out.kept hk (fun a ea e => by
          have h1 := hv5 a.block e.symm
          have h2 := hn8 a ea
          have h3 := H56.out.size
          have h4 := H67.out.size
          omega))
        have HR6k : Hid (Rd w8 A6 (M2.length * 2) (itCs M2)) := Lib.hid (by have := HR6.out; unfold ItR at this; rwa [Nat.mul_comm] at this)
        have HTk : Hid (∀ W, ItR W A7 M3 → ItR W A7 D) := Lib.hid (fun W h => by rw [HD.out]; exact h.take n)
        have hlm : ((D.length : Int) == min (M3.length : Int) (n : Int)) = true := by rw [beq_iff_eq]; omega
        have hD7 : D.length ≤ c7 := by omega
        have hD7i : (D.length : Int) ≤ (c7 : Int) := by omega
        have hD7b : decide ((D.length : Int) ≤ (c7 : Int)) = true := decide_eq_true hD7i
        clear hM1 hM2 hM3 hRl hD HR4 HRn HRt HO5 HO6 hr6 hr7 hr8 hv5 hn8 h58 hb8 HL HR6 HR7 HR8 hD0
        go_wp2_with fail
        go_region_held_law (fun _ => True) (exact trivial) (first
          | (rw [if_pos (by rfl)]; refine wp_app_rows (.tmp 111) (.tmp 112) 29 rfl Tryz.idxItemTyK (by decide) w4.heap.size v5 M1.length (itCs M1) rfl (by exact HO8.out) A6 M2.length c6 (itCs M2) rfl (by exact HR6k.out) (by exact HHo.out) (by omega) (by decide) (by exact hsz) ?_; intro v9 w9 hO9 hB9 hK9; obtain ⟨A9, c9, e9, hc9, hr9⟩ := HCv.out _ _ hO9; subst e9; have hr97 := HK7'.out _ hK9; have hr98 := HK8'.out _ hK9; have hb9 := (HB8.out.trans ((Dr.drew w8).below w.heap.size)).trans (hB9.mono HB4.out.size); clear hO9 hB9 hK9)
          | (go_at_call 15; refine (ours_any M3 A9 c9 _ (by omega) hr9).mono ?_; rintro e w10 ⟨v10, rfl, ho10, hb10⟩; obtain ⟨A10, c10, rfl, hc10, hr10⟩ := own_slice ho10; have hr107 := hr97.below hb10; have hr108 := hr98.below hb10; have hbb10 := hb9.trans (hb10.mono hb9.size); clear hr9 hr97 hr98 hb9 hb10 ho10)
          | (go_at_call 15; refine (ours_any M3 A7 c7 _ (by omega) hr107).mono ?_; rintro e w11 ⟨v11, rfl, ho11, hb11⟩; obtain ⟨A11, c11, rfl, hc11, hr11⟩ := own_slice ho11; have hr1110 := hr10.below hb11; have hr117 := hr107.below hb11; have hr118 := hr108.below hb11; have hbb11 := hbb10.trans (hb11.mono hbb10.size); clear hr10 hr107 hr108 hbb10 hb11 ho11)
          | (go_at_call 14; refine (same_self M3 A10 A11 c10 c11 (by omega) hr1110 hr11).mono ?_; rintro e w12 ⟨rfl, hd12⟩; have hr127 := hr117.below (hd12.below _); have hr128 := hr118.below (hd12.below _); have hbb12 := hbb11.trans (hd12.below w.heap.size); clear hr1110 hr11 hr117 hr118 hbb11 hd12)
          | (go_at_call 15; refine (ours_any D A8 c8 _ (by omega) hr128).mono ?_; rintro e w13 ⟨v13, rfl, ho13, hb13⟩; obtain ⟨A13, c13, rfl, hc13, hr13⟩ := own_slice ho13; have hr137 := HTk.out _ (hr127.below hb13); have hbb13 := hbb12.trans (hb13.mono hbb12.size); clear hr127 hr128 hbb12 hb13 ho13)
          | (go_at_call 15; refine (ours_any D A7 c7 _ (by omega) hr137).mono ?_; rintro e w14 ⟨v14, rfl, ho14, hb14⟩; obtain ⟨A14, c14, rfl, hc14, hr14⟩ := own_slice ho14; have hr1413 := hr13.below hb14; have hbb14 := hbb13.trans (hb14.mono hbb13.size); clear hr13 hr137 hbb13 hb14 ho14)
          | (go_at_call 14; refine (same_self D A13 A14 c13 c14 (by omega) hr1413 hr14).mono ?_; rintro e w15 ⟨rfl, hd15⟩; have hbb15 := hbb14.trans (hd15.below w.heap.size); clear hr1413 hr14 hbb14 hd15))
        all_goals (go_wp2_with fail)
        all_goals (go_ret)
        all_goals (exact ⟨rfl, hbb15⟩)
      case inl =>
        go_wp2_with fail
        refine HFc2.out.mono ?_
        rintro e w3 ⟨rfl, hd3⟩
        have HB3 := Lib.hid (HB2.out.trans (hd3.below w.heap.size))
        have B3 := HK2.out.below (hd3.below _) HK2.out.lt
        have y0 := B3.cell 0
        have y1 := B3.cell 1
        have y2 := B3.cell 2
        simp only [List.getElem?_cons_zero, List.getElem?_cons_succ] at y0 y1 y2
        clear HFc2 hd3 B3
        go_wp2_with fail
        go_ret
        exact ⟨rfl, HB3.out⟩
      case inr.inl =>
        go_wp2_with fail
        refine HFc2.out.mono ?_
        rintro e w3 ⟨rfl, hd3⟩
        have HB3 := Lib.hid (HB2.out.trans (hd3.below w.heap.size))
        have B3 := HK2.out.below (hd3.below _) HK2.out.lt
        have y0 := B3.cell 0
        have y1 := B3.cell 1
        have y2 := B3.cell 2
        simp only [List.getElem?_cons_zero, List.getElem?_cons_succ] at y0 y1 y2
        clear HFc2 hd3 B3
        go_wp2_with fail
        go_ret
        exact ⟨rfl, HB3.out⟩
      case inr.inr.inl =>
        go_wp2_with fail
        refine HFc2.out.mono ?_
        rintro e w3 ⟨rfl, hd3⟩
        have HB3 := Lib.hid (HB2.out.trans (hd3.below w.heap.size))
        have B3 := HK2.out.below (hd3.below _) HK2.out.lt
        have y0 := B3.cell 0
        have y1 := B3.cell 1
        have y2 := B3.cell 2
        simp only [List.getElem?_cons_zero, List.getElem?_cons_succ] at y0 y1 y2
        clear HFc2 hd3 B3
        go_wp2_with fail
        go_ret
        exact ⟨rfl, HB3.out⟩
      case inr.inr.inr.inl =>
        go_wp2_with fail
        refine HFc2.out.mono ?_
        rintro e w3 ⟨rfl, hd3⟩
        have HB3 := Lib.hid (HB2.out.trans (hd3.below w.heap.size))
        have B3 := HK2.out.below (hd3.below _) HK2.out.lt
        have y0 := B3.cell 0
        have y1 := B3.cell 1
        have y2 := B3.cell 2
        simp only [List.getElem?_cons_zero, List.getElem?_cons_succ] at y0 y1 y2
        clear HFc2 hd3 B3
        go_wp2_with fail
        go_ret
        exact ⟨rfl, HB3.out⟩

end Go.Proofs.YtklcklflnkbccaaGreatDoor
