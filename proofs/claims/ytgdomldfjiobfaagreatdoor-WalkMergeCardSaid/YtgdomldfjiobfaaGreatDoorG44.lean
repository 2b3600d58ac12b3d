import Derived.Test.YtgdomldfjiobfaaGreatDoorG40
/- The walk of the law WalkMerge. Printed by genwm.py. -/
namespace Go.Proofs.YtgdomldfjiobfaaGreatDoor
open Go.RowKit

set_option maxHeartbeats 16000000 in
set_option maxRecDepth 100000 in
theorem walkMerge_any (a b : List It) (A B : Option Addr) (ca cb : Nat) (w : World) (hma : a.length ≤ maxLen) (hmb : b.length ≤ maxLen) (ha : ItR w A a) (hb : ItR w B b) (hT : Tabs w) :
    Calls Tryz.prog 4 #[.slice A a.length ca, .slice B b.length cb] w fun e w' => e = .returned (.bool true) ∧ Below w.heap.size w w' := by
  have HAl := Lib.hid (alive11 hT)
  have HA := Lib.hid ha
  have HB := Lib.hid hb
  clear hT ha hb
  unfold maxLen at hma hmb
  by_cases ha6 : 60 < a.length
  · have t1 : decide ((60 : Int) < (a.length : Int)) = true := decide_eq_true (by omega)
    go_enter Tryz.func4, Tryz.ntmps4
    go_wp2_with fail
    refine HAl.out.mono ?_
    rintro e w1 ⟨rfl, hb1⟩
    have HB1 := Lib.hid hb1
    clear HAl hb1
    go_wp2_with fail
    go_ret
    exact ⟨rfl, HB1.out⟩
  · have t1 : decide ((60 : Int) < (a.length : Int)) = false := decide_eq_false (by omega)
    by_cases hb6 : 60 < b.length
    · have t2 : decide ((60 : Int) < (b.length : Int)) = true := decide_eq_true (by omega)
      go_enter Tryz.func4, Tryz.ntmps4
      go_wp2_with fail
      refine HAl.out.mono ?_
      rintro e w1 ⟨rfl, hb1⟩
      have HB1 := Lib.hid hb1
      clear HAl hb1
      go_wp2_with fail
      go_ret
      exact ⟨rfl, HB1.out⟩
    · have t2 : decide ((60 : Int) < (b.length : Int)) = false := decide_eq_false (by omega)
      go_enter Tryz.func4, Tryz.ntmps4
      go_wp2_with fail
      refine HAl.out.mono ?_
      rintro e w1 ⟨rfl, hb1⟩
      have HB1 := Lib.hid hb1
      have HRa := Lib.hid (rise_any a A ca w1 (by omega) (HA.out.below hb1))
      clear HAl hb1
      cases hra : riseB a with
      | false =>
        rw [hra] at HRa
        clear hra
        go_wp2_with fail
        refine HRa.out.mono ?_
        rintro e w2 ⟨rfl, hd2⟩
        have HB2 := Lib.hid (HB1.out.trans (hd2.below w.heap.size))
        clear HRa hd2
        go_wp2_with fail
        go_ret
        exact ⟨rfl, HB2.out⟩
      | true =>
        rw [hra] at HRa
        have HUa := Lib.hid (riseB_up a hra)
        clear hra
        go_wp2_with fail
        refine HRa.out.mono ?_
        rintro e w2 ⟨rfl, hd2⟩
        have hb2 := HB1.out.trans (hd2.below w.heap.size)
        have HB2 := Lib.hid hb2
        have HRb := Lib.hid (rise_any b B cb w2 (by omega) (HB.out.below hb2))
        clear HRa hd2 hb2
        cases hrb : riseB b with
        | false =>
          rw [hrb] at HRb
          clear hrb
          go_wp2_with fail
          refine HRb.out.mono ?_
          rintro e w3 ⟨rfl, hd3⟩
          have HB3 := Lib.hid (HB2.out.trans (hd3.below w.heap.size))
          clear HRb hd3
          go_wp2_with fail
          go_ret
          exact ⟨rfl, HB3.out⟩
        | true =>
          rw [hrb] at HRb
          have HUb := Lib.hid (riseB_up b hrb)
          clear hrb
          go_wp2_with fail
          refine HRb.out.mono ?_
          rintro e w3 ⟨rfl, hd3⟩
          have hb3 := HB2.out.trans (hd3.below w.heap.size)
          have HB3 := Lib.hid hb3
          clear HRb hd3 hb3
          have hka : (keepW a).length ≤ 60 := by have := List.length_filter_le liveI a; unfold keepW; omega
          have HC := Lib.hid (theirs_any a A ca w3 (by omega) (HA.out.below HB3.out))
          go_wp2_with fail
          refine HC.out.mono ?_
          rintro e w4 ⟨v4, rfl, ho, hb'⟩
          obtain ⟨A4, c4, rfl, hc4, hr⟩ := own_slice ho
          have HB4 := Lib.hid (HB3.out.trans (hb'.mono HB3.out.size))
          have HR4 := Lib.hid hr
          clear HC ho hb' hr
          have HC := Lib.hid (by have h := merge_any a [] A4 none c4 0 w4 (by omega) (by simp) HR4.out ⟨rfl, fun h => absurd h (by simp)⟩ hc4 (by simp); rw [mergeW_nil] at h; exact h)
          go_wp2_with fail
          refine HC.out.mono ?_
          rintro e w5 ⟨v5, rfl, ho, hb'⟩
          obtain ⟨A5, c5, rfl, hc5, hr⟩ := own_slice ho
          have HB5 := Lib.hid (HB4.out.trans (hb'.mono HB4.out.size))
          have HR5 := Lib.hid hr
          replace HR4 := Lib.hid (HR4.out.below hb')
          clear HC ho hb' hr
          clear HR4
          have HC := Lib.hid (ours_any (keepW a) A5 c5 w5 (by omega) HR5.out)
          go_wp2_with fail
          refine HC.out.mono ?_
          rintro e w6 ⟨v6, rfl, ho, hb'⟩
          obtain ⟨A6, c6, rfl, hc6, hr⟩ := own_slice ho
          have HB6 := Lib.hid (HB5.out.trans (hb'.mono HB5.out.size))
          have HR6 := Lib.hid hr
          replace HR5 := Lib.hid (HR5.out.below hb')
          clear HC ho hb' hr
          clear HR5
          have HC := Lib.hid (theirs_any a A ca w6 (by omega) (HA.out.below HB6.out))
          go_wp2_with fail
          refine HC.out.mono ?_
          rintro e w7 ⟨v7, rfl, ho, hb'⟩
          obtain ⟨A7, c7, rfl, hc7, hr⟩ := own_slice ho
          have HB7 := Lib.hid (HB6.out.trans (hb'.mono HB6.out.size))
          have HR7 := Lib.hid hr
          replace HR6 := Lib.hid (HR6.out.below hb')
          clear HC ho hb' hr
          have HC := Lib.hid (by have h := merge_any [] a none A7 0 c7 w7 (by simp) (by omega) ⟨rfl, fun h => absurd h (by simp)⟩ HR7.out (by simp) hc7; rw [mergeW_nil'] at h; exact h)
          go_wp2_with fail
          refine HC.out.mono ?_
          rintro e w8 ⟨v8, rfl, ho, hb'⟩
          obtain ⟨A8, c8, rfl, hc8, hr⟩ := own_slice ho
          have HB8 := Lib.hid (HB7.out.trans (hb'.mono HB7.out.size))
          have HR8 := Lib.hid hr
          replace HR6 := Lib.hid (HR6.out.below hb')
          replace HR7 := Lib.hid (HR7.out.below hb')
          clear HC ho hb' hr
          clear HR7
          have HC := Lib.hid (ours_any (keepW a) A8 c8 w8 (by omega) HR8.out)
          go_wp2_with fail
          refine HC.out.mono ?_
          rintro e w9 ⟨v9, rfl, ho, hb'⟩
          obtain ⟨A9, c9, rfl, hc9, hr⟩ := own_slice ho
          have HB9 := Lib.hid (HB8.out.trans (hb'.mono HB8.out.size))
          have HR9 := Lib.hid hr
          replace HR6 := Lib.hid (HR6.out.below hb')
          replace HR8 := Lib.hid (HR8.out.below hb')
          clear HC ho hb' hr
          clear HR8
          have HC := Lib.hid (same_self (keepW a) A6 A9 c6 c9 (by omega) HR6.out HR9.out)
          go_wp2_with fail
          refine HC.out.mono ?_
          rintro e w10 ⟨rfl, hd⟩
          have HB10 := Lib.hid (HB9.out.trans (hd.below w.heap.size))
          replace HR6 := Lib.hid (HR6.out.below (hd.below _))
          replace HR9 := Lib.hid (HR9.out.below (hd.below _))
          clear HC hd
          clear HR9
          have HC := Lib.hid (theirs_any a A ca w10 (by omega) (HA.out.below HB10.out))
          go_wp2_with fail
          refine HC.out.mono ?_
          rintro e w11 ⟨v11, rfl, ho, hb'⟩
          obtain ⟨A11, c11, rfl, hc11, hr⟩ := own_slice ho
          have HB11 := Lib.hid (HB10.out.trans (hb'.mono HB10.out.size))
          have HR11 := Lib.hid hr
          replace HR6 := Lib.hid (HR6.out.below hb')
          clear HC ho hb' hr
          have HC := Lib.hid (theirs_any a A ca w11 (by omega) (HA.out.below HB11.out))
          go_wp2_with fail
          refine HC.out.mono ?_
          rintro e w12 ⟨v12, rfl, ho, hb'⟩
          obtain ⟨A12, c12, rfl, hc12, hr⟩ := own_slice ho
          have HB12 := Lib.hid (HB11.out.trans (hb'.mono HB11.out.size))
          have HR12 := Lib.hid hr
          replace HR6 := Lib.hid (HR6.out.below hb')
          replace HR11 := Lib.hid (HR11.out.below hb')
          clear HC ho hb' hr
          have HC := Lib.hid (by have h := merge_any a a A11 A12 c11 c12 w12 (by omega) (by omega) HR11.out HR12.out hc11 hc12; rw [mergeW_self] at h; exact h)
          go_wp2_with fail
          refine HC.out.mono ?_
          rintro e w13 ⟨v13, rfl, ho, hb'⟩
          obtain ⟨A13, c13, rfl, hc13, hr⟩ := own_slice ho
          have HB13 := Lib.hid (HB12.out.trans (hb'.mono HB12.out.size))
          have HR13 := Lib.hid hr
          replace HR6 := Lib.hid (HR6.out.below hb')
          replace HR11 := Lib.hid (HR11.out.below hb')
          replace HR12 := Lib.hid (HR12.out.below hb')
          clear HC ho hb' hr
          clear HR11
          clear HR12
          have HC := Lib.hid (ours_any (keepW a) A13 c13 w13 (by omega) HR13.out)
          go_wp2_with fail
          refine HC.out.mono ?_
          rintro e w14 ⟨v14, rfl, ho, hb'⟩
          obtain ⟨A14, c14, rfl, hc14, hr⟩ := own_slice ho
          have HB14 := Lib.hid (HB13.out.trans (hb'.mono HB13.out.size))
          have HR14 := Lib.hid hr
          replace HR6 := Lib.hid (HR6.out.below hb')
          replace HR13 := Lib.hid (HR13.out.below hb')
          clear HC ho hb' hr
          clear HR13
          have HC := Lib.hid (same_self (keepW a) A6 A14 c6 c14 (by omega) HR6.out HR14.out)
          go_wp2_with fail
          refine HC.out.mono ?_
          rintro e w15 ⟨rfl, hd⟩
          have HB15 := Lib.hid (HB14.out.trans (hd.below w.heap.size))
          replace HR6 := Lib.hid (HR6.out.below (hd.below _))
          replace HR14 := Lib.hid (HR14.out.below (hd.below _))
          clear HC hd
          clear HR14
          clear HR6
          have HC := Lib.hid (theirs_any a A ca w15 (by omega) (HA.out.below HB15.out))
          go_wp2_with fail
          refine HC.out.mono ?_
          rintro e w16 ⟨v16, rfl, ho, hb'⟩
          obtain ⟨A16, c16, rfl, hc16, hr⟩ := own_slice ho
          have HB16 := Lib.hid (HB15.out.trans (hb'.mono HB15.out.size))
          have HR16 := Lib.hid hr
          clear HC ho hb' hr
          have HC := Lib.hid (theirs_any b B cb w16 (by omega) (HB.out.below HB16.out))
          go_wp2_with fail
          refine HC.out.mono ?_
          rintro e w17 ⟨v17, rfl, ho, hb'⟩
          obtain ⟨A17, c17, rfl, hc17, hr⟩ := own_slice ho
          have HB17 := Lib.hid (HB16.out.trans (hb'.mono HB16.out.size))
          have HR17 := Lib.hid hr
          replace HR16 := Lib.hid (HR16.out.below hb')
          clear HC ho hb' hr
          have HC := Lib.hid (merge_any a b A16 A17 c16 c17 w17 (by omega) (by omega) HR16.out HR17.out hc16 hc17)
          go_wp2_with fail
          refine HC.out.mono ?_
          rintro e w18 ⟨v18, rfl, ho, hb'⟩
          obtain ⟨A18, c18, rfl, hc18, hr⟩ := own_slice ho
          have HB18 := Lib.hid (HB17.out.trans (hb'.mono HB17.out.size))
          have HR18 := Lib.hid hr
          replace HR16 := Lib.hid (HR16.out.below hb')
          replace HR17 := Lib.hid (HR17.out.below hb')
          clear HC ho hb' hr
          clear HR16
          clear HR17
          have hml : (keepW (mergeW a b)).length ≤ a.length + b.length := by
            have := mergeW_len a b
            have := List.length_filter_le liveI (mergeW a b)
            unfold keepW
            omega
          have HC := Lib.hid (ours_any (keepW (mergeW a b)) A18 c18 w18 (by omega) HR18.out)
          go_wp2_with fail
          refine HC.out.mono ?_
          rintro e w19 ⟨v19, rfl, ho, hb'⟩
          obtain ⟨A19, c19, rfl, hc19, hr⟩ := own_slice ho
          have HB19 := Lib.hid (HB18.out.trans (hb'.mono HB18.out.size))
          have HR19 := Lib.hid hr
          replace HR18 := Lib.hid (HR18.out.below hb')
          clear HC ho hb' hr
          clear HR18
          have HGL := Lib.hid (fun (x : It) (hx : x ∈ b) (hk : x.k.size ≤ 16) => get_live (mergeW a b) x (mergeW_up a b HUa.out HUb.out) (mergeW_right a b x hx) hk)
          have HGet := Lib.hid (fun (W : World) (key : ByteArray) (hW : Below w19.heap.size w19 W) => getR_any (keepW (mergeW a b)) A19 c19 key W (by omega) (HR19.out.below hW))
          clear HUa HUb
          obtain ⟨nb, hnb⟩ : ∃ n, n = b.length := ⟨_, rfl⟩
          rw [← hnb] at hb6 t2 hml ⊢
          have Hnb := Lib.hid hnb
          clear hnb
          clear HR19
          generalize keepW (mergeW a b) = Ml at *
          go_wp2_with fail
          go_loopw [61] (fun i wr => ∃ k : Nat, k ≤ nb ∧ i = .int .i64 (k : Nat) ∧ Below w19.heap.size w19 wr) (fun i _ => nb - (intOf i).toNat)
          case atStart => exact ⟨0, Nat.zero_le _, rfl, Below.refl _ _⟩
          case round =>
            obtain ⟨k, hk, rfl, hbw⟩ := hrel
            have HBw := Lib.hid hbw
            clear hbw
            by_cases hlt : k < nb
            · have hlb : k < b.length := by have := Hnb.out; omega
              have hx1 : (k : Int) < (nb : Int) := by omega
              have hx2 : decide ((k : Int) < (nb : Int)) = true := decide_eq_true hx1
              have hx5 : decide (k < nb) = true := decide_eq_true hlt
              have hwk : IntKind.i64.wrap ((k : Int) + 1) = (k : Int) + 1 := wrap64 _ (by omega) (by omega)
              obtain ⟨bb, bo, rfl, _, q1, q2⟩ := (HB.out.below (HB19.out.trans (HBw.out.mono HB19.out.size))).at k hlb
              have hmem : b[k] ∈ b := List.getElem_mem hlb
              have HGx := Lib.hid (fun (hk : b[k].k.size ≤ 16) => HGL.out b[k] hmem hk)
              clear hmem
              generalize b[k] = x at *
              obtain ⟨w2, hw2⟩ : ∃ w2, w2 = wr.alloc (.cells #[.string x.k, .int .u64 (x.v.toNat : Int)] 33) := ⟨_, rfl⟩
              have hb12 : Below wr.heap.size wr w2 := hw2 ▸ (Below.refl _ _).alloc (Nat.le_refl _) _
              have B2 : Blk w2 wr.heap.size 33 [.string x.k, .int .u64 (x.v.toNat : Int)] := hw2 ▸ heap_alloc_new _ _
              have hb2 := HBw.out.trans (hb12.mono HBw.out.size)
              have HG := Lib.hid (HGet.out w2 x.k hb2)
              have HB2' := Lib.hid hb2
              have HK2 := Lib.hid B2
              have HW2 := Lib.hid hw2
              clear hb12 B2 hb2 hw2
              go_wp2_with fail
              rw [← HW2.out]
              refine HG.out.mono ?_
              rintro e w5 ⟨rfl, hb5⟩
              have HB5 := Lib.hid (HB2'.out.trans (hb5.mono HB2'.out.size))
              have B5 := HK2.out.below hb5 HK2.out.lt
              have y0 := B5.cell 0
              have y1 := B5.cell 1
              simp only [List.getElem?_cons_zero, List.getElem?_cons_succ] at y0 y1
              clear HG hb5 B5 HK2 HB2'
              by_cases h16 : x.k.size ≤ 16
              · have t16 : decide ((x.k.size : Int) ≤ (16 : Int)) = true := decide_eq_true (by omega)
                have hg := HGx.out h16
                by_cases hv0 : x.v.toNat = 0
                · rw [if_pos hv0] at hg
                  have tv : ((x.v.toNat : Int) != 0) = false := by rw [hv0]; rfl
                  have tv2 : ((0 : Int) != (x.v.toNat : Int)) = false := by rw [hv0]; rfl
                  rw [hg]
                  clear hg HGx
                  go_wp2_with fail
                  go_roundw
                  case rel => exact ⟨k + 1, by omega, by go_num, HB5.out⟩
                  case measure => simp [intOf]; omega
                · rw [if_neg hv0] at hg
                  have tv : ((x.v.toNat : Int) != 0) = true := by rw [bne_iff_ne]; omega
                  have tv2 : ((x.v.toNat : Int) != (x.v.toNat : Int)) = false := by simp
                  rw [hg]
                  clear hg HGx
                  go_wp2_with fail
                  go_roundw
                  case rel => exact ⟨k + 1, by omega, by go_num, HB5.out⟩
                  case measure => simp [intOf]; omega
              · have t16 : decide ((x.k.size : Int) ≤ (16 : Int)) = false := decide_eq_false (by omega)
                clear HGx
                go_wp2_with fail
                go_roundw
                case rel => exact ⟨k + 1, by omega, by go_num, HB5.out⟩
                case measure => simp [intOf]; omega
            · have hx2 : decide ((k : Int) < (nb : Int)) = false := decide_eq_false (by omega)
              have hx5 : decide (k < nb) = false := decide_eq_false hlt
              have hwl : IntKind.i64.wrap ((a.length : Int) + (nb : Int)) = (a.length : Int) + (nb : Int) := wrap64 _ (by omega) (by omega)
              have tl : decide ((Ml.length : Int) ≤ (a.length : Int) + (nb : Int)) = true := decide_eq_true (by omega)
              go_wp2_with fail
              go_ret
              exact ⟨rfl, HB19.out.trans (HBw.out.mono HB19.out.size)⟩

end Go.Proofs.YtgdomldfjiobfaaGreatDoor
