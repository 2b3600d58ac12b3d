import Derived.Test.YtcelabojehaioaaGreatDoorG13
/- Walks of package pool: Reserve. -/
namespace Go.Proofs.YtcelabojehaioaaGreatDoor
open Go.RowKit

/-- What Reserve answers. -/
def resV (s : St) (c : Nat) : Value := match reserveP s c with
  | some (off, _) => .tuple #[.int .i64 (off : Int), .int .i64 0]
  | none => .tuple #[.int .i64 0, .int .i64 6]
def resS (s : St) (c : Nat) : St := match reserveP s c with
  | some (_, s1) => s1
  | none => s

theorem SysRep.below {w w' : World} {d p L : Nat} {s : St} {tb hb n cT cH : Nat} {own : Nat → Prop} (h : SysRep w d p L s tb hb n cT cH own) (k : Below w.heap.size w w') : SysRep w' d p L s tb hb n cT cH own := by
  obtain ⟨g, hb0, hr, ho⟩ := h.dev
  exact ⟨⟨g, hb0, hr.below k, ho⟩, h.L0, h.L1, h.shape, (k.block _ h.box.lt).trans h.box, h.tk.keep (k.block _ h.tk.lt), h.hd.keep (k.block _ h.hd.lt), h.ntk, h.nhd, h.nsh, h.cT, h.cH, h.dp, h.dt, h.dh, h.pt, h.ph, h.th, h.tabs.below k, h.g1, h.g2⟩

set_option maxHeartbeats 8000000 in
set_option maxRecDepth 100000 in
theorem reserve_pool {w : World} {d p L : Nat} {s : St} {F : Nat → Prop} (h : Sys w d p L s F) (c : Nat) (hc1 : 1 ≤ c) (hc2 : c ≤ 2) :
    Calls Tryz.prog 145 #[.pointer (some ⟨p, 0, none⟩), .int .i64 (c : Int)] w fun e w' => e = .returned (resV s c) ∧ Sys w' d p L (resS s c) F ∧ Moved F F w w' := by
  have HS := Lib.hid h
  obtain ⟨tb, hb, n, cT, cH, own, hr, hF⟩ := h
  have HA := Lib.hid hr.at
  have HR := Lib.hid hr
  have HFF := Lib.hid hF
  have hn : s.tk.length = n := hr.ntk
  have hT : TabB w := hr.tabs.bruijn
  have HTB := Lib.hid hT
  have HN := Lib.hid (none_pool hr.at)
  have t0 : (((blocksN c : Nat) : Int) == 0) = false := by
    rw [beq_eq_false_iff_ne]
    have : blocksN c ≠ 0 := by
      rcases (by omega : c = 1 ∨ c = 2) with rfl | rfl <;> decide
    omega
  have HB := Lib.hid (blocks_any c w (by omega))
  generalize blocksN c = bl at HB t0
  have HSo := Lib.hid (sorted_pool hr.at)
  have hfind : ∀ k : Nat, k < 3 → Instr.findNow (.int .i64) (.int .i64 (k : Int)) (ent3 w.heap.size).toList 0 = some (some (k, .pointer (some ⟨w.heap.size + 2 + 2 * k, 0, none⟩))) := fun k hk => by
    match k, hk with
    | 0, _ => rfl
    | 1, _ => rfl
    | 2, _ => rfl
  have HFi := Lib.hid hfind
  clear hr hF hT hfind
  cases h1 : firstP s c c with
  | some i =>
    have H1 : Hid (firstV (firstP s c c) = .tuple #[.int .i64 (i : Int), .bool true]) := Lib.hid (by rw [h1]; rfl)
    have hsf : slabFor s c = some i := by rw [slabFor, h1]
    obtain ⟨hin, hns⟩ := slabFor_some hsf
    rw [hn] at hin
    obtain ⟨a, hna⟩ := Option.isSome_iff_exists.1 hns
    have hal := nextW_lt hna
    obtain ⟨x, hx⟩ : ∃ x, (takeW (hdN s i) c a).1 = x := ⟨_, rfl⟩
    have hxl : x < 18446744073709551616 := by rw [← hx]; exact takeW_lt _ _ _ (hdN_lt s i) (by omega)
    have hres : reserveP s c = some (placeN s.sh i c a, { s with hd := s.hd.set i (UInt64.ofNat x) }) := by unfold reserveP; rw [hsf]; simp only [hna, hx]
    have HV : Hid (resV s c = .tuple #[.int .i64 ((placeN s.sh i c a : Nat) : Int), .int .i64 0]) := Lib.hid (by rw [resV, hres])
    have HVS : Hid (resS s c = { s with hd := s.hd.set i (UInt64.ofNat x) }) := Lib.hid (by rw [resS, hres])
    have HNx : Hid (optI (nextW (bothN s i) c) = (a : Int)) := Lib.hid (by rw [hna]; rfl)
    have HTk := Lib.hid (take_any (hdN s i) c a · (hdN_lt s i) (by omega) (by omega))
    rw [hx] at HTk
    generalize (takeW (hdN s i) c a).2 = bx at *
    clear hsf hns hna hx hres
    clear h1
    go_enter Tryz.func145, Tryz.ntmps145
    go_wp2_with fail
    refine HN.out.mono ?_
    rintro e w' ⟨rfl, rfl⟩
    go_wp2_with fail
    refine HB.out.mono ?_
    rintro e w' ⟨rfl, rfl⟩
    go_wp2_with fail
    refine HSo.out.mono ?_
    rintro e w1 ⟨rfl, g, cc, Ls, htri, hper⟩
    have HTr := Lib.hid htri
    have HPe := Lib.hid hper
    clear htri hper HSo HB HN
    go_wp2_with fail
    rw [run_look Tryz.boxMap Tryz.underlying3 _ _ (ent3 w.heap.size) 3 _ c _ HTr.out.map (HFi.out c (by omega))]
    go_wp2_with fail
    refine (reserve_find HA.out HTB.out c hc1 hc2 HTr.out HPe.out c (by omega)).mono ?_
    rintro e w2 ⟨rfl, hb2, hord, hmap⟩
    rw [H1.out]
    clear hord hmap
    have hbw := Lib.hid hb2
    have HA2 := HA.out.below hb2
    have HT2 := HTB.out.below hb2
    clear hb2
    go_wp2_with fail
    refine (both_pool HA2 i hin).mono ?_
    rintro e w5 ⟨rfl, hd5⟩
    go_wp2_with fail
    refine (nextS_any (bothN s i) c w5 (bothN_lt s i) (by omega) (HT2.dr hd5)).mono ?_
    rintro e w6 ⟨rfl, hd6⟩
    rw [HNx.out]
    have hd := hd5.trans hd6
    have hb6 := hbw.out.trans ((hd.below _).mono hbw.out.size)
    have ha6 := HA.out.below hb6
    have z6 := ha6.y6
    have z2 := ha6.hd i hin
    have z3 : w6.frozen? ⟨hb, i, none⟩ = false := (hb6.frozen (p := ⟨hb, i, none⟩) HR.out.hd.lt).trans (HR.out.hd.frozen i)
    have HB6 := Lib.hid hb6
    clear hd5 hd6 hd HA2 HT2 ha6 hb6 hbw
    go_wp2_with fail
    go_region_with (go_at_call 199; go_loud (refine (HTk.out _).mono ?_; rintro e w7 ⟨rfl, q, rfl⟩))
    all_goals (clear z6 z2 z3 HTk)
    all_goals (have HSR : Hid (∀ W, Dr w6 W → SysRep (W.setCell ⟨hb, i, none⟩ (.int .u64 (x : Int))) d p L { s with hd := s.hd.set i (UInt64.ofNat x) } tb hb n cT cH own ∧ Moved F F w (W.setCell ⟨hb, i, none⟩ (.int .u64 (x : Int)))) := Lib.hid (fun W k => by
      have hk : Below w.heap.size w W := HB6.out.trans ((k.below _).mono HB6.out.size)
      have h1 := (HR.out.below hk).setHd i (UInt64.ofNat x)
      rw [wv_ofN x hxl] at h1
      exact ⟨h1, (Moved.of_below hk).set (p := ⟨hb, i, none⟩) (.inl ((HFF.out hb).2 (.inr (.inr (.inr rfl))))) _⟩))
    all_goals (go_wp2_with fail)
    all_goals (refine (place_pool (HSR.out _ (Dr.one w6 _)).1.at i c a hin (by omega) (by omega)).mono ?_)
    all_goals (rintro e w9 ⟨rfl, hd9⟩)
    all_goals (go_wp2_with fail)
    all_goals (go_ret2)
    all_goals (refine ⟨by rw [HV.out]; rfl, ?_, (HSR.out _ (Dr.one w6 _)).2.dr hd9⟩)
    all_goals (rw [HVS.out])
    all_goals (exact ⟨tb, hb, n, cT, cH, own, (HSR.out _ (Dr.one w6 _)).1.dr hd9, HFF.out⟩)
  | none =>
    have H1 : Hid (firstV (firstP s c c) = .tuple #[.int .i64 0, .bool false]) := Lib.hid (by rw [h1]; rfl)
    by_cases hc0 : c = 0
    · omega
    cases h2 : firstP s 0 c with
    | some i =>
      have H2 := Lib.hid h2
      have hsf : slabFor s c = some i := by rw [slabFor, h1]; exact h2
      obtain ⟨hin, hns⟩ := slabFor_some hsf
      rw [hn] at hin
      obtain ⟨a, hna⟩ := Option.isSome_iff_exists.1 hns
      have hal := nextW_lt hna
      obtain ⟨x, hx⟩ : ∃ x, (takeW (hdN s i) c a).1 = x := ⟨_, rfl⟩
      have hxl : x < 18446744073709551616 := by rw [← hx]; exact takeW_lt _ _ _ (hdN_lt s i) (by omega)
      have hres : reserveP s c = some (placeN s.sh i c a, { s with hd := s.hd.set i (UInt64.ofNat x) }) := by unfold reserveP; rw [hsf]; simp only [hna, hx]
      have HV : Hid (resV s c = .tuple #[.int .i64 ((placeN s.sh i c a : Nat) : Int), .int .i64 0]) := Lib.hid (by rw [resV, hres])
      have HVS : Hid (resS s c = { s with hd := s.hd.set i (UInt64.ofNat x) }) := Lib.hid (by rw [resS, hres])
      have HNx : Hid (optI (nextW (bothN s i) c) = (a : Int)) := Lib.hid (by rw [hna]; rfl)
      have HTk := Lib.hid (take_any (hdN s i) c a · (hdN_lt s i) (by omega) (by omega))
      rw [hx] at HTk
      generalize (takeW (hdN s i) c a).2 = bx at *
      clear hsf hns hna hx hres
      clear h1 h2
      go_enter Tryz.func145, Tryz.ntmps145
      go_wp2_with fail
      refine HN.out.mono ?_
      rintro e w' ⟨rfl, rfl⟩
      go_wp2_with fail
      refine HB.out.mono ?_
      rintro e w' ⟨rfl, rfl⟩
      go_wp2_with fail
      refine HSo.out.mono ?_
      rintro e w1 ⟨rfl, g, cc, Ls, htri, hper⟩
      have HTr := Lib.hid htri
      have HPe := Lib.hid hper
      clear htri hper HSo HB HN
      go_wp2_with fail
      rw [run_look Tryz.boxMap Tryz.underlying3 _ _ (ent3 w.heap.size) 3 _ c _ HTr.out.map (HFi.out c (by omega))]
      go_wp2_with fail
      refine (reserve_find HA.out HTB.out c hc1 hc2 HTr.out HPe.out c (by omega)).mono ?_
      rintro e w2 ⟨rfl, hb2, hord, hmap⟩
      rw [H1.out]
      have ho0 := hord 0 (by omega) (by omega)
      rw [show w.heap.size + 2 + 2 * 0 = w.heap.size + 2 from rfl] at ho0
      have HMap := Lib.hid hmap
      have HO0 := Lib.hid ho0
      clear hord hmap ho0
      go_wp2_with fail
      rw [run_look Tryz.boxMap Tryz.underlying3 _ _ (ent3 w.heap.size) 3 0 0 (.pointer (some ⟨w.heap.size + 2, 0, none⟩)) HMap.out rfl]
      go_wp2_with fail
      refine (first_pool HA.out HTB.out c (by omega) hb2 HO0.out (fun x hx => ?_) (HTr.out.heap 0 (by omega))).mono ?_
      · have := (HPe.out 0 (by omega)).mem_iff.1 hx
        simp [candN] at this
        exact this.1
      rintro e w3 ⟨r, rfl, hr3, ht3⟩
      have hrr : r = some i := by rw [← first_is hn (HPe.out 0 (by omega)) hr3]; exact H2.out
      subst hrr
      have hgk := HO0.out.glt
      have hok := HO0.out.hB
      replace hb2 := hb2.trans (ht3.below hb2.size (fun b hb => by rcases hb with rfl | rfl; exact hok; exact hgk.1))
      clear ht3 hr3 hgk hok HO0 HMap
      rw [show firstV (some i) = .tuple #[.int .i64 (i : Int), .bool true] from rfl]
      have hbw := Lib.hid hb2
      have HA2 := HA.out.below hb2
      have HT2 := HTB.out.below hb2
      clear hb2
      go_wp2_with fail
      refine (both_pool HA2 i hin).mono ?_
      rintro e w5 ⟨rfl, hd5⟩
      go_wp2_with fail
      refine (nextS_any (bothN s i) c w5 (bothN_lt s i) (by omega) (HT2.dr hd5)).mono ?_
      rintro e w6 ⟨rfl, hd6⟩
      rw [HNx.out]
      have hd := hd5.trans hd6
      have hb6 := hbw.out.trans ((hd.below _).mono hbw.out.size)
      have ha6 := HA.out.below hb6
      have z6 := ha6.y6
      have z2 := ha6.hd i hin
      have z3 : w6.frozen? ⟨hb, i, none⟩ = false := (hb6.frozen (p := ⟨hb, i, none⟩) HR.out.hd.lt).trans (HR.out.hd.frozen i)
      have HB6 := Lib.hid hb6
      clear hd5 hd6 hd HA2 HT2 ha6 hb6 hbw
      go_wp2_with fail
      go_region_with (go_at_call 199; go_loud (refine (HTk.out _).mono ?_; rintro e w7 ⟨rfl, q, rfl⟩))
      all_goals (clear z6 z2 z3 HTk)
      all_goals (have HSR : Hid (∀ W, Dr w6 W → SysRep (W.setCell ⟨hb, i, none⟩ (.int .u64 (x : Int))) d p L { s with hd := s.hd.set i (UInt64.ofNat x) } tb hb n cT cH own ∧ Moved F F w (W.setCell ⟨hb, i, none⟩ (.int .u64 (x : Int)))) := Lib.hid (fun W k => by
        have hk : Below w.heap.size w W := HB6.out.trans ((k.below _).mono HB6.out.size)
        have h1 := (HR.out.below hk).setHd i (UInt64.ofNat x)
        rw [wv_ofN x hxl] at h1
        exact ⟨h1, (Moved.of_below hk).set (p := ⟨hb, i, none⟩) (.inl ((HFF.out hb).2 (.inr (.inr (.inr rfl))))) _⟩))
      all_goals (go_wp2_with fail)
      all_goals (refine (place_pool (HSR.out _ (Dr.one w6 _)).1.at i c a hin (by omega) (by omega)).mono ?_)
      all_goals (rintro e w9 ⟨rfl, hd9⟩)
      all_goals (go_wp2_with fail)
      all_goals (go_ret2)
      all_goals (refine ⟨by rw [HV.out]; rfl, ?_, (HSR.out _ (Dr.one w6 _)).2.dr hd9⟩)
      all_goals (rw [HVS.out])
      all_goals (exact ⟨tb, hb, n, cT, cH, own, (HSR.out _ (Dr.one w6 _)).1.dr hd9, HFF.out⟩)
    | none =>
      have H2 := Lib.hid h2
      have hres : reserveP s c = none := by unfold reserveP slabFor; rw [h1, h2]
      have HV : Hid (resV s c = .tuple #[.int .i64 0, .int .i64 6]) := Lib.hid (by rw [resV, hres])
      have HVS : Hid (resS s c = s) := Lib.hid (by rw [resS, hres])
      clear h1 h2 hres
      go_enter Tryz.func145, Tryz.ntmps145
      go_wp2_with fail
      refine HN.out.mono ?_
      rintro e w' ⟨rfl, rfl⟩
      go_wp2_with fail
      refine HB.out.mono ?_
      rintro e w' ⟨rfl, rfl⟩
      go_wp2_with fail
      refine HSo.out.mono ?_
      rintro e w1 ⟨rfl, g, cc, Ls, htri, hper⟩
      have HTr := Lib.hid htri
      have HPe := Lib.hid hper
      clear htri hper HSo HB HN
      go_wp2_with fail
      rw [run_look Tryz.boxMap Tryz.underlying3 _ _ (ent3 w.heap.size) 3 _ c _ HTr.out.map (HFi.out c (by omega))]
      go_wp2_with fail
      refine (reserve_find HA.out HTB.out c hc1 hc2 HTr.out HPe.out c (by omega)).mono ?_
      rintro e w2 ⟨rfl, hb2, hord, hmap⟩
      rw [H1.out]
      have ho0 := hord 0 (by omega) (by omega)
      rw [show w.heap.size + 2 + 2 * 0 = w.heap.size + 2 from rfl] at ho0
      have HMap := Lib.hid hmap
      have HO0 := Lib.hid ho0
      clear hord hmap ho0
      go_wp2_with fail
      rw [run_look Tryz.boxMap Tryz.underlying3 _ _ (ent3 w.heap.size) 3 0 0 (.pointer (some ⟨w.heap.size + 2, 0, none⟩)) HMap.out rfl]
      go_wp2_with fail
      refine (first_pool HA.out HTB.out c (by omega) hb2 HO0.out (fun x hx => ?_) (HTr.out.heap 0 (by omega))).mono ?_
      · have := (HPe.out 0 (by omega)).mem_iff.1 hx
        simp [candN] at this
        exact this.1
      rintro e w3 ⟨r, rfl, hr3, ht3⟩
      have hrr : r = none := by rw [← first_is hn (HPe.out 0 (by omega)) hr3]; exact H2.out
      subst hrr
      have hgk := HO0.out.glt
      have hok := HO0.out.hB
      replace hb2 := hb2.trans (ht3.below hb2.size (fun b hb => by rcases hb with rfl | rfl; exact hok; exact hgk.1))
      clear ht3 hr3 hgk hok HO0 HMap
      rw [show firstV none = .tuple #[.int .i64 0, .bool false] from rfl]
      go_wp2_with fail
      go_ret2
      refine ⟨by rw [HV.out]; rfl, ?_, Moved.of_below hb2⟩
      rw [HVS.out]
      exact HS.out.below hb2

end Go.Proofs.YtcelabojehaioaaGreatDoor
