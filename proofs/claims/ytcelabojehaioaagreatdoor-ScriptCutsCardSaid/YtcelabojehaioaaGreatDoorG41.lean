import Derived.Test.YtcelabojehaioaaGreatDoorG15
import Derived.Test.YtcelabojehaioaaGreatDoorG39
import Derived.Test.YtcelabojehaioaaGreatDoorG40
/- Walks of package index: visit. Printed by genvis.py. -/
namespace Go.Proofs.YtcelabojehaioaaGreatDoor
open Go.RowKit

theorem visit_all {base sb mb x d p L : Nat} {s : St} {F : Nat → Prop} (hF : ∀ b, F b → b < base) (hxb : x < base) (htb : 0 < base ∧ 1 < base) : ∀ (f : Nat) (w : World) (name : UInt64) (ahead : List UInt8) (A : Option Addr) (c : Nat) (items : List (List UInt8 × UInt64)) (met : List Int) (v : Value), Ix w x d p L s F → SurvAt w base sb mb x items met v → Row8 w A ahead → ahead.length ≤ c → ahead.length ≤ 33 → 34 ≤ f + ahead.length →
    Calls Tryz.prog 171 #[.pointer (some ⟨sb, 0, none⟩), .int .u64 (name.toNat : Int), .slice A ahead.length c] w (VisPost (visitP s f name ahead (items, met)) base sb mb x w)
  | 0, w, name, ahead, A, c, items, met, v, h, hs, hA, hac, hal, h34 => absurd h34 (by omega)
  | f + 1, w, name, ahead, A, c, items, met, v, h, hs, hA, hac, hal, h34 => by
    cases hr : readP s name with
    | none => exact visit_none h hF hs f name ahead A c hr
    | some nd =>
      by_cases hm : offOf name ∈ met
      · exact visit_met h hF hs f name ahead A c hA hac hal nd hr hm
      · by_cases hfar : 32 < (ahead ++ nd.pre).length
        · exact visit_far h hF hs f name ahead A c hA hac hal nd hr hm hfar
        · have ih := fun (W : World) (kid : UInt64) (ah : List UInt8) (A : Option Addr) (c : Nat) (it : List (List UInt8 × UInt64)) (mt : List Int) (v : Value) (h1 : Ix W x d p L s F) (h2 : SurvAt W base sb mb x it mt v) h3 h4 h5 h6 => visit_all hF hxb htb f W kid ah A c it mt v h1 h2 h3 h4 h5 h6
          by_cases hv : nd.val = 0
          · exact visit_deep0 h hF hs f name ahead A c hA hac hal nd hr hm hfar hv hxb htb ih h34
          · cases hk : keyOk (ahead ++ nd.pre) with
            | false => exact visit_key h hF hs f name ahead A c hA hac hal nd hr hm hfar hv hk
            | true => exact visit_deep1 h hF hs f name ahead A c hA hac hal nd hr hm hfar hv hk hxb htb ih h34

end Go.Proofs.YtcelabojehaioaaGreatDoor

/- Walks of package index: survey, All; Nodes and Open at an index without nodes. -/
namespace Go.Proofs.YtcelabojehaioaaGreatDoor
open Go.RowKit

/-- Items in memory. -/
def ItemsAt (w : World) (base : Nat) (v : Value) (items : List (List UInt8 × UInt64)) : Prop := w.ownsRow base 154 2 v items.length (items.map itV).flatten

def SurvPost (s : St) (w : World) (x : Nat) (e : Ending) (w' : World) : Prop :=
  Below w.heap.size w w' ∧ match surveyP s with
    | none => e = .returned (.tuple #[.pointer none, .int .i64 5])
    | some (items, met) => ∃ sb mb v, e = .returned (.tuple #[.pointer (some ⟨sb, 0, none⟩), .int .i64 0]) ∧ SurvAt w' w.heap.size sb mb x items met v

section
variable {w w' : World} {x d p L : Nat} {s : St} {F : Nat → Prop}

set_option maxHeartbeats 8000000 in
set_option maxRecDepth 100000 in
theorem survey_index (h : Ix w x d p L s F) : Calls Tryz.prog 113 #[.pointer (some ⟨x, 0, none⟩)] w (SurvPost s w x) := by
  have HA := Lib.hid (ask_index h ⟨#[]⟩ (by decide))
  rw [if_neg (by decide)] at HA
  have hxl := h.box.lt
  have hFl := h.sys.lt
  have htl := h.sys.tabs.lt
  have HX := Lib.hid h
  have mm := fun W => run_makeMap (P := Tryz.prog) 233 W
  obtain ⟨w2, hw2⟩ : ∃ w2, w2 = (w.alloc (.map #[] 0)).alloc (.cells #[.pointer (some ⟨x, 0, none⟩), .slice none 0 0, .map (some w.heap.size)] 235) := ⟨_, rfl⟩
  have hb2 : Below w.heap.size w w2 := by
    have h1 : Below w.heap.size w (w.alloc (.map #[] 0)) := (Below.refl _ _).alloc (Nat.le_refl _) _
    rw [hw2]; exact h1.alloc h1.size _
  have hS : SurvAt w2 w.heap.size (w.heap.size + 1) w.heap.size x [] [] (.slice none 0 0) := by
    refine ⟨hw2 ▸ blk_two w _ _ _, World.ownsRow_nil _ _ _ _, ?_, by omega, Nat.le_refl _, (fun e => nomatch e), List.nodup_nil, (fun o ho => nomatch ho), Nat.le_refl _⟩
    rw [hw2]
    exact (heap_alloc_old _ _ (by simp)).trans (heap_alloc_new _ _)
  have HS := Lib.hid hS
  have HB2 := Lib.hid hb2
  have HRt := Lib.hid (root_index (h.below hb2))
  have HW2 := Lib.hid hw2
  by_cases h0 : s.ws 9 = 0
  · have HP : Hid (surveyP s = some ([], [])) := Lib.hid (by unfold surveyP; rw [if_pos h0])
    have t0 : (((s.ws 9).toNat : Int) != 0) = false := by rw [h0]; rfl
    clear h hS hb2 hw2 h0
    go_enter Tryz.func113, Tryz.ntmps113
    go_wp2_with fail
    refine HA.out.mono ?_
    rintro e w1 ⟨rfl, rfl⟩
    clear HA
    go_wp2_with fail
    rw [← HW2.out]
    refine HRt.out.mono ?_
    rintro e w3 ⟨rfl, hb3⟩
    have HB3 := Lib.hid (HB2.out.trans (hb3.mono HB2.out.size))
    have HS3 := Lib.hid (HS.out.below hb3)
    clear hb3 HRt
    go_wp2_with fail
    go_ret2
    refine ⟨HB3.out, ?_⟩
    rw [HP.out]
    exact ⟨_, _, _, rfl, HS3.out⟩
  · have HP : Hid (surveyP s = visitP s 34 (s.ws 9) [] ([], [])) := Lib.hid (by unfold surveyP; rw [if_neg h0])
    have t0 : (((s.ws 9).toNat : Int) != 0) = true := by
      rw [bne_iff_ne]; intro e; exact h0 (UInt64.toNat_inj.1 (by simp; omega))
    clear h hS hb2 hw2 h0
    go_enter Tryz.func113, Tryz.ntmps113
    go_wp2_with fail
    refine HA.out.mono ?_
    rintro e w1 ⟨rfl, rfl⟩
    clear HA
    go_wp2_with fail
    rw [← HW2.out]
    refine HRt.out.mono ?_
    rintro e w3 ⟨rfl, hb3⟩
    have HB3 := Lib.hid (HB2.out.trans (hb3.mono HB2.out.size))
    have HV := Lib.hid (visit_all hFl hxl htl 34 w3 (s.ws 9) [] none 0 [] [] _ (HX.out.below HB3.out) (HS.out.below hb3) (Row8.nil _) (Nat.le_refl _) (by decide) (by decide))
    clear hb3 HRt
    simp only [List.length_nil] at HV
    cases hv : visitP s 34 (s.ws 9) [] ([], []) with
    | none =>
      have HP' : Hid (surveyP s = none) := Lib.hid (by rw [HP.out, hv])
      rw [hv] at HV
      clear hv HP
      go_wp2_with fail
      refine HV.out.mono ?_
      rintro e w4 ⟨hb4, hk4, hp4⟩
      replace hp4 : e = .returned (.int .i64 5) := hp4
      subst hp4
      have HB4 := Lib.hid (HB3.out.trans hb4)
      clear hb4 hk4 HV
      go_wp2_with fail
      go_ret2
      refine ⟨HB4.out, ?_⟩
      rw [HP'.out]
      rfl
    | some im =>
      obtain ⟨i2, m2⟩ := im
      have HP' : Hid (surveyP s = some (i2, m2)) := Lib.hid (by rw [HP.out, hv])
      rw [hv] at HV
      clear hv HP
      go_wp2_with fail
      refine HV.out.mono ?_
      rintro e w4 ⟨hb4, hk4, hp4⟩
      obtain ⟨he4, v4, hs4⟩ := (hp4 : e = .returned (.int .i64 0) ∧ ∃ v', SurvAt w4 w.heap.size (w.heap.size + 1) w.heap.size x i2 m2 v')
      subst he4
      have HB4 := Lib.hid (HB3.out.trans hb4)
      have HS4 := Lib.hid hs4
      clear hb4 hk4 HV hs4
      go_wp2_with fail
      go_ret2
      refine ⟨HB4.out, ?_⟩
      rw [HP'.out]
      exact ⟨_, _, _, rfl, HS4.out⟩

def AllPost (s : St) (w : World) (e : Ending) (w' : World) : Prop :=
  Below w.heap.size w w' ∧ match surveyP s with
    | none => e = .returned (.tuple #[.slice none 0 0, .int .i64 5])
    | some (items, _) => ∃ v, e = .returned (.tuple #[v, .int .i64 0]) ∧ ItemsAt w' w.heap.size v items ∧ items.length ≤ 65537

set_option maxHeartbeats 4000000 in
/-- All. -/
theorem all_index (h : Ix w x d p L s F) : Calls Tryz.prog 68 #[.pointer (some ⟨x, 0, none⟩)] w (AllPost s w) := by
  have HS := Lib.hid (survey_index h)
  cases hv : surveyP s with
  | none =>
    have HV := Lib.hid hv
    clear h hv
    go_enter Tryz.func68, Tryz.ntmps68
    go_wp2_with fail
    refine HS.out.mono ?_
    rintro e w1 ⟨hb1, hp1⟩
    rw [HV.out] at hp1
    replace hp1 : e = .returned (.tuple #[.pointer none, .int .i64 5]) := hp1
    subst hp1
    have HB := Lib.hid hb1
    clear hb1 HS
    go_wp2_with fail
    go_ret2
    refine ⟨HB.out, ?_⟩
    rw [HV.out]
    rfl
  | some im =>
    obtain ⟨i2, m2⟩ := im
    have HV := Lib.hid hv
    clear h hv
    go_enter Tryz.func68, Tryz.ntmps68
    go_wp2_with fail
    refine HS.out.mono ?_
    rintro e w1 ⟨hb1, hp1⟩
    rw [HV.out] at hp1
    obtain ⟨sb, mb, v, rfl, hs1⟩ := hp1
    have z1 := hs1.box.cell 1
    simp only [List.getElem?_cons_succ, List.getElem?_cons_zero] at z1
    have HB := Lib.hid hb1
    have HI := Lib.hid hs1.row
    have HFw := Lib.hid hs1.few
    clear hb1 HS hs1
    go_wp2_with fail
    go_ret2
    refine ⟨HB.out, ?_⟩
    rw [HV.out]
    exact ⟨v, rfl, HI.out, HFw.out⟩
end

end Go.Proofs.YtcelabojehaioaaGreatDoor

/- Walks of package walk: the closure of Merge, keep. -/
namespace Go.Proofs.YtcelabojehaioaaGreatDoor
open Go.RowKit

end Go.Proofs.YtcelabojehaioaaGreatDoor

/- Walks of package walk: Merge. -/
namespace Go.Proofs.YtcelabojehaioaaGreatDoor
open Go.RowKit

theorem own_mono2 {w : World} {base base' k n : Nat} {e : TypeId} {v : Value} {xs : List Value} (h : w.ownsRow base e k v n xs) (hb : base' ≤ base) : w.ownsRow base' e k v n xs :=
  ⟨h.1, h.2.imp id (fun ⟨g, cap, cur, h1, h2, h3⟩ => ⟨g, cap, cur, h1, Nat.le_trans hb h2, h3⟩)⟩

end Go.Proofs.YtcelabojehaioaaGreatDoor
