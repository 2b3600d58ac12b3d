import Derived.Test.YtklcklflnkbccaaGreatDoorG22
import Derived.Test.YtklcklflnkbccaaGreatDoorG23
import Derived.Test.YtklcklflnkbccaaGreatDoorG24
/- Walks of package index: visit. Printed by genvis.py. -/
namespace Go.Proofs.YtklcklflnkbccaaGreatDoor
open Go.RowKit

theorem visit_all {base sb mb x d p L : Nat} {s : St} {F : Nat → Prop} (hF : ∀ b, F b → b < base) (hxb : x < base) (htb : 0 < base ∧ 1 < base) : ∀ (f : Nat) (w : World) (name : UInt64) (ahead : List UInt8) (A : Option Addr) (c : Nat) (items : List (List UInt8 × UInt64)) (met : List Int) (v : Value), Ix w x d p L s F → SurvAt w base sb mb x items met v → Row8 w A ahead → ahead.length ≤ c → ahead.length ≤ 33 → 34 ≤ f + ahead.length →
    Calls Tryz.prog 85 #[.pointer (some ⟨sb, 0, none⟩), .int .u64 (name.toNat : Int), .slice A ahead.length c] w (VisPost (visitP s f name ahead (items, met)) base sb mb x w)
  | 0, w, name, ahead, A, c, items, met, v, h, hs, hA, hac, hal, h34 => absurd h34 (by omega)
  | f + 1, w, name, ahead, A, c, items, met, v, h, hs, hA, hac, hal, h34 => by
    cases hr : readP s name with
    | none => exact visit_none h hF hs f name ahead A c hr
    | some nd =>
      by_cases hm : offOf name ∈ met
      · exact visit_met h hF hs f name ahead A c hA hac hal nd hr hm
      · by_cases hfar : 32 < (ahead ++ nd.pre).length
        · exact visit_far h hF hs f name ahead A c hA hac hal nd hr hm hfar
        · have ih := fun (W : World) (kid : UInt64) (ah : List UInt8) (A : Option Addr) (c : Nat) (it : List (List UInt8 × UInt64)) (mt : List Int) (v : Value) (h1 : Ix W x d p L s F) (h2 : SurvAt W base sb mb x it mt v) h3 h4 h5 h6 => visit_all hF hxb htb f W kid ah A c it mt v h1 h2 h3 h4 h5 h6
          by_cases hv : nd.val = 0
          · exact visit_deep0 h hF hs f name ahead A c hA hac hal nd hr hm hfar hv hxb htb ih h34
          · cases hk : keyOk (ahead ++ nd.pre) with
            | false => exact visit_key h hF hs f name ahead A c hA hac hal nd hr hm hfar hv hk
            | true => exact visit_deep1 h hF hs f name ahead A c hA hac hal nd hr hm hfar hv hk hxb htb ih h34

end Go.Proofs.YtklcklflnkbccaaGreatDoor

/- Walks of package index: survey, All; Nodes and Open at an index without nodes. -/
namespace Go.Proofs.YtklcklflnkbccaaGreatDoor
open Go.RowKit

/-- Items in memory. -/
def ItemsAt (w : World) (base : Nat) (v : Value) (items : List (List UInt8 × UInt64)) : Prop := w.ownsRow base 35 2 v items.length (items.map itV).flatten

def SurvPost (s : St) (w : World) (x : Nat) (e : Ending) (w' : World) : Prop :=
  Below w.heap.size w w' ∧ match surveyP s with
    | none => e = .returned (.tuple #[.pointer none, .int .i64 5])
    | some (items, met) => ∃ sb mb v, e = .returned (.tuple #[.pointer (some ⟨sb, 0, none⟩), .int .i64 0]) ∧ SurvAt w' w.heap.size sb mb x items met v

section
variable {w w' : World} {x d p L : Nat} {s : St} {F : Nat → Prop}

set_option maxHeartbeats 8000000 in
set_option maxRecDepth 100000 in
theorem survey_index (h : Ix w x d p L s F) : Calls Tryz.prog 53 #[.pointer (some ⟨x, 0, none⟩)] w (SurvPost s w x) := by
  have HA := Lib.hid (ask_index h ⟨#[]⟩ (by decide))
  rw [if_neg (by decide)] at HA
  have hxl := h.box.lt
  have hFl := h.sys.lt
  have htl := h.sys.tabs.lt
  have HX := Lib.hid h
  have mm := fun W => run_makeMap (P := Tryz.prog) 80 W
  obtain ⟨w2, hw2⟩ : ∃ w2, w2 = (w.alloc (.map #[] 0)).alloc (.cells #[.pointer (some ⟨x, 0, none⟩), .slice none 0 0, .map (some w.heap.size)] 128) := ⟨_, rfl⟩
  have hb2 : Below w.heap.size w w2 := by
    have h1 : Below w.heap.size w (w.alloc (.map #[] 0)) := (Below.refl _ _).alloc (Nat.le_refl _) _
    rw [hw2]; exact h1.alloc h1.size _
  have hS : SurvAt w2 w.heap.size (w.heap.size + 1) w.heap.size x [] [] (.slice none 0 0) := by
    refine ⟨hw2 ▸ blk_two w _ _ _, World.ownsRow_nil _ _ _ _, ?_, by omega, Nat.le_refl _, (fun e => nomatch e), List.nodup_nil, (fun o ho => nomatch ho), Nat.le_refl _⟩
    rw [hw2]
    exact (heap_alloc_old _ _ (by simp)).trans (heap_alloc_new _ _)
  have HS := Lib.hid hS
  have HB2 := Lib.hid hb2
  have HRt := Lib.hid (root_index (h.below hb2))
  have HW2 := Lib.hid hw2
  by_cases h0 : s.ws 9 = 0
  · have HP : Hid (surveyP s = some ([], [])) := Lib.hid (by unfold surveyP; rw [if_pos h0])
    have t0 : (((s.ws 9).toNat : Int) != 0) = false := by rw [h0]; rfl
    clear h hS hb2 hw2 h0
    go_enter Tryz.func53, Tryz.ntmps53
    go_wp2_with fail
    refine HA.out.mono ?_
    rintro e w1 ⟨rfl, rfl⟩
    clear HA
    go_wp2_with fail
    rw [← HW2.out]
    refine HRt.out.mono ?_
    rintro e w3 ⟨rfl, hb3⟩
    have HB3 := Lib.hid (HB2.out.trans (hb3.mono HB2.out.size))
    have HS3 := Lib.hid (HS.out.below hb3)
    clear hb3 HRt
    go_wp2_with fail
    go_ret2
    refine ⟨HB3.out, ?_⟩
    rw [HP.out]
    exact ⟨_, _, _, rfl, HS3.out⟩
  · have HP : Hid (surveyP s = visitP s 34 (s.ws 9) [] ([], [])) := Lib.hid (by unfold surveyP; rw [if_neg h0])
    have t0 : (((s.ws 9).toNat : Int) != 0) = true := by
      rw [bne_iff_ne]; intro e; exact h0 (UInt64.toNat_inj.1 (by simp; omega))
    clear h hS hb2 hw2 h0
    go_enter Tryz.func53, Tryz.ntmps53
    go_wp2_with fail
    refine HA.out.mono ?_
    rintro e w1 ⟨rfl, rfl⟩
    clear HA
    go_wp2_with fail
    rw [← HW2.out]
    refine HRt.out.mono ?_
    rintro e w3 ⟨rfl, hb3⟩
    have HB3 := Lib.hid (HB2.out.trans (hb3.mono HB2.out.size))
    have HV := Lib.hid (visit_all hFl hxl htl 34 w3 (s.ws 9) [] none 0 [] [] _ (HX.out.below HB3.out) (HS.out.below hb3) (Row8.nil _) (Nat.le_refl _) (by decide) (by decide))
    clear hb3 HRt
    simp only [List.length_nil] at HV
    cases hv : visitP s 34 (s.ws 9) [] ([], []) with
    | none =>
      have HP' : Hid (surveyP s = none) := Lib.hid (by rw [HP.out, hv])
      rw [hv] at HV
      clear hv HP
      go_wp2_with fail
      refine HV.out.mono ?_
      rintro e w4 ⟨hb4, hk4, hp4⟩
      replace hp4 : e = .returned (.int .i64 5) := hp4
      subst hp4
      have HB4 := Lib.hid (HB3.out.trans hb4)
      clear hb4 hk4 HV
      go_wp2_with fail
      go_ret2
      refine ⟨HB4.out, ?_⟩
      rw [HP'.out]
      rfl
    | some im =>
      obtain ⟨i2, m2⟩ := im
      have HP' : Hid (surveyP s = some (i2, m2)) := Lib.hid (by rw [HP.out, hv])
      rw [hv] at HV
      clear hv HP
      go_wp2_with fail
      refine HV.out.mono ?_
      rintro e w4 ⟨hb4, hk4, hp4⟩
      obtain ⟨he4, v4, hs4⟩ := (hp4 : e = .returned (.int .i64 0) ∧ ∃ v', SurvAt w4 w.heap.size (w.heap.size + 1) w.heap.size x i2 m2 v')
      subst he4
      have HB4 := Lib.hid (HB3.out.trans hb4)
      have HS4 := Lib.hid hs4
      clear hb4 hk4 HV hs4
      go_wp2_with fail
      go_ret2
      refine ⟨HB4.out, ?_⟩
      rw [HP'.out]
      exact ⟨_, _, _, rfl, HS4.out⟩

def AllPost (s : St) (w : World) (e : Ending) (w' : World) : Prop :=
  Below w.heap.size w w' ∧ match surveyP s with
    | none => e = .returned (.tuple #[.slice none 0 0, .int .i64 5])
    | some (items, _) => ∃ v, e = .returned (.tuple #[v, .int .i64 0]) ∧ ItemsAt w' w.heap.size v items ∧ items.length ≤ 65537

set_option maxHeartbeats 4000000 in
/-- All. -/
theorem all_index (h : Ix w x d p L s F) : Calls Tryz.prog 23 #[.pointer (some ⟨x, 0, none⟩)] w (AllPost s w) := by
  have HS := Lib.hid (survey_index h)
  cases hv : surveyP s with
  | none =>
    have HV := Lib.hid hv
    clear h hv
    go_enter Tryz.func23, Tryz.ntmps23
    go_wp2_with fail
    refine HS.out.mono ?_
    rintro e w1 ⟨hb1, hp1⟩
    rw [HV.out] at hp1
    replace hp1 : e = .returned (.tuple #[.pointer none, .int .i64 5]) := hp1
    subst hp1
    have HB := Lib.hid hb1
    clear hb1 HS
    go_wp2_with fail
    go_ret2
    refine ⟨HB.out, ?_⟩
    rw [HV.out]
    rfl
  | some im =>
    obtain ⟨i2, m2⟩ := im
    have HV := Lib.hid hv
    clear h hv
    go_enter Tryz.func23, Tryz.ntmps23
    go_wp2_with fail
    refine HS.out.mono ?_
    rintro e w1 ⟨hb1, hp1⟩
    rw [HV.out] at hp1
    obtain ⟨sb, mb, v, rfl, hs1⟩ := hp1
    have z1 := hs1.box.cell 1
    simp only [List.getElem?_cons_succ, List.getElem?_cons_zero] at z1
    have HB := Lib.hid hb1
    have HI := Lib.hid hs1.row
    have HFw := Lib.hid hs1.few
    clear hb1 HS hs1
    go_wp2_with fail
    go_ret2
    refine ⟨HB.out, ?_⟩
    rw [HV.out]
    exact ⟨v, rfl, HI.out, HFw.out⟩
end

end Go.Proofs.YtklcklflnkbccaaGreatDoor

/- Walks of package walk: the closure of Merge, keep. -/
namespace Go.Proofs.YtklcklflnkbccaaGreatDoor
open Go.RowKit

/-- An item's cells. -/
def itC (i : It) : List Value := [.string i.k, .int .u64 (i.v.toNat : Int)]
def itCs (l : List It) : List Value := (l.map itC).flatten
theorem itCs_len : ∀ (l : List It), (itCs l).length = 2 * l.length
  | [] => rfl
  | a :: t => by
    have := itCs_len t
    simp only [itCs, List.map_cons, List.flatten_cons, List.length_append, List.length_cons] at this ⊢
    rw [this]
    simp [itC]
    omega
theorem itCs_app (l : List It) (a : It) : itCs (l ++ [a]) = itCs l ++ itC a := by simp [itCs]
theorem itCs_get : ∀ (l : List It) (k : Nat) (h : k < l.length), (itCs l)[2 * k]? = some (.string l[k].k) ∧ (itCs l)[2 * k + 1]? = some (.int .u64 (l[k].v.toNat : Int))
  | a :: t, 0, _ => by simp [itCs, itC]
  | a :: t, k + 1, h => by
    obtain ⟨h1, h2⟩ := itCs_get t k (by simpa using h)
    have e : itCs (a :: t) = itC a ++ itCs t := rfl
    rw [e]
    constructor
    · rw [List.getElem?_append_right (by simp [itC]; omega)]
      simpa [itC, show 2 * (k + 1) - 2 = 2 * k by omega] using h1
    · rw [List.getElem?_append_right (by simp [itC]; omega)]
      simpa [itC, show 2 * (k + 1) + 1 - 2 = 2 * k + 1 by omega] using h2

/-- Items that lie there. -/
def ItR (w : World) (A : Option Addr) (l : List It) : Prop := Rd w A (2 * l.length) (itCs l)
theorem ItR.below {w w' : World} {A : Option Addr} {l : List It} (h : ItR w A l) (k : Below w.heap.size w w') : ItR w' A l := Rd.below h k
theorem ItR.at {w : World} {A : Option Addr} {l : List It} (h : ItR w A l) (k : Nat) (hk : k < l.length) : ∃ b off, A = some ⟨b, off, none⟩ ∧ b < w.heap.size ∧ w.cell? ⟨b, off + k * 2, none⟩ = some (.string l[k].k) ∧ w.cell? ⟨b, off + k * 2 + 1, none⟩ = some (.int .u64 (l[k].v.toNat : Int)) := by
  obtain ⟨b, off, e, hb, hc⟩ := h.2 (by omega)
  obtain ⟨h1, h2⟩ := itCs_get l k hk
  refine ⟨b, off, e, hb, ?_, ?_⟩
  · rw [Nat.mul_comm, hc (2 * k) (by omega), h1]
  · rw [Nat.mul_comm, Nat.add_assoc, hc (2 * k + 1) (by omega), h2]



end Go.Proofs.YtklcklflnkbccaaGreatDoor

/- Walks of package walk: the closures of Next and of Range, keep at each. Printed by genkeep.py. -/
namespace Go.Proofs.YtklcklflnkbccaaGreatDoor
open Go.RowKit

def keepG (g : It → Bool) (l : List It) : List It := l.filter g
def nextG (key : ByteArray) (i : It) : Bool := !(Op.bytesLess i.k.toList key.toList || i.k.toList == key.toList)
def rangeG (from_ to : ByteArray) (i : It) : Bool := !Op.bytesLess i.k.toList from_.toList && (to.toList == [] || Op.bytesLess i.k.toList to.toList)

set_option maxHeartbeats 1000000 in
theorem next_any (i : It) (key : ByteArray) (bx : Nat) (w : World) (hx : w.cell? ⟨bx, 0, none⟩ = some (.string key)) : Calls Tryz.prog 40 #[.agg #[.string i.k, .int .u64 (i.v.toNat : Int)], .pointer (some ⟨bx, 0, none⟩)] w fun e w' => e = .returned (.bool (nextG key i)) ∧ Below w.heap.size w w' := by
  have hb : Below w.heap.size w (w.alloc (.cells #[.string i.k, .int .u64 (i.v.toNat : Int)] 35)) := (Below.refl _ _).alloc (Nat.le_refl _) _
  have y := (hb.cell (p := ⟨bx, 0, none⟩) (World.block_lt_of_cell? w _ hx)).trans hx
  clear hx
  go_enter Tryz.func40, Tryz.ntmps40
  go_wp2
  go_ret
  exact ⟨by unfold nextG; rw [Bool.not_or]; rfl, hb⟩

set_option maxHeartbeats 1000000 in
theorem range_any (i : It) (from_ to : ByteArray) (b1 b2 : Nat) (w : World) (hx : w.cell? ⟨b1, 0, none⟩ = some (.string from_)) (hy : w.cell? ⟨b2, 0, none⟩ = some (.string to)) : Calls Tryz.prog 39 #[.agg #[.string i.k, .int .u64 (i.v.toNat : Int)], .pointer (some ⟨b1, 0, none⟩), .pointer (some ⟨b2, 0, none⟩)] w fun e w' => e = .returned (.bool (rangeG from_ to i)) ∧ Below w.heap.size w w' := by
  have hb : Below w.heap.size w (w.alloc (.cells #[.string i.k, .int .u64 (i.v.toNat : Int)] 35)) := (Below.refl _ _).alloc (Nat.le_refl _) _
  have y1 := (hb.cell (p := ⟨b1, 0, none⟩) (World.block_lt_of_cell? w _ hx)).trans hx
  have y2 := (hb.cell (p := ⟨b2, 0, none⟩) (World.block_lt_of_cell? w _ hy)).trans hy
  have he : (⟨#[]⟩ : ByteArray).toList = [] := by unfold ByteArray.toList ByteArray.toList.loop; rfl
  clear hx hy
  cases h1 : Op.bytesLess i.k.toList from_.toList <;> cases h2 : (to.toList == []) <;> cases h3 : Op.bytesLess i.k.toList to.toList
  all_goals (have HG : Hid (rangeG from_ to i = _) := Lib.hid (by unfold rangeG; rw [h1, h2, h3]))
  all_goals (go_enter Tryz.func39, Tryz.ntmps39)
  all_goals (go_wp2)
  all_goals (go_ret)
  all_goals (exact ⟨by rw [HG.out]; rfl, hb⟩)

set_option maxHeartbeats 4000000 in
set_option maxRecDepth 100000 in
theorem keep_next (key : ByteArray) (bx : Nat) (l : List It) (A : Option Addr) (c : Nat) (w : World) (hcx : w.cell? ⟨bx, 0, none⟩ = some (.string key)) (hl : l.length ≤ 100000) (h : ItR w A l) : Calls Tryz.prog 38 #[.slice A l.length c, .func (.func 40) #[] #[.pointer (some ⟨bx, 0, none⟩)]] w fun e w' =>
    ∃ v, e = .returned v ∧ w'.ownsRow w.heap.size 35 2 v (keepG (nextG key) l).length (itCs (keepG (nextG key) l)) ∧ Below w.heap.size w w' := by
  have HR := Lib.hid h
  have HCx := Lib.hid hcx
  have hbx := World.block_lt_of_cell? w _ hcx
  clear h hcx
  go_enter Tryz.func38, Tryz.ntmps38
  go_wp2_with fail
  go_loopw [5, 10] (fun u i wr => ∃ k : Nat, k ≤ l.length ∧ i = .int .i64 (k : Nat) ∧ wr.ownsRow w.heap.size 35 2 u (keepG (nextG key) (l.take k)).length (itCs (keepG (nextG key) (l.take k))) ∧ Below w.heap.size w wr) (fun _ i _ => l.length - (intOf i).toNat)
  case atStart => exact ⟨0, Nat.zero_le _, rfl, World.ownsRow_nil _ _ _ _, Below.refl _ _⟩
  case round =>
    obtain ⟨k, hk, rfl, hown, hb⟩ := hrel
    have HO := Lib.hid hown
    have HB := Lib.hid hb
    clear hown hb
    by_cases hlt : k < l.length
    · obtain ⟨b, off, rfl, hbw, q1, q2⟩ := (HR.out.below HB.out).at k hlt
      have hx1 : (k : Int) < (l.length : Int) := by omega
      have hx2 : decide ((k : Int) < (l.length : Int)) = true := decide_eq_true hx1
      have hwk : IntKind.i64.wrap ((k : Int) + 1) = (k : Int) + 1 := wrap64 _ (by omega) (by omega)
      have HTk : Hid (keepG (nextG key) (l.take (k + 1)) = if (nextG key) l[k] then keepG (nextG key) (l.take k) ++ [l[k]] else keepG (nextG key) (l.take k)) := Lib.hid (by
        rw [List.take_succ_eq_append_getElem hlt]
        unfold keepG
        rw [List.filter_append]
        simp only [List.filter_cons, List.filter_nil]
        split <;> simp)
      have hfl : (keepG (nextG key) (l.take k)).length ≤ 100000 := Nat.le_trans (List.length_filter_le _ _) (by simp; omega)
      generalize l[k] = it at *
      have HLv := Lib.hid (fun (W : World) (hW : Below w.heap.size w W) => next_any it key bx W ((hW.cell (p := ⟨bx, 0, none⟩) hbx).trans HCx.out))
      go_wp2_with fail
      have B1 : Blk (wr.alloc (.cells #[.string it.k, .int .u64 (it.v.toNat : Int)] 35)) wr.heap.size 35 [.string it.k, .int .u64 (it.v.toNat : Int)] := heap_alloc_new _ _
      have hb1 : Below wr.heap.size wr (wr.alloc (.cells #[.string it.k, .int .u64 (it.v.toNat : Int)] 35)) := (Below.refl _ _).alloc (Nat.le_refl _) _
      refine (HLv.out _ (HB.out.trans (hb1.mono HB.out.size))).mono ?_
      rintro e w2 ⟨rfl, hb2⟩
      have hb12 := hb1.trans (hb2.mono hb1.size)
      have HB2 := Lib.hid (HB.out.trans (hb12.mono HB.out.size))
      have HO2 := Lib.hid (own_stay HO.out (Kept.of_below (r := none) hb12) (by
        rcases HO.out.2 with ⟨h1, _⟩ | ⟨g, cap, cur, h1, _⟩
        · exact .inr (by subst h1; rfl)
        · exact .inl (by subst h1; exact fun e => nomatch e)))
      have B2 := B1.below hb2 B1.lt
      have y0 := B2.cell 0
      have y1 := B2.cell 1
      simp only [List.getElem?_cons_zero, List.getElem?_cons_succ] at y0 y1
      have hbs : w.heap.size ≤ w2.heap.size := HB2.out.size
      clear B1 B2 hb1 hb2 hb12 HLv HO HB HR q1 q2
      cases hlv : (nextG key) it with
      | true =>
        rw [hlv, if_pos rfl] at HTk
        go_wp2_with (at_builtin; refine wpList_app_one rfl (.tmp 17) (.tmp 19) 29 rfl Tryz.itemTyK w2 w.heap.size u5 (keepG (nextG key) (l.take k)).length (itCs (keepG (nextG key) (l.take k))) [.string it.k, .int .u64 (it.v.toNat : Int)] rfl HO2.out rfl w2.heap.size 1 rfl rfl rfl (by decide) (by intro u hu; simp at hu; rcases hu with rfl | rfl <;> rfl) (by omega) (by decide) hbs ?_; intro g6 c6 w6 hO6 hB6 hK6 hg6)
        have HO6 := Lib.hid hO6
        have HB6 := Lib.hid (HB2.out.trans hB6)
        clear hO6 hB6 hK6 hg6 y0 y1
        go_wp2_with fail
        go_roundw
        case rel => exact ⟨k + 1, by omega, by go_num, by rw [HTk.out, List.length_append, itCs_app]; exact HO6.out, HB6.out⟩
        case measure => simp [intOf]; omega
      | false =>
        rw [hlv] at HTk
        go_wp2_with fail
        go_roundw
        case rel => exact ⟨k + 1, by omega, by go_num, by rw [HTk.out]; exact HO2.out, HB2.out⟩
        case measure => simp [intOf]; omega
    · have hkn : k = l.length := by omega
      subst hkn
      have HO2 : Hid (wr.ownsRow w.heap.size 35 2 u5 (keepG (nextG key) l).length (itCs (keepG (nextG key) l))) := Lib.hid (by have := HO.out; rwa [List.take_length] at this)
      go_wp2_with fail
      go_ret
      exact ⟨_, rfl, HO2.out, HB.out⟩

set_option maxHeartbeats 4000000 in
set_option maxRecDepth 100000 in
theorem keep_range (from_ to : ByteArray) (b1 b2 : Nat) (l : List It) (A : Option Addr) (c : Nat) (w : World) (hcx : w.cell? ⟨b1, 0, none⟩ = some (.string from_)) (hcy : w.cell? ⟨b2, 0, none⟩ = some (.string to)) (hl : l.length ≤ 100000) (h : ItR w A l) : Calls Tryz.prog 38 #[.slice A l.length c, .func (.func 39) #[] #[.pointer (some ⟨b1, 0, none⟩), .pointer (some ⟨b2, 0, none⟩)]] w fun e w' =>
    ∃ v, e = .returned v ∧ w'.ownsRow w.heap.size 35 2 v (keepG (rangeG from_ to) l).length (itCs (keepG (rangeG from_ to) l)) ∧ Below w.heap.size w w' := by
  have HR := Lib.hid h
  have HCx := Lib.hid hcx
  have HCy := Lib.hid hcy
  have hb1x := World.block_lt_of_cell? w _ hcx
  have hb2x := World.block_lt_of_cell? w _ hcy
  clear h hcx hcy
  go_enter Tryz.func38, Tryz.ntmps38
  go_wp2_with fail
  go_loopw [5, 10] (fun u i wr => ∃ k : Nat, k ≤ l.length ∧ i = .int .i64 (k : Nat) ∧ wr.ownsRow w.heap.size 35 2 u (keepG (rangeG from_ to) (l.take k)).length (itCs (keepG (rangeG from_ to) (l.take k))) ∧ Below w.heap.size w wr) (fun _ i _ => l.length - (intOf i).toNat)
  case atStart => exact ⟨0, Nat.zero_le _, rfl, World.ownsRow_nil _ _ _ _, Below.refl _ _⟩
  case round =>
    obtain ⟨k, hk, rfl, hown, hb⟩ := hrel
    have HO := Lib.hid hown
    have HB := Lib.hid hb
    clear hown hb
    by_cases hlt : k < l.length
    · obtain ⟨b, off, rfl, hbw, q1, q2⟩ := (HR.out.below HB.out).at k hlt
      have hx1 : (k : Int) < (l.length : Int) := by omega
      have hx2 : decide ((k : Int) < (l.length : Int)) = true := decide_eq_true hx1
      have hwk : IntKind.i64.wrap ((k : Int) + 1) = (k : Int) + 1 := wrap64 _ (by omega) (by omega)
      have HTk : Hid (keepG (rangeG from_ to) (l.take (k + 1)) = if (rangeG from_ to) l[k] then keepG (rangeG from_ to) (l.take k) ++ [l[k]] else keepG (rangeG from_ to) (l.take k)) := Lib.hid (by
        rw [List.take_succ_eq_append_getElem hlt]
        unfold keepG
        rw [List.filter_append]
        simp only [List.filter_cons, List.filter_nil]
        split <;> simp)
      have hfl : (keepG (rangeG from_ to) (l.take k)).length ≤ 100000 := Nat.le_trans (List.length_filter_le _ _) (by simp; omega)
      generalize l[k] = it at *
      have HLv := Lib.hid (fun (W : World) (hW : Below w.heap.size w W) => range_any it from_ to b1 b2 W ((hW.cell (p := ⟨b1, 0, none⟩) hb1x).trans HCx.out) ((hW.cell (p := ⟨b2, 0, none⟩) hb2x).trans HCy.out))
      go_wp2_with fail
      have B1 : Blk (wr.alloc (.cells #[.string it.k, .int .u64 (it.v.toNat : Int)] 35)) wr.heap.size 35 [.string it.k, .int .u64 (it.v.toNat : Int)] := heap_alloc_new _ _
      have hb1 : Below wr.heap.size wr (wr.alloc (.cells #[.string it.k, .int .u64 (it.v.toNat : Int)] 35)) := (Below.refl _ _).alloc (Nat.le_refl _) _
      refine (HLv.out _ (HB.out.trans (hb1.mono HB.out.size))).mono ?_
      rintro e w2 ⟨rfl, hb2⟩
      have hb12 := hb1.trans (hb2.mono hb1.size)
      have HB2 := Lib.hid (HB.out.trans (hb12.mono HB.out.size))
      have HO2 := Lib.hid (own_stay HO.out (Kept.of_below (r := none) hb12) (by
        rcases HO.out.2 with ⟨h1, _⟩ | ⟨g, cap, cur, h1, _⟩
        · exact .inr (by subst h1; rfl)
        · exact .inl (by subst h1; exact fun e => nomatch e)))
      have B2 := B1.below hb2 B1.lt
      have y0 := B2.cell 0
      have y1 := B2.cell 1
      simp only [List.getElem?_cons_zero, List.getElem?_cons_succ] at y0 y1
      have hbs : w.heap.size ≤ w2.heap.size := HB2.out.size
      clear B1 B2 hb1 hb2 hb12 HLv HO HB HR q1 q2
      cases hlv : (rangeG from_ to) it with
      | true =>
        rw [hlv, if_pos rfl] at HTk
        go_wp2_with (at_builtin; refine wpList_app_one rfl (.tmp 17) (.tmp 19) 29 rfl Tryz.itemTyK w2 w.heap.size u5 (keepG (rangeG from_ to) (l.take k)).length (itCs (keepG (rangeG from_ to) (l.take k))) [.string it.k, .int .u64 (it.v.toNat : Int)] rfl HO2.out rfl w2.heap.size 1 rfl rfl rfl (by decide) (by intro u hu; simp at hu; rcases hu with rfl | rfl <;> rfl) (by omega) (by decide) hbs ?_; intro g6 c6 w6 hO6 hB6 hK6 hg6)
        have HO6 := Lib.hid hO6
        have HB6 := Lib.hid (HB2.out.trans hB6)
        clear hO6 hB6 hK6 hg6 y0 y1
        go_wp2_with fail
        go_roundw
        case rel => exact ⟨k + 1, by omega, by go_num, by rw [HTk.out, List.length_append, itCs_app]; exact HO6.out, HB6.out⟩
        case measure => simp [intOf]; omega
      | false =>
        rw [hlv] at HTk
        go_wp2_with fail
        go_roundw
        case rel => exact ⟨k + 1, by omega, by go_num, by rw [HTk.out]; exact HO2.out, HB2.out⟩
        case measure => simp [intOf]; omega
    · have hkn : k = l.length := by omega
      subst hkn
      have HO2 : Hid (wr.ownsRow w.heap.size 35 2 u5 (keepG (rangeG from_ to) l).length (itCs (keepG (rangeG from_ to) l))) := Lib.hid (by have := HO.out; rwa [List.take_length] at this)
      go_wp2_with fail
      go_ret
      exact ⟨_, rfl, HO2.out, HB.out⟩

end Go.Proofs.YtklcklflnkbccaaGreatDoor

/- Walks of package walk: Next, Range. -/
namespace Go.Proofs.YtklcklflnkbccaaGreatDoor
open Go.RowKit

/-- A survey's items. -/
def toIt (p : List UInt8 × UInt64) : It := ⟨⟨p.1.toArray⟩, p.2⟩
theorem itV_is (l : List (List UInt8 × UInt64)) : (l.map itV).flatten = itCs (l.map toIt) := by
  unfold itCs
  rw [List.map_map]
  rfl

/-- A row of the call's own, read. -/
theorem own_rdk {w : World} {base k n : Nat} {e : TypeId} {v : Value} {xs : List Value} (h : w.ownsRow base e k v n xs) : ∃ A c, v = .slice A n c ∧ n ≤ c ∧ Rd w A (n * k) xs := by
  rcases h.2 with ⟨h1, h2⟩ | ⟨g, cap, cur, h1, h2, h3, h4, h5, h6, h7⟩
  · subst h2
    exact ⟨none, 0, h1, Nat.le_refl _, h.1, fun hn => by omega⟩
  · refine ⟨_, _, h1, h4, h.1, fun hn => ⟨g, 0, rfl, (Array.getElem?_eq_some_iff.1 h3).1, fun j hj => ?_⟩⟩
    rw [cell_of_row w g _ cur _ (0, 0) h3, ← h7, List.getElem?_take, if_pos (by omega)]
    simp
theorem own_itr {w : World} {base : Nat} {v : Value} {l : List It} (h : w.ownsRow base 35 2 v l.length (itCs l)) : ∃ A c, v = .slice A l.length c ∧ l.length ≤ c ∧ ItR w A l := by
  obtain ⟨A, c, e, hc, hr⟩ := own_rdk h
  exact ⟨A, c, e, hc, by unfold ItR; rw [Nat.mul_comm]; exact hr⟩

section
variable {w w' : World} {x d p L : Nat} {s : St} {F : Nat → Prop}

def allK (s : St) : Option (List It) := (surveyP s).map fun r => r.1.map toIt

set_option maxHeartbeats 4000000 in
theorem allK_index (h : Ix w x d p L s F) : Calls Tryz.prog 23 #[.pointer (some ⟨x, 0, none⟩)] w fun e w' => Below w.heap.size w w' ∧ match allK s with
    | none => e = .returned (.tuple #[.slice none 0 0, .int .i64 5])
    | some l => ∃ A c, e = .returned (.tuple #[.slice A l.length c, .int .i64 0]) ∧ l.length ≤ c ∧ ItR w' A l ∧ l.length ≤ 65537 := by
  refine (all_index h).mono ?_
  rintro e w1 ⟨hb, hp⟩
  refine ⟨hb, ?_⟩
  unfold allK
  cases hs : surveyP s with
  | none => rw [hs] at hp; exact hp
  | some im =>
    obtain ⟨i2, m2⟩ := im
    rw [hs] at hp
    obtain ⟨v, he, hi, hl⟩ := hp
    unfold ItemsAt at hi
    rw [itV_is, show i2.length = (i2.map toIt).length by simp] at hi
    obtain ⟨A, c, hv, hc, hr⟩ := own_itr hi
    subst hv
    exact ⟨A, c, he, hc, hr, by simpa using hl⟩

def RangePost (r : Option (List It)) (w : World) (e : Ending) (w' : World) : Prop := Below w.heap.size w w' ∧ match r with
    | none => e = .returned (.tuple #[.slice none 0 0, .int .i64 5])
    | some l => ∃ A c, e = .returned (.tuple #[.slice A l.length c, .int .i64 0]) ∧ l.length ≤ c ∧ ItR w' A l

theorem ItR.take {w : World} {A : Option Addr} {l : List It} (h : ItR w A l) (k : Nat) : ItR w A (l.take k) := by
  refine ⟨by rw [itCs_len], fun hn => ?_⟩
  have hk : (l.take k).length ≤ l.length := by simp; omega
  obtain ⟨b, off, e, hb, hc⟩ := h.2 (by omega)
  refine ⟨b, off, e, hb, fun j hj => ?_⟩
  rw [hc j (by omega)]
  have e2 : itCs l = itCs (l.take k) ++ itCs (l.drop k) := by
    unfold itCs
    rw [← List.flatten_append, ← List.map_append, List.take_append_drop]
  rw [e2, List.getElem?_append_left (by rw [itCs_len]; exact hj)]

set_option maxHeartbeats 4000000 in
set_option maxRecDepth 100000 in
theorem range_index (h : Ix w x d p L s F) (from_ to : ByteArray) (n : Int) : Calls Tryz.prog 12 #[.pointer (some ⟨x, 0, none⟩), .string from_, .string to, .int .i64 n] w (RangePost ((allK s).map fun l => (keepG (rangeG from_ to) l).take n.toNat) w) := by
  obtain ⟨w2, hw2⟩ : ∃ w2, w2 = (w.alloc (.cells #[.string from_] 9)).alloc (.cells #[.string to] 9) := ⟨_, rfl⟩
  have hb2 : Below w.heap.size w w2 := by
    have h1 : Below w.heap.size w (w.alloc (.cells #[.string from_] 9)) := (Below.refl _ _).alloc (Nat.le_refl _) _
    rw [hw2]; exact h1.alloc h1.size _
  have B2 : Blk w2 (w.heap.size + 1) 9 [.string to] := hw2 ▸ blk_two w _ _ _
  have B1 : Blk w2 w.heap.size 9 [.string from_] := by
    rw [hw2]
    exact (heap_alloc_old _ _ (by simp)).trans (heap_alloc_new _ _)
  have HAl := Lib.hid (allK_index (h.below hb2))
  have HB2 := Lib.hid hb2
  have HC1 := Lib.hid B1
  have HC2 := Lib.hid B2
  have HW2 := Lib.hid hw2
  clear h hb2 B1 B2 hw2
  go_enter Tryz.func12, Tryz.ntmps12
  go_wp2_with fail
  rw [← HW2.out]
  refine HAl.out.mono ?_
  rintro e w3 ⟨hb3, hp3⟩
  have HB3 := Lib.hid (HB2.out.trans (hb3.mono HB2.out.size))
  cases hk : allK s with
  | none =>
    rw [hk] at hp3
    replace hp3 : e = .returned (.tuple #[.slice none 0 0, .int .i64 5]) := hp3
    subst hp3
    have HKs := Lib.hid hk
    clear hb3 HAl hk
    go_wp2_with fail
    go_ret2
    refine ⟨HB3.out, ?_⟩
    rw [HKs.out]
    rfl
  | some l =>
    rw [hk] at hp3
    obtain ⟨A, c, rfl, hc, hr, hl⟩ := hp3
    have HKp := Lib.hid (keep_range from_ to w.heap.size (w.heap.size + 1) l A c w3 ((HC1.out.below hb3 HC1.out.lt).cell 0) ((HC2.out.below hb3 HC2.out.lt).cell 0) (by omega) hr)
    have HKs := Lib.hid hk
    clear hb3 HAl hk hr
    go_wp2_with fail
    refine HKp.out.mono ?_
    rintro e w4 ⟨v4, rfl, ho4, hb4⟩
    obtain ⟨A4, c4, rfl, hc4, hr4⟩ := own_itr ho4
    have HB4 := Lib.hid (HB3.out.trans (hb4.mono HB3.out.size))
    have HR4 := Lib.hid hr4
    have HPo : Hid (∀ A' m, A' = A4 → m = (((keepG (rangeG from_ to) l).take n.toNat).length) → RangePost ((allK s).map fun l => (keepG (rangeG from_ to) l).take n.toNat) w (.returned (.tuple #[.slice A' m c4, .int .i64 0])) w4) := Lib.hid (fun A' m e1 e2 => by
      subst e1 e2
      refine ⟨HB4.out, ?_⟩
      rw [HKs.out]
      exact ⟨_, _, rfl, by simp; omega, HR4.out.take _⟩)
    obtain ⟨m, hm⟩ : ∃ m, m = (keepG (rangeG from_ to) l).length := ⟨_, rfl⟩
    rw [← hm] at hc4 ⊢
    have HMm := Lib.hid hm
    clear ho4 hb4 hr4 HKp hm
    go_wp2_with fail
    all_goals (go_ret2)
    all_goals (refine HPo.out _ _ rfl ?_)
    all_goals (rw [List.length_take, ← HMm.out])
    all_goals (clear HPo HKs HMm HR4)
    all_goals (by_cases hq : n < 0)
    all_goals first
      | omega
      | (simp only [hq, if_true, if_false] at *; omega)
      | (simp_all; omega)
end

end Go.Proofs.YtklcklflnkbccaaGreatDoor

/- Walks of package walk: Next. -/
namespace Go.Proofs.YtklcklflnkbccaaGreatDoor
open Go.RowKit

theorem item_ret {Q : Ending → World → Prop} {W : World} {tmps : Array Value} {fn : Func} (hr : fn.results = #[.cell 4 35, .tmp 5]) (g : Nat) {a b : Value} (h : Blk W g 35 [a, b]) (v : Value) (h2 : tmps[4]? = some (.pointer (some ⟨g, 0, none⟩))) (h3 : tmps[5]? = some v)
    (hq : Q (.returned (.tuple #[.agg #[a, b], v])) W) : bodyPost Tryz.prog fn Q Exit.ret { tmps := tmps, defers := [] } W := by
  have y0 := h.cell 0
  have y1 := h.cell 1
  simp only [List.getElem?_cons_zero, List.getElem?_cons_succ] at y0 y1
  have hu := run_underlying (P := Tryz.prog) Tryz.underlying35
  refine bodyPost_ret (v := .tuple #[.agg #[a, b], v]) (by simp [results, hr, go_sem, h2, h3, y0, y1]) rfl hq

/-- What Next answers. -/
def nextV (l : Option (List It)) (key : ByteArray) : Value := match l with
  | none => .tuple #[.agg #[.string ⟨#[]⟩, .int .u64 0], .int .i64 5]
  | some l => match keepG (nextG key) l with
    | [] => .tuple #[.agg #[.string ⟨#[]⟩, .int .u64 0], .int .i64 7]
    | i :: _ => .tuple #[.agg #[.string i.k, .int .u64 (i.v.toNat : Int)], .int .i64 0]

section
variable {w w' : World} {x d p L : Nat} {s : St} {F : Nat → Prop}

set_option maxHeartbeats 4000000 in
set_option maxRecDepth 100000 in
theorem next_index (h : Ix w x d p L s F) (key : ByteArray) : Calls Tryz.prog 13 #[.pointer (some ⟨x, 0, none⟩), .string key] w fun e w' => e = .returned (nextV (allK s) key) ∧ Below w.heap.size w w' := by
  obtain ⟨w2, hw2⟩ : ∃ w2, w2 = (w.alloc (.cells #[.string key] 9)).alloc (.cells #[.string ⟨#[]⟩, .int .u64 0] 35) := ⟨_, rfl⟩
  have hb2 : Below w.heap.size w w2 := by
    have h1 : Below w.heap.size w (w.alloc (.cells #[.string key] 9)) := (Below.refl _ _).alloc (Nat.le_refl _) _
    rw [hw2]; exact h1.alloc h1.size _
  have B2 : Blk w2 (w.heap.size + 1) 35 [.string ⟨#[]⟩, .int .u64 0] := hw2 ▸ blk_two w _ _ _
  have B1 : Blk w2 w.heap.size 9 [.string key] := by
    rw [hw2]
    exact (heap_alloc_old _ _ (by simp)).trans (heap_alloc_new _ _)
  have HAl := Lib.hid (allK_index (h.below hb2))
  have HB2 := Lib.hid hb2
  have HC1 := Lib.hid B1
  have HC2 := Lib.hid B2
  have HW2 := Lib.hid hw2
  clear h hb2 B1 B2 hw2
  go_enter Tryz.func13, Tryz.ntmps13
  go_wp2_with fail
  rw [← HW2.out]
  refine HAl.out.mono ?_
  rintro e w3 ⟨hb3, hp3⟩
  have HB3 := Lib.hid (HB2.out.trans (hb3.mono HB2.out.size))
  have B3 := HC2.out.below hb3 HC2.out.lt
  cases hk : allK s with
  | none =>
    rw [hk] at hp3
    replace hp3 : e = .returned (.tuple #[.slice none 0 0, .int .i64 5]) := hp3
    subst hp3
    have HN : Hid (nextV (allK s) key = .tuple #[.agg #[.string ⟨#[]⟩, .int .u64 0], .int .i64 5]) := Lib.hid (by rw [hk]; rfl)
    have HBk := Lib.hid B3
    have y0 := B3.cell 0
    have y1 := B3.cell 1
    have f0 := B3.frozen 0
    have f1 := B3.frozen 1
    simp only [List.getElem?_cons_zero, List.getElem?_cons_succ] at y0 y1
    clear hb3 HAl hk B3
    go_wp2_with fail
    have B4 := (HBk.out.set_ 0 (.string ⟨#[]⟩)).set_ 1 (.int .u64 0)
    have hb4 := (HB3.out.setCell (p := ⟨w.heap.size + 1, 0, none⟩) (by simp) (.string ⟨#[]⟩)).setCell (p := ⟨w.heap.size + 1, 1, none⟩) (by simp) (.int .u64 0)
    first
      | exact item_ret rfl (w.heap.size + 1) HBk.out (.int .i64 5) rfl rfl ⟨by rw [HN.out], HB3.out⟩
      | exact item_ret rfl (w.heap.size + 1) B4 (.int .i64 5) rfl rfl ⟨by rw [HN.out], hb4⟩
  | some l =>
    rw [hk] at hp3
    obtain ⟨A, c, rfl, hc, hr, hl⟩ := hp3
    have HKp := Lib.hid (keep_next key w.heap.size l A c w3 ((HC1.out.below hb3 HC1.out.lt).cell 0) (by omega) hr)
    have HNx : Hid (nextV (allK s) key = match keepG (nextG key) l with | [] => .tuple #[.agg #[.string ⟨#[]⟩, .int .u64 0], .int .i64 7] | i :: _ => .tuple #[.agg #[.string i.k, .int .u64 (i.v.toNat : Int)], .int .i64 0]) := Lib.hid (by rw [hk]; rfl)
    clear hb3 HAl hk hr
    have HBk := Lib.hid B3
    clear B3
    go_wp2_with fail
    refine HKp.out.mono ?_
    rintro e w4 ⟨v4, rfl, ho4, hb4⟩
    obtain ⟨A4, c4, rfl, hc4, hr4⟩ := own_itr ho4
    have HB4 := Lib.hid (HB3.out.trans (hb4.mono HB3.out.size))
    have HR4 := Lib.hid hr4
    have B4 := HBk.out.below hb4 HBk.out.lt
    have HB4k := Lib.hid B4
    have y0 := B4.cell 0
    have y1 := B4.cell 1
    have f0 := B4.frozen 0
    have f1 := B4.frozen 1
    simp only [List.getElem?_cons_zero, List.getElem?_cons_succ] at y0 y1
    clear ho4 hb4 hr4 HKp B4 HC1 HC2 HBk HB2
    generalize keepG (nextG key) l = kl at *
    cases kl with
    | nil =>
      go_wp2_with fail
      have B5 := (HB4k.out.set_ 0 (.string ⟨#[]⟩)).set_ 1 (.int .u64 0)
      have hb5 := (HB4.out.setCell (p := ⟨w.heap.size + 1, 0, none⟩) (by simp) (.string ⟨#[]⟩)).setCell (p := ⟨w.heap.size + 1, 1, none⟩) (by simp) (.int .u64 0)
      first
        | exact item_ret rfl (w.heap.size + 1) HB4k.out (.int .i64 7) rfl rfl ⟨by rw [HNx.out], HB4.out⟩
        | exact item_ret rfl (w.heap.size + 1) B5 (.int .i64 7) rfl rfl ⟨by rw [HNx.out], hb5⟩
    | cons i t =>
      obtain ⟨b, off, rfl, hbw, q1, q2⟩ := HR4.out.at 0 (by simp)
      simp only [Nat.zero_mul, Nat.add_zero, List.getElem_cons_zero] at q1 q2
      obtain ⟨n, hn⟩ : ∃ n, n = (i :: t).length := ⟨_, rfl⟩
      rw [← hn] at hc4 ⊢
      have t0 : ((n : Int) == 0) = false := by rw [beq_eq_false_iff_ne]; simp at hn; omega
      have t1 : 0 < n := by simp at hn; omega
      have t2 : decide ((0 : Int) < (n : Int)) = true := decide_eq_true (by omega)
      have t3 : (0 : Int) < (n : Int) := by omega
      clear hn
      go_wp2_with fail
      have B5 := (HB4k.out.set_ 0 (.string i.k)).set_ 1 (.int .u64 (i.v.toNat : Int))
      have hb5 := (HB4.out.setCell (p := ⟨w.heap.size + 1, 0, none⟩) (by simp) (.string i.k)).setCell (p := ⟨w.heap.size + 1, 1, none⟩) (by simp) (.int .u64 (i.v.toNat : Int))
      exact item_ret rfl (w.heap.size + 1) B5 (.int .i64 0) rfl rfl ⟨by rw [HNx.out], hb5⟩
end

end Go.Proofs.YtklcklflnkbccaaGreatDoor

/- Walks: strings.HasPrefix, the closure of walk.Prefix. -/
namespace Go.Proofs.YtklcklflnkbccaaGreatDoor
open Go.RowKit

/-- Does a text begin with another one? -/
def prefG (text : ByteArray) (i : It) : Bool := decide (text.size ≤ i.k.size) && ((i.k.extract 0 text.size).toList == text.toList)

set_option maxHeartbeats 1000000 in
theorem hasPrefix_any (s t : ByteArray) (w : World) : Calls Tryz.prog 95 #[.string s, .string t] w fun e w' => e = .returned (.bool (decide (t.size ≤ s.size) && ((s.extract 0 t.size).toList == t.toList))) ∧ w = w' := by
  by_cases h : t.size ≤ s.size
  · have t1 : decide ((t.size : Int) ≤ (s.size : Int)) = true := decide_eq_true (by omega)
    have t2 : decide (t.size ≤ s.size) = true := decide_eq_true h
    go_enter Tryz.func95, Tryz.ntmps95
    go_wp2
    go_ret
    exact ⟨by rw [t2, Bool.true_and]; rfl, rfl⟩
  · have t1 : decide ((t.size : Int) ≤ (s.size : Int)) = false := decide_eq_false (by omega)
    have t2 : decide (t.size ≤ s.size) = false := decide_eq_false h
    go_enter Tryz.func95, Tryz.ntmps95
    go_wp2
    go_ret
    exact ⟨by rw [t2]; rfl, rfl⟩

theorem hasPrefix (s t : ByteArray) (w : World) : Calls Tryz.prog 65 #[.string s, .string t] w fun e w' => e = .returned (.bool (decide (t.size ≤ s.size) && ((s.extract 0 t.size).toList == t.toList))) ∧ w = w' := by
  have H := Lib.hid (hasPrefix_any s t w)
  go_enter Tryz.func65, Tryz.ntmps65
  go_wp2_with fail
  refine H.out.mono ?_
  rintro e w1 ⟨rfl, rfl⟩
  clear H
  go_wp2_with fail
  go_ret
  exact ⟨rfl, rfl⟩

set_option maxHeartbeats 1000000 in
theorem pref_any (i : It) (key : ByteArray) (bx : Nat) (w : World) (hx : w.cell? ⟨bx, 0, none⟩ = some (.string key)) : Calls Tryz.prog 64 #[.agg #[.string i.k, .int .u64 (i.v.toNat : Int)], .pointer (some ⟨bx, 0, none⟩)] w fun e w' => e = .returned (.bool (prefG key i)) ∧ Below w.heap.size w w' := by
  have hb : Below w.heap.size w (w.alloc (.cells #[.string i.k, .int .u64 (i.v.toNat : Int)] 35)) := (Below.refl _ _).alloc (Nat.le_refl _) _
  have y := (hb.cell (p := ⟨bx, 0, none⟩) (World.block_lt_of_cell? w _ hx)).trans hx
  have H := Lib.hid (fun W => hasPrefix i.k key W)
  clear hx
  go_enter Tryz.func64, Tryz.ntmps64
  go_wp2_with fail
  refine (H.out _).mono ?_
  rintro e w1 ⟨rfl, rfl⟩
  clear H
  go_wp2_with fail
  go_ret
  exact ⟨rfl, hb⟩

end Go.Proofs.YtklcklflnkbccaaGreatDoor

/- Walks of package walk: keep at the closure of Prefix, Prefix. Printed by genkeep.py. -/
namespace Go.Proofs.YtklcklflnkbccaaGreatDoor
open Go.RowKit

set_option maxHeartbeats 4000000 in
set_option maxRecDepth 100000 in
theorem keep_pref (key : ByteArray) (bx : Nat) (l : List It) (A : Option Addr) (c : Nat) (w : World) (hcx : w.cell? ⟨bx, 0, none⟩ = some (.string key)) (hl : l.length ≤ 100000) (h : ItR w A l) : Calls Tryz.prog 38 #[.slice A l.length c, .func (.func 64) #[] #[.pointer (some ⟨bx, 0, none⟩)]] w fun e w' =>
    ∃ v, e = .returned v ∧ w'.ownsRow w.heap.size 35 2 v (keepG (prefG key) l).length (itCs (keepG (prefG key) l)) ∧ Below w.heap.size w w' := by
  have HR := Lib.hid h
  have HCx := Lib.hid hcx
  have hbx := World.block_lt_of_cell? w _ hcx
  clear h hcx
  go_enter Tryz.func38, Tryz.ntmps38
  go_wp2_with fail
  go_loopw [5, 10] (fun u i wr => ∃ k : Nat, k ≤ l.length ∧ i = .int .i64 (k : Nat) ∧ wr.ownsRow w.heap.size 35 2 u (keepG (prefG key) (l.take k)).length (itCs (keepG (prefG key) (l.take k))) ∧ Below w.heap.size w wr) (fun _ i _ => l.length - (intOf i).toNat)
  case atStart => exact ⟨0, Nat.zero_le _, rfl, World.ownsRow_nil _ _ _ _, Below.refl _ _⟩
  case round =>
    obtain ⟨k, hk, rfl, hown, hb⟩ := hrel
    have HO := Lib.hid hown
    have HB := Lib.hid hb
    clear hown hb
    by_cases hlt : k < l.length
    · obtain ⟨b, off, rfl, hbw, q1, q2⟩ := (HR.out.below HB.out).at k hlt
      have hx1 : (k : Int) < (l.length : Int) := by omega
      have hx2 : decide ((k : Int) < (l.length : Int)) = true := decide_eq_true hx1
      have hwk : IntKind.i64.wrap ((k : Int) + 1) = (k : Int) + 1 := wrap64 _ (by omega) (by omega)
      have HTk : Hid (keepG (prefG key) (l.take (k + 1)) = if (prefG key) l[k] then keepG (prefG key) (l.take k) ++ [l[k]] else keepG (prefG key) (l.take k)) := Lib.hid (by
        rw [List.take_succ_eq_append_getElem hlt]
        unfold keepG
        rw [List.filter_append]
        simp only [List.filter_cons, List.filter_nil]
        split <;> simp)
      have hfl : (keepG (prefG key) (l.take k)).length ≤ 100000 := Nat.le_trans (List.length_filter_le _ _) (by simp; omega)
      generalize l[k] = it at *
      have HLv := Lib.hid (fun (W : World) (hW : Below w.heap.size w W) => pref_any it key bx W ((hW.cell (p := ⟨bx, 0, none⟩) hbx).trans HCx.out))
      go_wp2_with fail
      have B1 : Blk (wr.alloc (.cells #[.string it.k, .int .u64 (it.v.toNat : Int)] 35)) wr.heap.size 35 [.string it.k, .int .u64 (it.v.toNat : Int)] := heap_alloc_new _ _
      have hb1 : Below wr.heap.size wr (wr.alloc (.cells #[.string it.k, .int .u64 (it.v.toNat : Int)] 35)) := (Below.refl _ _).alloc (Nat.le_refl _) _
      refine (HLv.out _ (HB.out.trans (hb1.mono HB.out.size))).mono ?_
      rintro e w2 ⟨rfl, hb2⟩
      have hb12 := hb1.trans (hb2.mono hb1.size)
      have HB2 := Lib.hid (HB.out.trans (hb12.mono HB.out.size))
      have HO2 := Lib.hid (own_stay HO.out (Kept.of_below (r := none) hb12) (by
        rcases HO.out.2 with ⟨h1, _⟩ | ⟨g, cap, cur, h1, _⟩
        · exact .inr (by subst h1; rfl)
        · exact .inl (by subst h1; exact fun e => nomatch e)))
      have B2 := B1.below hb2 B1.lt
      have y0 := B2.cell 0
      have y1 := B2.cell 1
      simp only [List.getElem?_cons_zero, List.getElem?_cons_succ] at y0 y1
      have hbs : w.heap.size ≤ w2.heap.size := HB2.out.size
      clear B1 B2 hb1 hb2 hb12 HLv HO HB HR q1 q2
      cases hlv : (prefG key) it with
      | true =>
        rw [hlv, if_pos rfl] at HTk
        go_wp2_with (at_builtin; refine wpList_app_one rfl (.tmp 17) (.tmp 19) 29 rfl Tryz.itemTyK w2 w.heap.size u5 (keepG (prefG key) (l.take k)).length (itCs (keepG (prefG key) (l.take k))) [.string it.k, .int .u64 (it.v.toNat : Int)] rfl HO2.out rfl w2.heap.size 1 rfl rfl rfl (by decide) (by intro u hu; simp at hu; rcases hu with rfl | rfl <;> rfl) (by omega) (by decide) hbs ?_; intro g6 c6 w6 hO6 hB6 hK6 hg6)
        have HO6 := Lib.hid hO6
        have HB6 := Lib.hid (HB2.out.trans hB6)
        clear hO6 hB6 hK6 hg6 y0 y1
        go_wp2_with fail
        go_roundw
        case rel => exact ⟨k + 1, by omega, by go_num, by rw [HTk.out, List.length_append, itCs_app]; exact HO6.out, HB6.out⟩
        case measure => simp [intOf]; omega
      | false =>
        rw [hlv] at HTk
        go_wp2_with fail
        go_roundw
        case rel => exact ⟨k + 1, by omega, by go_num, by rw [HTk.out]; exact HO2.out, HB2.out⟩
        case measure => simp [intOf]; omega
    · have hkn : k = l.length := by omega
      subst hkn
      have HO2 : Hid (wr.ownsRow w.heap.size 35 2 u5 (keepG (prefG key) l).length (itCs (keepG (prefG key) l))) := Lib.hid (by have := HO.out; rwa [List.take_length] at this)
      go_wp2_with fail
      go_ret
      exact ⟨_, rfl, HO2.out, HB.out⟩

section
variable {w w' : World} {x d p L : Nat} {s : St} {F : Nat → Prop}

set_option maxHeartbeats 4000000 in
set_option maxRecDepth 100000 in
theorem prefix_index (h : Ix w x d p L s F) (key : ByteArray) : Calls Tryz.prog 35 #[.pointer (some ⟨x, 0, none⟩), .string key] w (RangePost ((allK s).map fun l => keepG (prefG key) l) w) := by
  obtain ⟨w2, hw2⟩ : ∃ w2, w2 = w.alloc (.cells #[.string key] 9) := ⟨_, rfl⟩
  have hb2 : Below w.heap.size w w2 := hw2 ▸ (Below.refl _ _).alloc (Nat.le_refl _) _
  have B1 : Blk w2 w.heap.size 9 [.string key] := hw2 ▸ heap_alloc_new _ _
  have HAl := Lib.hid (allK_index (h.below hb2))
  have HB2 := Lib.hid hb2
  have HC1 := Lib.hid B1
  have HW2 := Lib.hid hw2
  clear h hb2 B1 hw2
  go_enter Tryz.func35, Tryz.ntmps35
  go_wp2_with fail
  rw [← HW2.out]
  refine HAl.out.mono ?_
  rintro e w3 ⟨hb3, hp3⟩
  have HB3 := Lib.hid (HB2.out.trans (hb3.mono HB2.out.size))
  cases hk : allK s with
  | none =>
    rw [hk] at hp3
    replace hp3 : e = .returned (.tuple #[.slice none 0 0, .int .i64 5]) := hp3
    subst hp3
    have HKs := Lib.hid hk
    clear hb3 HAl hk
    go_wp2_with fail
    go_ret2
    refine ⟨HB3.out, ?_⟩
    rw [HKs.out]
    rfl
  | some l =>
    rw [hk] at hp3
    obtain ⟨A, c, rfl, hc, hr, hl⟩ := hp3
    have HKp := Lib.hid (keep_pref key w.heap.size l A c w3 ((HC1.out.below hb3 HC1.out.lt).cell 0) (by omega) hr)
    have HKs := Lib.hid hk
    clear hb3 HAl hk hr
    go_wp2_with fail
    refine HKp.out.mono ?_
    rintro e w4 ⟨v4, rfl, ho4, hb4⟩
    obtain ⟨A4, c4, rfl, hc4, hr4⟩ := own_itr ho4
    have HB4 := Lib.hid (HB3.out.trans (hb4.mono HB3.out.size))
    have HR4 := Lib.hid hr4
    clear ho4 hb4 hr4 HKp
    go_wp2_with fail
    go_ret2
    refine ⟨HB4.out, ?_⟩
    rw [HKs.out]
    exact ⟨_, _, rfl, hc4, HR4.out⟩
end

end Go.Proofs.YtklcklflnkbccaaGreatDoor

/- Walks of law 11's ours and theirs. Printed by genours.py. -/
namespace Go.Proofs.YtklcklflnkbccaaGreatDoor
open Go.RowKit

theorem Tryz.refItemTyK : RowTyK Tryz.prog 26 89 (.agg #[.string ⟨#[]⟩, .int .u64 0]) 2 24 := ⟨Tryz.underlying26, by kernel_rfl, rfl⟩

set_option maxHeartbeats 4000000 in
set_option maxRecDepth 100000 in
theorem ours_any (l : List It) (A : Option Addr) (c : Nat) (w : World) (hl : l.length ≤ 100000) (h : ItR w A l) : Calls Tryz.prog 15 #[.slice A l.length c] w fun e w' =>
    ∃ v, e = .returned v ∧ w'.ownsRow w.heap.size 89 2 v l.length (itCs l) ∧ Below w.heap.size w w' := by
  have HR := Lib.hid h
  clear h
  go_enter Tryz.func15, Tryz.ntmps15
  go_wp2_with fail
  go_loopw [3, 8] (fun u i wr => ∃ k : Nat, k ≤ l.length ∧ i = .int .i64 (k : Nat) ∧ wr.ownsRow w.heap.size 89 2 u k (itCs (l.take k)) ∧ Below w.heap.size w wr) (fun _ i _ => l.length - (intOf i).toNat)
  case atStart => exact ⟨0, Nat.zero_le _, rfl, World.ownsRow_nil _ _ _ _, Below.refl _ _⟩
  case round =>
    obtain ⟨k, hk, rfl, hown, hb⟩ := hrel
    have HO := Lib.hid hown
    have HB := Lib.hid hb
    clear hown hb
    by_cases hlt : k < l.length
    · obtain ⟨b, off, rfl, hbw, q1, q2⟩ := (HR.out.below HB.out).at k hlt
      have hx1 : (k : Int) < (l.length : Int) := by omega
      have hx2 : decide ((k : Int) < (l.length : Int)) = true := decide_eq_true hx1
      have hwk : IntKind.i64.wrap ((k : Int) + 1) = (k : Int) + 1 := wrap64 _ (by omega) (by omega)
      have HTk : Hid (itCs (l.take (k + 1)) = itCs (l.take k) ++ itC l[k]) := Lib.hid (by rw [List.take_succ_eq_append_getElem hlt, itCs_app])
      generalize l[k] = it at *
      obtain ⟨w2, hw2⟩ : ∃ w2, w2 = wr.alloc (.cells #[.string it.k, .int .u64 (it.v.toNat : Int)] 35) := ⟨_, rfl⟩
      have hb12 : Below wr.heap.size wr w2 := hw2 ▸ (Below.refl _ _).alloc (Nat.le_refl _) _
      have HB2 := Lib.hid (HB.out.trans (hb12.mono HB.out.size))
      have HO2 := Lib.hid (own_stay HO.out (Kept.of_below (r := none) hb12) (by
        rcases HO.out.2 with ⟨h1, _⟩ | ⟨g, cap, cur, h1, _⟩
        · exact .inr (by subst h1; rfl)
        · exact .inl (by subst h1; exact fun e => nomatch e)))
      have hbs : w.heap.size ≤ w2.heap.size := HB2.out.size
      rw [hw2] at hbs HB2 HO2
      clear hb12 hw2
      go_wp2_with (at_builtin; refine wpList_app_one rfl (.tmp 12) (.tmp 14) 26 rfl Tryz.refItemTyK _ w.heap.size u3 k (itCs (l.take k)) [.string it.k, .int .u64 (it.v.toNat : Int)] rfl (by exact HO2.out) rfl (wr.heap.size + 1) 1 rfl (by simp) rfl (by decide) (by intro u hu; simp at hu; rcases hu with rfl | rfl <;> rfl) (by omega) (by decide) hbs ?_; intro g6 c6 w6 hO6 hB6 hK6 hg6)
      have HO6 := Lib.hid hO6
      have HB6 := Lib.hid (HB2.out.trans hB6)
      clear hO6 hB6 hK6 hg6
      go_wp2_with fail
      go_roundw
      case rel => exact ⟨k + 1, by omega, by go_num, by rw [HTk.out]; exact HO6.out, HB6.out⟩
      case measure => simp [intOf]; omega
    · have hkn : k = l.length := by omega
      subst hkn
      have HO2 : Hid (wr.ownsRow w.heap.size 89 2 u3 l.length (itCs l)) := Lib.hid (by have := HO.out; rwa [List.take_length] at this)
      go_wp2_with fail
      go_ret
      exact ⟨_, rfl, HO2.out, HB.out⟩

theorem Tryz.idxItemTyK : RowTyK Tryz.prog 29 35 (.agg #[.string ⟨#[]⟩, .int .u64 0]) 2 24 := ⟨Tryz.underlying29, by kernel_rfl, rfl⟩


end Go.Proofs.YtklcklflnkbccaaGreatDoor

/- Walks of package index where there is no index: all calls answer ErrNil. -/
namespace Go.Proofs.YtklcklflnkbccaaGreatDoor
open Go.RowKit

theorem ask_nil (key : ByteArray) (w : World) : Calls Tryz.prog 41 #[.pointer none, .string key] w fun e w' => e = .returned (.int .i64 1) ∧ w = w' := by
  go_enter Tryz.func41, Tryz.ntmps41
  go_wp2
  go_ret
  exact ⟨rfl, rfl⟩
theorem ask_void (x : Nat) (key : ByteArray) (w : World) (h : Blk w x 148 [.pointer none, .pointer none]) : Calls Tryz.prog 41 #[.pointer (some ⟨x, 0, none⟩), .string key] w fun e w' => e = .returned (.int .i64 1) ∧ w = w' := by
  have y0 := h.cell 0
  simp only [List.getElem?_cons_zero] at y0
  clear h
  go_enter Tryz.func41, Tryz.ntmps41
  go_wp2
  go_ret
  exact ⟨rfl, rfl⟩

section
variable {w : World} {p : Option Addr}

/-- No index. -/
def NoIx (w : World) (p : Option Addr) : Prop := ∀ key : ByteArray, Calls Tryz.prog 41 #[.pointer p, .string key] w fun e w' => e = .returned (.int .i64 1) ∧ w = w'
theorem noIx_nil : NoIx w none := fun key => ask_nil key w
theorem noIx_void {x : Nat} (h : Blk w x 148 [.pointer none, .pointer none]) : NoIx w (some ⟨x, 0, none⟩) := fun key => ask_void x key w h

theorem survey_no (h : NoIx w p) : Calls Tryz.prog 53 #[.pointer p] w fun e w' => e = .returned (.tuple #[.pointer none, .int .i64 1]) ∧ w = w' := by
  have H := Lib.hid (h ⟨#[]⟩)
  clear h
  go_enter Tryz.func53, Tryz.ntmps53
  go_wp2_with fail
  refine H.out.mono ?_
  rintro e w' ⟨rfl, rfl⟩
  go_wp2_with fail
  go_ret2
  exact ⟨rfl, rfl⟩
theorem all_no (h : NoIx w p) : Calls Tryz.prog 23 #[.pointer p] w fun e w' => e = .returned (.tuple #[.slice none 0 0, .int .i64 1]) ∧ w = w' := by
  have H := Lib.hid (survey_no h)
  clear h
  go_enter Tryz.func23, Tryz.ntmps23
  go_wp2_with fail
  refine H.out.mono ?_
  rintro e w' ⟨rfl, rfl⟩
  go_wp2_with fail
  go_ret2
  exact ⟨rfl, rfl⟩
theorem nodes_no (h : NoIx w p) : Calls Tryz.prog 29 #[.pointer p] w fun e w' => e = .returned (.tuple #[.slice none 0 0, .int .i64 1]) ∧ w = w' := by
  have H := Lib.hid (survey_no h)
  clear h
  go_enter Tryz.func29, Tryz.ntmps29
  go_wp2_with fail
  refine H.out.mono ?_
  rintro e w' ⟨rfl, rfl⟩
  go_wp2_with fail
  go_ret2
  exact ⟨rfl, rfl⟩
theorem get_no (h : NoIx w p) (key : ByteArray) : Calls Tryz.prog 24 #[.pointer p, .string key] w fun e w' => e = .returned (.tuple #[.int .u64 0, .int .i64 1]) ∧ w = w' := by
  have H := Lib.hid (h key)
  clear h
  go_enter Tryz.func24, Tryz.ntmps24
  go_wp2_with fail
  refine H.out.mono ?_
  rintro e w' ⟨rfl, rfl⟩
  go_wp2_with fail
  go_ret2
  exact ⟨rfl, rfl⟩
theorem cut_no (h : NoIx w p) (key : ByteArray) : Calls Tryz.prog 27 #[.pointer p, .string key] w fun e w' => e = .returned (.tuple #[.int .u64 0, .int .i64 1]) ∧ w = w' := by
  have H := Lib.hid (h key)
  clear h
  go_enter Tryz.func27, Tryz.ntmps27
  go_wp2_with fail
  refine H.out.mono ?_
  rintro e w' ⟨rfl, rfl⟩
  go_wp2_with fail
  go_ret2
  exact ⟨rfl, rfl⟩
theorem put_no (h : NoIx w p) (key : ByteArray) (n : Int) : Calls Tryz.prog 19 #[.pointer p, .string key, .int .u64 n] w fun e w' => e = .returned (.int .i64 1) ∧ w = w' := by
  have H := Lib.hid (h key)
  clear h
  go_enter Tryz.func19, Tryz.ntmps19
  go_wp2_with fail
  refine H.out.mono ?_
  rintro e w' ⟨rfl, rfl⟩
  go_wp2_with fail
  go_ret
  exact ⟨rfl, rfl⟩

set_option maxHeartbeats 1000000 in
theorem range_nil (from_ to : ByteArray) (n : Int) : Calls Tryz.prog 12 #[.pointer none, .string from_, .string to, .int .i64 n] w fun e w' => e = .returned (.tuple #[.slice none 0 0, .int .i64 1]) ∧ Below w.heap.size w w' := by
  obtain ⟨w2, hw2⟩ : ∃ w2, w2 = (w.alloc (.cells #[.string from_] 9)).alloc (.cells #[.string to] 9) := ⟨_, rfl⟩
  have hb2 : Below w.heap.size w w2 := by
    have h1 : Below w.heap.size w (w.alloc (.cells #[.string from_] 9)) := (Below.refl _ _).alloc (Nat.le_refl _) _
    rw [hw2]; exact h1.alloc h1.size _
  have HA := Lib.hid (all_no (w := w2) noIx_nil)
  have HB := Lib.hid hb2
  have HW2 := Lib.hid hw2
  clear hb2 hw2
  go_enter Tryz.func12, Tryz.ntmps12
  go_wp2_with fail
  rw [← HW2.out]
  refine HA.out.mono ?_
  rintro e w' ⟨rfl, rfl⟩
  clear HA
  go_wp2_with fail
  go_ret2
  exact ⟨rfl, HB.out⟩
end

end Go.Proofs.YtklcklflnkbccaaGreatDoor
