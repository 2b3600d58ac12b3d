import Derived.Test.YtcelabojehaioaaGreatDoorG11
/- Walks: container/heap at pool's order: Push, Pop. -/
namespace Go.Proofs.YtcelabojehaioaaGreatDoor
open Go.RowKit

theorem heapUp_snoc (l : List Nat) (s : Nat) (h : HeapTo (keyF id l) l.length) : HeapUp (keyF id (l ++ [s])) l.length (l.length + 1) := by
  have key : ∀ k, k < l.length → keyF id (l ++ [s]) k = keyF id l k := fun k hk => by simp only [keyF, List.getElem?_append_left hk]
  refine ⟨fun k h0 hk hne => ?_, fun h0 k hk0 hk hp => by omega⟩
  rw [key k (by omega), key _ (by omega)]
  exact h k h0 (by omega)

set_option maxHeartbeats 2000000 in
set_option maxRecDepth 100000 in
theorem heapPush {w : World} {B o g c : Nat} {l : List Nat} (s : Nat) (h : OrdAt w B o g c l) (hl : l.length < 1000) (hH : HeapTo (keyF id l) l.length) :
    Calls Tryz.prog 162 #[.iface 317 (.pointer (some ⟨o, 0, none⟩)), .iface 3 (.int .i64 (s : Int))] w fun e w' => e = .returned (.tuple #[]) ∧
      ∃ g' c' l', l'.Perm (l ++ [s]) ∧ HeapTo (keyF id l') l'.length ∧ OrdAt w' B o g' c' l' ∧ (g' = g ∨ w.heap.size ≤ g') ∧ Touch (fun b => b = o ∨ b = g) w w' := by
  have mP := fun f => meth_Push f ⟨o, 0, none⟩ w
  have HS := Lib.hid (ordPush s h hl)
  have HU := Lib.hid (heapUp_snoc l s hH)
  have hg := h.glt
  clear h hH
  go_enter Tryz.func162, Tryz.ntmps162
  go_wp2_with fail
  refine HS.out.mono ?_
  rintro e w1 ⟨rfl, g1, c1, ho1, hg1, ht1⟩
  have hL : (l ++ [s]).length = l.length + 1 := by simp
  have mL := ho1.mLen hL
  have HN := Lib.hid (ordLen (some ⟨g1, 0, none⟩) (l.length + 1) c1 w1 (by omega))
  have HUp := Lib.hid (heapUp l.length ho1 (by omega) (by rw [hL]; exact HU.out))
  have HO1 := Lib.hid ho1
  have HT1 := Lib.hid ht1
  have HG1 := Lib.hid hg1
  clear ho1 ht1 hg1 mP HS hL
  generalize l.length = n at *
  go_wp2_with fail
  refine HN.out.mono ?_
  rintro e w' ⟨rfl, rfl⟩
  go_wp2_with fail
  refine HUp.out.mono ?_
  rintro e w2 ⟨rfl, l', hp, hh, ho2, ht2⟩
  go_wp2_with fail
  go_end0
  refine ⟨rfl, g1, c1, l', hp, by rw [hp.length_eq]; exact hh, ho2, HG1.out, HT1.out.trans ht2 (fun b hb => ?_)⟩
  rcases hb with rfl | rfl
  · exact .inl (.inl rfl)
  · rcases HG1.out with e | e
    · exact .inl (.inr e)
    · exact .inr e

set_option maxHeartbeats 2000000 in
set_option maxRecDepth 100000 in
theorem heapPop {w : World} {B o g c n : Nat} {l : List Nat} (h : OrdAt w B o g c l) (hl : l.length = n + 1) (hH : HeapTo (keyF id l) (n + 1)) :
    Calls Tryz.prog 213 #[.iface 317 (.pointer (some ⟨o, 0, none⟩))] w fun e w' => ∃ (m : Nat) (l' : List Nat), e = .returned (.iface 3 (.int .i64 (m : Int))) ∧
      (m :: l').Perm l ∧ (∀ x ∈ l, m ≤ x) ∧ HeapTo (keyF id l') n ∧ OrdAt w' B o g c l' ∧ Touch (fun b => b = o ∨ b = g) w w' := by
  have hn1 := h.len
  have mL := h.mLen hl
  have mS := h.mSwap hl
  have HN := Lib.hid (ordLen (some ⟨g, 0, none⟩) (n + 1) c w (by omega))
  have HS := Lib.hid (h.swap hl 0 n (by omega) (by omega))
  have HLeast : Hid (∀ x ∈ l, keyF id l 0 ≤ x) := Lib.hid (fun x hx => by
    obtain ⟨k, hk, rfl⟩ := List.getElem_of_mem hx
    have := heap_least hH k (by omega)
    rw [keyF, keyF, List.getElem?_eq_getElem hk] at this
    exact this)
  have hk1 : HeapBut (keyF id (swapL l 0 n)) 0 n := by
    rw [keyF_swap id l 0 n (by omega) (by omega)]
    exact heapBut_start hH
  have HK1 := Lib.hid hk1
  have HL := Lib.hid hl
  rw [hl] at hn1
  clear h hH hk1 hl
  go_enter Tryz.func213, Tryz.ntmps213
  go_wp2_with fail
  refine HN.out.mono ?_
  rintro e w' ⟨rfl, rfl⟩
  go_wp2_with fail
  refine HS.out.mono ?_
  rintro e w1 ⟨rfl, ho1, ht1⟩
  have HD := Lib.hid (heapDown (N := n + 1) n ho1 (by rw [swapL_length]; exact HL.out) (by omega) HK1.out)
  have HT1 := Lib.hid ht1
  clear mL mS HN HS ho1 ht1
  go_wp2_with fail
  refine HD.out.mono ?_
  rintro e w2 ⟨⟨b, rfl⟩, l2, hp2, hh2, hk2, ho2, ht2⟩
  have hl2 : l2.length = n + 1 := by rw [hp2.length_eq, swapL_length]; exact HL.out
  have h0 : l2[n]? = some (keyF id l 0) := by
    have hll := HL.out
    have hl0 : 0 < l.length := by omega
    rw [hk2 n (Nat.le_refl _), swapL_get l 0 n hl0 (by omega)]
    have hx : l[0]? = some (keyF id l 0) := by rw [keyF, List.getElem?_eq_getElem hl0]; rfl
    by_cases e : n = 0
    · subst e; rw [if_pos rfl]; exact hx
    · rw [if_neg e, if_pos rfl]; exact hx
  have hsp : l2 = l2.take n ++ [keyF id l 0] := by
    have := List.take_append_drop n l2
    rw [List.drop_eq_getElem_cons (by omega), List.drop_eq_nil_of_le (by omega)] at this
    rw [List.getElem?_eq_getElem (by omega)] at h0
    injection h0 with h0
    rw [h0] at this
    exact this.symm
  have HPop := ordPop (w := w2) (B := B) (o := o) (g := g) (c := c) (l := l2.take n) (keyF id l 0) (hsp ▸ ho2)
  have HPop := Lib.hid HPop
  have mP := fun f => meth_Pop f ⟨o, 0, none⟩ w2
  have HSp := Lib.hid hsp
  have HH2 := Lib.hid hh2
  have HP2 := Lib.hid hp2
  have HL2 := Lib.hid hl2
  have HT2 := Lib.hid (HT1.out.trans ht2 (fun b h => .inl h))
  clear ho2 ht2 hk2 h0 hsp hh2 hp2 hl2 HD
  generalize hm : keyF id l 0 = m at *
  go_wp2_with fail
  refine HPop.out.mono ?_
  rintro e w3 ⟨rfl, ho3, ht3⟩
  go_wp2_with fail
  go_ret
  refine ⟨m, l2.take n, rfl, ?_, HLeast.out, ?_, ho3, HT2.out.trans ht3 (fun b h => .inl h)⟩
  · have h1 : (m :: l2.take n).Perm (l2.take n ++ [m]) := (List.perm_append_singleton m (l2.take n)).symm
    rw [← HSp.out] at h1
    exact h1.trans (HP2.out.trans (swapL_perm _ _ _))
  · intro k h0 hk
    have := HH2.out k h0 hk
    have e : ∀ t, t < n → keyF id (l2.take n) t = keyF id l2 t := fun t ht => by simp only [keyF, List.getElem?_take, if_pos ht]
    rw [e _ (by omega), e _ hk]
    exact this

end Go.Proofs.YtcelabojehaioaaGreatDoor
