import Derived.Deep.RegionWith
import Derived.Test.YtcelabojehaioaaGreatDoorG04
import Derived.Test.YtcelabojehaioaaGreatDoorG07
import Derived.Test.YtcelabojehaioaaGreatDoorG09
/- Walks: the methods of pool's order; container/heap. -/
namespace Go.Proofs.YtcelabojehaioaaGreatDoor
open Go.RowKit

def iv (k : Nat) : Value := .int .i64 (k : Int)

theorem ordLen (A : Option Addr) (n c : Nat) (w : World) (_ : n ≤ 1000000) : Calls Tryz.prog 230 #[.slice A n c] w fun e w' => e = .returned (.int .i64 (n : Int)) ∧ w = w' := by
  go_enter Tryz.func230, Tryz.ntmps230
  go_wp2
  go_ret
  exact ⟨rfl, rfl⟩

theorem ordLess (g n c i j : Nat) (l : List Nat) (w : World) (hi : i < n) (hj : j < n) (hn : n ≤ 1000000) (h : Rd w (some ⟨g, 0, none⟩) n (l.map iv)) :
    Calls Tryz.prog 291 #[.slice (some ⟨g, 0, none⟩) n c, .int .i64 (i : Int), .int .i64 (j : Int)] w fun e w' => e = .returned (.bool (decide (keyF id l i < keyF id l j))) ∧ Dr w w' := by
  have hl : l.length = n := by simpa using h.1
  obtain ⟨b, off, e, hb, hc⟩ := h.2 (by omega)
  injection e with e
  injection e with e1 e2
  subst e1 e2
  have c1 := hc i hi
  have c2 := hc j hj
  rw [Nat.zero_add, List.getElem?_map, List.getElem?_eq_getElem (show i < l.length by omega)] at c1
  rw [Nat.zero_add, List.getElem?_map, List.getElem?_eq_getElem (show j < l.length by omega)] at c2
  have HK : Hid (decide (keyF id l i < keyF id l j) = decide (l[i] < l[j])) := Lib.hid (by
    simp only [keyF, List.getElem?_eq_getElem (show i < l.length by omega), List.getElem?_eq_getElem (show j < l.length by omega), Option.map_some, id, Option.getD_some])
  rw [HK.out]
  simp only [Option.map_some, iv] at c1 c2
  generalize l[i] = x at *
  generalize l[j] = y at *
  clear h hc HK
  go_enter Tryz.func291, Tryz.ntmps291
  go_wp2_with fail
  go_quiet (fail)
  go_wp2_with fail
  go_ret
  exact ⟨rfl, _, rfl⟩

set_option maxHeartbeats 1000000 in
theorem ordSwap (g n c i j base : Nat) (l : List Nat) (w : World) (hi : i < n) (hj : j < n) (hn : n ≤ 1000000) (h : w.ownsRow base 3 1 (.slice (some ⟨g, 0, none⟩) n c) n (l.map iv)) :
    Calls Tryz.prog 294 #[.slice (some ⟨g, 0, none⟩) n c, .int .i64 (i : Int), .int .i64 (j : Int)] w fun e w' => e = .returned (.tuple #[]) ∧
      w'.ownsRow base 3 1 (.slice (some ⟨g, 0, none⟩) n c) n ((swapL l i j).map iv) ∧ Touch (fun b => b = g) w w' := by
  have hl : l.length = n := by simpa using h.1
  obtain ⟨_, hr⟩ := rd_own h
  obtain ⟨b, off, e, hb, hc⟩ := hr.2 (by omega)
  injection e with e
  injection e with e1 e2
  subst e1 e2
  have c1 := hc i hi
  have c2 := hc j hj
  rw [Nat.zero_add, List.getElem?_map, List.getElem?_eq_getElem (show i < l.length by omega)] at c1
  rw [Nat.zero_add, List.getElem?_map, List.getElem?_eq_getElem (show j < l.length by omega)] at c2
  simp only [Option.map_some, iv] at c1 c2
  have f1 := (own_has h hi).2
  have f2 := (own_has h hj).2
  have HO := Lib.hid h
  have HS : Hid (∀ W, Dr w W → ((W.setCell ⟨g, i, none⟩ (iv l[j])).setCell ⟨g, j, none⟩ (iv l[i])).ownsRow base 3 1 (.slice (some ⟨g, 0, none⟩) n c) n ((swapL l i j).map iv) ∧ Touch (fun b => b = g) w ((W.setCell ⟨g, i, none⟩ (iv l[j])).setCell ⟨g, j, none⟩ (iv l[i]))) := Lib.hid (fun W k => by
    refine ⟨?_, (((Touch.of_below (F := fun b => b = g) (k.below _)).setCell (p := ⟨g, i, none⟩) (.inl rfl) _).setCell (p := ⟨g, j, none⟩) (.inl rfl) _)⟩
    rw [swapL_at l i j (by omega) (by omega), List.map_set, List.map_set]
    exact own_set (own_set (own_below h (k.below _)) hi) hj)
  have HS2 : Hid (∀ W, Dr w W → ((W.setCell ⟨g, j, none⟩ (iv l[i])).setCell ⟨g, i, none⟩ (iv l[j])).ownsRow base 3 1 (.slice (some ⟨g, 0, none⟩) n c) n ((swapL l i j).map iv) ∧ Touch (fun b => b = g) w ((W.setCell ⟨g, j, none⟩ (iv l[i])).setCell ⟨g, i, none⟩ (iv l[j]))) := Lib.hid (fun W k => by
    refine ⟨?_, (((Touch.of_below (F := fun b => b = g) (k.below _)).setCell (p := ⟨g, j, none⟩) (.inl rfl) _).setCell (p := ⟨g, i, none⟩) (.inl rfl) _)⟩
    have e : (l.set i l[j]).set j l[i] = (l.set j l[i]).set i l[j] := by
      by_cases e : i = j
      · subst e; rfl
      · exact List.set_comm _ _ e
    rw [swapL_at l i j (by omega) (by omega), e, List.map_set, List.map_set]
    exact own_set (own_set (own_below h (k.below _)) hj) hi)
  obtain ⟨⟨v1, k1⟩, q1⟩ := own_has (own_set (u := iv l[j]) h hi) hj
  obtain ⟨⟨v2, k2⟩, q2⟩ := own_has (own_set (u := iv l[i]) h hj) hi
  simp only [iv] at HS HS2 k1 k2 q1 q2
  generalize l[i] = x at *
  generalize l[j] = y at *
  clear h hc hr
  go_enter Tryz.func294, Tryz.ntmps294
  go_wp2_with fail
  go_region
  all_goals trace_state
  all_goals (go_wp2_with fail)
  all_goals (go_end0)
  all_goals (first
    | exact ⟨rfl, HS.out _ (show Dr w w.drew from ⟨1, rfl⟩)⟩
    | exact ⟨rfl, HS2.out _ (show Dr w w.drew from ⟨1, rfl⟩)⟩)

end Go.Proofs.YtcelabojehaioaaGreatDoor

/- Walks: pool's order, Push and Pop. -/
namespace Go.Proofs.YtcelabojehaioaaGreatDoor
open Go.RowKit

theorem Tryz.ordTy : RowTyK Tryz.prog 351 3 (.int .i64 0) 1 8 := ⟨Tryz.underlying351, by kernel_rfl, rfl⟩

/-- An order at block o, its row in block g. -/
structure OrdAt (w : World) (B o g c : Nat) (l : List Nat) : Prop where
  box : Blk w o 351 [.slice (some ⟨g, 0, none⟩) l.length c]
  row : w.ownsRow B 3 1 (.slice (some ⟨g, 0, none⟩) l.length c) l.length (l.map iv)
  ne : o ≠ g
  hB : B ≤ o
  len : l.length ≤ 1000

theorem OrdAt.glt {w : World} {B o g c : Nat} {l : List Nat} (h : OrdAt w B o g c l) : B ≤ g ∧ g < w.heap.size := by
  rcases h.row.2 with ⟨h', _⟩ | ⟨g', cap, cur, hv, hB, hg, _⟩
  · cases h'
  · simp only [Value.slice.injEq, Option.some.injEq, Addr.mk.injEq, and_true, true_and] at hv
    obtain ⟨rfl, rfl⟩ := hv
    exact ⟨hB, (Array.getElem?_eq_some_iff.1 hg).1⟩
theorem OrdAt.touch {w w' : World} {B o g c : Nat} {l : List Nat} {G : Nat → Prop} (h : OrdAt w B o g c l) (t : Touch G w w') (h1 : ¬ G o) (h2 : ¬ G g) : OrdAt w' B o g c l := by
  refine ⟨h.box.touch t h1, own_touch h.row t (fun b hb => ?_), h.ne, h.hB, h.len⟩
  have : g = b := by simpa [Value.ownBlock] using hb
  subst this; exact h2
theorem OrdAt.below {w w' : World} {B o g c : Nat} {l : List Nat} (h : OrdAt w B o g c l) (t : Below w.heap.size w w') : OrdAt w' B o g c l :=
  h.touch (Touch.of_below (F := fun _ => False) t) id id

theorem assert_int (x : Int) (w : World) : (Instr.typeAssert (.iface 3 (.int .i64 x)) 20 3 true).run Tryz.prog w = .ok (.tuple #[.int .i64 x, .bool true]) w := by kernel_rfl

set_option maxHeartbeats 1000000 in
set_option maxRecDepth 100000 in
theorem ordPush {w : World} {B o g c : Nat} {l : List Nat} (s : Nat) (h : OrdAt w B o g c l) (hl : l.length < 1000) :
    Calls Tryz.prog 293 #[.pointer (some ⟨o, 0, none⟩), .iface 3 (.int .i64 (s : Int))] w fun e w' => e = .returned (.tuple #[]) ∧
      ∃ g' c', OrdAt w' B o g' c' (l ++ [s]) ∧ (g' = g ∨ w.heap.size ≤ g') ∧ Touch (fun b => b = o ∨ b = g) w w' := by
  have y0 := h.box.cell 0
  have f0 := h.box.frozen 0
  have hlt := h.box.lt
  have hrow := h.row
  have hg := h.glt
  have hBo := h.hB
  have hBs : B ≤ w.heap.size := by omega
  have HH := Lib.hid h
  simp only [List.getElem?_cons_zero] at y0
  obtain ⟨n, hn⟩ : ∃ n, l.length = n := ⟨_, rfl⟩
  rw [hn] at hrow y0 hl
  clear h
  have ta := assert_int (s : Int)
  go_enter Tryz.func293, Tryz.ntmps293
  go_wp2_with (at_builtin; go_loud (refine wpList_app_one rfl (.tmp 15) (.tmp 17) 351 rfl Tryz.ordTy w B (.slice (some ⟨g, 0, none⟩) n c) n (l.map iv) [iv s] rfl hrow rfl w.heap.size 1 rfl rfl rfl (by decide) (by intro u hu; simp at hu; subst hu; rfl) (by omega) (by decide) hBs ?_; intro g2 c2 w2 hO2 hB2 hK2 hg2; have y2 := (World.cell?_of_block (w := w) (a := ⟨o, 0, none⟩) (hK2.2 o hlt (fun e => HH.out.ne (by simpa [Value.ownBlock] using e)))).trans y0; have f2 := (World.frozen?_of_block (w := w) (a := ⟨o, 0, none⟩) (hK2.2 o hlt (fun e => HH.out.ne (by simpa [Value.ownBlock] using e)))).trans f0))
  go_end0
  have hon : ¬ o = g2 := fun e => by
    rcases hg2 with h | h
    · exact HH.out.ne (by rw [e]; simpa [Value.ownBlock] using h.symm)
    · omega
  have hT : Touch (fun b => b = o ∨ b = g) w (w2.setCell ⟨o, 0, none⟩ (.slice (some ⟨g2, 0, none⟩) (n + 1) c2)) := by
    refine Touch.setCell (w := w) (w' := w2) ⟨hB2.os, hB2.tape, hB2.output, hK2.1, fun k hk hn => hK2.2 k hk (fun e => hn (.inr (by simpa [Value.ownBlock] using e)))⟩ (p := ⟨o, 0, none⟩) (.inl (.inl rfl)) _
  have hbx : Blk w2 o 351 [.slice (some ⟨g, 0, none⟩) l.length c] := (hK2.2 o hlt (fun e => HH.out.ne (by simpa [Value.ownBlock] using e))).trans HH.out.box
  refine ⟨rfl, g2, c2, ⟨?_, ?_, hon, hBo, by simp; omega⟩, ?_, hT⟩
  · have := hbx.set_ 0 (.slice (some ⟨g2, 0, none⟩) (n + 1) c2)
    rw [List.length_append, hn]; exact this
  · have h1 := hO2
    rw [show l.map iv ++ [iv s] = (l ++ [s]).map iv by simp] at h1
    rw [List.length_append, hn]
    refine own_touch h1 ((Touch.refl (fun b => b = o) w2).setCell (p := ⟨o, 0, none⟩) (.inl rfl) _) (fun b hb e => ?_)
    have : g2 = b := by simpa [Value.ownBlock] using hb
    exact hon (by rw [this, e])
  · rcases hg2 with h | h
    · left; have : g = g2 := by simpa [Value.ownBlock] using h
      exact this.symm
    · exact .inr h

set_option maxHeartbeats 1000000 in
theorem ordPop {w : World} {B o g c : Nat} {l : List Nat} (s : Nat) (h : OrdAt w B o g c (l ++ [s])) :
    Calls Tryz.prog 292 #[.pointer (some ⟨o, 0, none⟩)] w fun e w' => e = .returned (.iface 3 (.int .i64 (s : Int))) ∧ OrdAt w' B o g c l ∧ Touch (fun b => b = o ∨ b = g) w w' := by
  have hlen := h.len
  rw [List.length_append, List.length_singleton] at hlen
  have y0 := h.box.cell 0
  have f0 := h.box.frozen 0
  have hrow := h.row
  have c1 := (rd_own hrow).2.2 (by simp)
  have hcap := (rd_own hrow).1
  rw [List.length_append, List.length_singleton] at hcap
  obtain ⟨b, off, e, hb, hc⟩ := c1
  injection e with e
  injection e with e1 e2
  subst e1 e2
  have c2 := hc l.length (by simp)
  rw [Nat.zero_add, List.getElem?_map, List.getElem?_append_right (Nat.le_refl _), Nat.sub_self] at c2
  simp only [List.getElem?_cons_zero, Option.map_some, iv] at c2
  simp only [List.getElem?_cons_zero, List.length_append, List.length_singleton] at y0
  obtain ⟨n, hn⟩ : ∃ n, l.length = n := ⟨_, rfl⟩
  rw [hn] at y0 c2 hcap
  have HH := Lib.hid h
  have HN := Lib.hid hn
  rw [hn] at hlen
  have hlt : o < w.heap.size := h.box.lt
  clear h hc hrow hn
  go_enter Tryz.func292, Tryz.ntmps292
  go_wp2
  go_ret
  refine ⟨rfl, ⟨?_, ?_, HH.out.ne, HH.out.hB, by rw [HN.out]; omega⟩, ((Touch.refl (fun b => b = o ∨ b = g) w).setCell (p := ⟨o, 0, none⟩) (.inl (.inl rfl)) _)⟩
  · have := HH.out.box.set_ 0 (.slice (some ⟨g, 0, none⟩) n c)
    rw [HN.out]; exact this
  · have h1 := HH.out.row
    have h2 : w.ownsRow B 3 1 (.slice (some ⟨g, 0, none⟩) l.length c) l.length (l.map iv) := by
      refine ⟨by simp, ?_⟩
      rcases h1.2 with ⟨h', _⟩ | ⟨g', cap, cur, hv, hB, hg, hnc, hcm, hcs, ht⟩
      · cases h'
      · simp only [List.length_append, List.length_singleton] at hv hnc ht
        simp only [Value.slice.injEq, Option.some.injEq, Addr.mk.injEq, and_true, true_and] at hv
        obtain ⟨rfl, rfl⟩ := hv
        refine .inr ⟨g, c, cur, rfl, hB, hg, by omega, hcm, hcs, ?_⟩
        have := congrArg (List.take l.length) ht
        rw [List.take_take, Nat.min_eq_left (by omega)] at this
        simpa using this
    rw [HN.out] at h2 ⊢
    refine own_touch h2 ((Touch.refl (fun b => b = o) w).setCell (p := ⟨o, 0, none⟩) (.inl rfl) _) (fun b hb e => ?_)
    have : g = b := by simpa [Value.ownBlock] using hb
    exact HH.out.ne (by rw [this, e])

end Go.Proofs.YtcelabojehaioaaGreatDoor

/- Facts: the methods of pool's order behind an interface. -/
namespace Go.Proofs.YtcelabojehaioaaGreatDoor
open Go.RowKit

theorem meth_Push (f : Nat) (a : Addr) (w : World) : (method (f + 1) 317 (.pointer (some a)) "Push").run Tryz.prog w = .ok (293, .pointer (some a)) w := by kernel_rfl
theorem meth_Pop (f : Nat) (a : Addr) (w : World) : (method (f + 1) 317 (.pointer (some a)) "Pop").run Tryz.prog w = .ok (292, .pointer (some a)) w := by kernel_rfl
theorem nilchk_run {P : Program} (t : TypeId) (a : Addr) (x y : String) (w : World) : (Builtin.ssaWrapNilChk_ #[t] t #[.pointer (some a), strVal x, strVal y]).run P w = .ok (.pointer (some a)) w := rfl

theorem meth_val {P : Program} {t e : TypeId} {name : String} {F : FuncId} {d : TypeDesc} (hu : P.underlying t = some (.pointer e)) (_hd : P.underlying e = some d)
    (hm : (P.info? t).map (fun i => (i.methods.find? (·.name == name)).map (fun m => (m.path, m.func))) = some (some (#[], some (F, false)))) (f : Nat) (a : Addr) (w : World) (v : Value) (hl : (loadVar e a).run P w = .ok v w) :
    (method (f + 1) t (.pointer (some a)) name).run P w = .ok (F, v) w := by
  cases hi : P.info? t with
  | none => simp [hi] at hm
  | some i =>
    rw [hi] at hm
    simp only [Option.map_some, Option.some.injEq] at hm
    cases hf : i.methods.find? (·.name == name) with
    | none => simp [hf] at hm
    | some m =>
      rw [hf] at hm
      simp only [Option.map_some, Option.some.injEq, Prod.mk.injEq] at hm
      obtain ⟨h1, h2⟩ := hm
      have hr := run_underlying (P := P) hu
      simp [method, typeInfo, hi, hf, h1, h2, follow, receiverAt, hr, Place.get, nilchk_run, asAddr, Sem.run_bind, hl]

theorem load_ord (o : Nat) (v : Value) (w : World) (h : w.cell? ⟨o, 0, none⟩ = some v) : (loadVar 351 ⟨o, 0, none⟩).run Tryz.prog w = .ok v w := by
  have hu := run_underlying (P := Tryz.prog) Tryz.underlying351
  simp [loadVar, isAgg, hu, Sem.run_bind, h]

theorem meth_Less (f o : Nat) (v : Value) (w : World) (h : w.cell? ⟨o, 0, none⟩ = some v) : (method (f + 1) 317 (.pointer (some ⟨o, 0, none⟩)) "Less").run Tryz.prog w = .ok (291, v) w :=
  meth_val Tryz.underlying317 Tryz.underlying351 (by kernel_rfl) f _ w v (load_ord o v w h)
theorem meth_Len (f o : Nat) (v : Value) (w : World) (h : w.cell? ⟨o, 0, none⟩ = some v) : (method (f + 1) 317 (.pointer (some ⟨o, 0, none⟩)) "Len").run Tryz.prog w = .ok (230, v) w :=
  meth_val Tryz.underlying317 Tryz.underlying351 (by kernel_rfl) f _ w v (load_ord o v w h)
theorem meth_Swap (f o : Nat) (v : Value) (w : World) (h : w.cell? ⟨o, 0, none⟩ = some v) : (method (f + 1) 317 (.pointer (some ⟨o, 0, none⟩)) "Swap").run Tryz.prog w = .ok (294, v) w :=
  meth_val Tryz.underlying317 Tryz.underlying351 (by kernel_rfl) f _ w v (load_ord o v w h)

end Go.Proofs.YtcelabojehaioaaGreatDoor

/- Walks: container/heap at pool's order. -/
namespace Go.Proofs.YtcelabojehaioaaGreatDoor
open Go.RowKit

theorem OrdAt.swapped {w w' : World} {B o g c n i j : Nat} {l : List Nat} (h : OrdAt w B o g c l) (hl : l.length = n) (hr : w'.ownsRow B 3 1 (.slice (some ⟨g, 0, none⟩) n c) n ((swapL l i j).map iv)) (t : Touch (fun b => b = g) w w') : OrdAt w' B o g c (swapL l i j) := by
  have hs := swapL_length l i j
  have hb := h.box.touch t h.ne
  refine ⟨by rw [hs]; exact hb, by rw [hs, hl]; exact hr, h.ne, h.hB, by rw [hs]; exact h.len⟩

set_option maxHeartbeats 2000000 in
set_option maxRecDepth 100000 in
theorem heapUp {w : World} {B o g c : Nat} {l : List Nat} (j : Nat) (h : OrdAt w B o g c l) (hj : j < l.length) (hH : HeapUp (keyF id l) j l.length) :
    Calls Tryz.prog 205 #[.iface 317 (.pointer (some ⟨o, 0, none⟩)), .int .i64 (j : Int)] w fun e w' => e = .returned (.tuple #[]) ∧
      ∃ l', l'.Perm l ∧ HeapTo (keyF id l') l.length ∧ OrdAt w' B o g c l' ∧ Touch (fun b => b = o ∨ b = g) w w' := by
  obtain ⟨n, hn⟩ : ∃ n, l.length = n := ⟨_, rfl⟩
  have hn1 := h.len
  rw [hn] at hj hH hn1 ⊢
  go_enter Tryz.func205, Tryz.ntmps205
  go_wp2_with fail
  go_loopw [1] (fun i wr => ∃ k l', k < n ∧ i = .int .i64 (k : Nat) ∧ l'.Perm l ∧ HeapUp (keyF id l') k n ∧ OrdAt wr B o g c l' ∧ Touch (fun b => b = o ∨ b = g) w wr) (fun i _ => (intOf i).toNat)
  case atStart => exact ⟨j, l, hj, rfl, List.Perm.refl _, hH, h, Touch.refl _ _⟩
  case round =>
    obtain ⟨k, l', hk, rfl, hp, hHk, ho, ht⟩ := hrel
    clear h hj hH
    have hln : l'.length = n := by rw [hp.length_eq]; exact hn
    by_cases h0 : k = 0
    · subst h0
      go_wp2_with fail
      go_end0
      exact ⟨rfl, l', hp, heapUp_end hHk (fun h => absurd h (by omega)), ho, ht⟩
    · have HHk := Lib.hid hHk
      have HO := Lib.hid ho
      have HPm := Lib.hid hp
      have HT := Lib.hid ht
      have HL := Lib.hid hln
      clear hHk ho hp ht hln hn
      obtain ⟨i, hi⟩ : ∃ i, (k - 1) / 2 = i := ⟨_, rfl⟩
      have hik : i < k := by omega
      have e1 : ((k : Int) - 1) / 2 = (i : Int) := by omega
      have t1 : ((i : Int) == (k : Int)) = false := by rw [beq_eq_false_iff_ne]; omega
      have y0 := HO.out.box.cell 0
      simp only [List.getElem?_cons_zero, HL.out] at y0
      have hrd := (rd_own HO.out.row).2
      rw [HL.out] at hrd
      have HLess := Lib.hid (ordLess g n c k i l' wr hk (by omega) (by omega) hrd)
      have mL := fun f => meth_Less f o _ wr y0
      have hrow := HO.out.row
      rw [HL.out] at hrow
      have HRow := Lib.hid hrow
      clear hrd hrow
      by_cases hlt : keyF id l' k < keyF id l' i
      · rw [decide_eq_true hlt] at HLess
        have HS := Lib.hid (ordSwap g n c i k B l' · (by omega) hk (by omega) ·)
        have H1 := Lib.hid hlt
        clear hlt
        go_wp2_with fail
        refine HLess.out.mono ?_
        rintro e w2 ⟨rfl, hd⟩
        have ho2 := HO.out.below (hd.below _)
        have z0 := ho2.box.cell 0
        simp only [List.getElem?_cons_zero, HL.out] at z0
        have mS := fun f => meth_Swap f o _ w2 z0
        have hrow2 := ho2.row
        rw [HL.out] at hrow2
        have HSw := Lib.hid (ordSwap g n c i k B l' w2 (by omega) hk (by omega) hrow2)
        have HO2 := Lib.hid ho2
        clear mL y0 ho2 hrow2 HS HLess
        go_wp2_with fail
        refine HSw.out.mono ?_
        rintro e w3 ⟨rfl, hO3, hT3⟩
        have HO3 := Lib.hid (HO2.out.swapped HL.out hO3 hT3)
        have HT3 := Lib.hid ((HT.out.trans (Touch.of_below (F := fun b => b = o ∨ b = g) (hd.below _)) (fun b h => .inl h)).trans (hT3.mono (fun b h => .inr h)) (fun b h => .inl h))
        clear mS z0 hO3 hT3
        go_wp2_with fail
        go_roundw
        case rel =>
          refine ⟨i, swapL l' i k, by omega, rfl, (swapL_perm _ _ _).trans HPm.out, ?_, HO3.out, HT3.out⟩
          rw [keyF_swap id l' i k (by rw [HL.out]; omega) (by rw [HL.out]; exact hk)]
          exact heapUp_swap HHk.out (by omega) hk hi H1.out
        case measure => simp [intOf]; omega
      · rw [decide_eq_false hlt] at HLess
        have H1 := Lib.hid hlt
        clear hlt
        go_wp2_with fail
        refine HLess.out.mono ?_
        rintro e w2 ⟨rfl, hd⟩
        go_wp2_with fail
        go_end0
        exact ⟨rfl, l', HPm.out, heapUp_end HHk.out (fun _ => by have := H1.out; rw [← hi] at this; omega), HO.out.below (hd.below _), HT.out.trans (Touch.of_below (F := fun b => b = o ∨ b = g) (hd.below _)) (fun b h => .inl h)⟩

end Go.Proofs.YtcelabojehaioaaGreatDoor
