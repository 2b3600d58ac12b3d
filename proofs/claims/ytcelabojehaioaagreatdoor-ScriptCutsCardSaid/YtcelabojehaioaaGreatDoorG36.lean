import Derived.Test.YtcelabojehaioaaGreatDoorG20
import Derived.Test.YtcelabojehaioaaGreatDoorG34
import Derived.Test.YtcelabojehaioaaGreatDoorG35
/- An engine's Blocks. -/
namespace Go.Proofs.YtcelabojehaioaaGreatDoor
open Go.RowKit

section
variable {w w' : World} {g d p x tt bk L : Nat} {s : St} {b : Bk} {t : Tb} {F J : Nat → Prop} {slot : UInt64} {jv : Value} {id : Int} {sv : Value} {st : UInt64}

end

end Go.Proofs.YtcelabojehaioaaGreatDoor

/- An engine's Step where the job's step is its last: what the engine is behind it. -/
namespace Go.Proofs.YtcelabojehaioaaGreatDoor
open Go.RowKit

section
variable {w w' : World} {g d p x tt bk L : Nat} {s s2 : St} {b : Bk} {t : Tb} {F F2 J : Nat → Prop} {slot : UInt64} {jv : Value} {id : Int} {sv : Value} {st : UInt64} {jb : Nat}

/-- The system has moved, the job's block has been written. -/
theorem EngAt.job (h : EngAt w g d p x tt bk L s b t F J slot jv id sv st) (hJ : J jb) (hg : jb ≠ g) (hx : Ix w' x d p L s2 F2) (m : Moved (fun k => F k ∨ k = jb) (fun k => F2 k ∨ k = jb) w w') : EngAt w' g d p x tt bk L s2 b t F2 J slot jv id sv st := by
  have hgF : ¬ (F g ∨ g = jb) := fun e => e.elim h.fg (fun e => hg e.symm)
  have hm : Moved (fun k => F k ∨ J k) (fun k => F2 k ∨ J k) w w' := ⟨m.touch.mono (fun k hk => hk.imp (fun h => h) (fun e => by rw [e]; exact hJ)), fun k hk => by
    rcases hk with hk | hk
    · rcases m.own k (.inl hk) with (h1 | h1) | h1
      · exact .inl (.inl h1)
      · exact .inl (.inr (h1 ▸ hJ))
      · exact .inr h1
    · exact .inl (.inr hk)⟩
  refine ⟨hx, h.tb.moved hm, h.jg, fun k hk => Nat.lt_of_lt_of_le (h.jl k hk) m.touch.size, h.box.touch m.touch hgF, fun hf => ?_, h.g1, h.g2, h.g3, h.g4, h.x1, h.x2, h.c1, h.c2, h.c3⟩
  rcases m.own g (.inl hf) with h1 | h1
  · exact hgF h1
  · have := h.box.lt; omega
end

end Go.Proofs.YtcelabojehaioaaGreatDoor

/- An engine's Step where the job's step is its last. -/
namespace Go.Proofs.YtcelabojehaioaaGreatDoor
open Go.RowKit

section
variable {w w' : World} {g d p x tt bk L : Nat} {s s2 : St} {b : Bk} {t : Tb} {F F2 J : Nat → Prop} {slot : UInt64} {jv : Value} {id : Int} {sv : Value} {st : UInt64} {jb : Nat}

/-- The engine's own block is written. -/
theorem EngAt.set (h : EngAt w g d p x tt bk L s b t F J slot jv id sv st) {slot' : UInt64} {jv' : Value} {id' : Int} {sv' : Value} {st' : UInt64} (k : Touch (fun k => k = g) w w') (hb : Blk w' g 58 (engCells d p x tt slot' jv' id' sv' st')) : EngAt w' g d p x tt bk L s b t F J slot' jv' id' sv' st' :=
  ⟨⟨h.ix.sys.keep k (fun c hc e => h.fg (e ▸ hc)) (fun e => h.c3.1 e.symm) (fun e => h.c3.2 e.symm), h.ix.box.touch k (fun e => h.g4 e.symm), h.ix.out⟩, h.tb.moved ⟨k.mono (fun c e => Or.inr (by rw [e]; exact h.jg)), fun _ hk => .inl hk⟩, h.jg, fun j hj => Nat.lt_of_lt_of_le (h.jl j hj) k.size, hb, h.fg, h.g1, h.g2, h.g3, h.g4, h.x1, h.x2, h.c1, h.c2, h.c3⟩
/-- The table's map is written. -/
theorem EngAt.noted (h : EngAt w g d p x tt bk L s b t F J slot jv id sv st) {t' : Tb} (hb : TbAt w' (fun k => F k ∨ J k) tt bk b t') (k : Touch (fun k => k = b.nt) w w') : EngAt w' g d p x tt bk L s b t' F J slot jv id sv st :=
  ⟨⟨h.ix.sys.keep k (fun _ hc e => h.tb.fn (e ▸ .inl hc)) (fun e => h.c2.1 e.symm) (fun e => h.c2.2 e.symm), h.ix.box.touch k h.x2, h.ix.out⟩, hb, h.jg, fun j hj => Nat.lt_of_lt_of_le (h.jl j hj) k.size, h.box.touch k h.g3, h.fg, h.g1, h.g2, h.g3, h.g4, h.x1, h.x2, h.c1, h.c2, h.c3⟩

/-- What an engine's last step of a job turns. -/
def ES (F : Nat → Prop) (jb g bk nt : Nat) (k : Nat) : Prop := F k ∨ k = jb ∨ k = g ∨ k = bk ∨ k = nt

set_option maxHeartbeats 8000000 in
set_option maxRecDepth 100000 in
theorem egStepEnd {i : Nat} {A : Option Addr} {n c : Nat} (h : EngAt w g d p x tt bk L s b t F J slot (.iface 41 (.pointer (some ⟨jb, 0, none⟩))) (i : Int) (.slice A n c) st) (hJ : J jb) (hg : jb ≠ g) (hi : i < 8) (ho : t.wt.ops i = true)
    {y : List Wr} (hsv : SetR w (EF F J bk b.nt jb) (.slice A n c) y) (hy : y.length ≤ 100000)
    (hj : ∀ W, Below w.heap.size w W → Calls Tryz.prog 19 #[.pointer (some ⟨jb, 0, none⟩)] W fun e w' => e = .returned (.tuple #[.bool true, .int .i64 0]) ∧ ∃ F2, Ix w' x d p L s2 F2 ∧ Moved (fun b => F b ∨ b = jb) (fun b => F2 b ∨ b = jb) W w') :
    Calls Tryz.prog 25 #[.pointer (some ⟨g, 0, none⟩)] w fun e w' => e = .returned (.tuple #[.int .i64 (i : Int), .bool true, .int .i64 0]) ∧
      ∃ b' F2, b'.many = b.many ∧ b'.nt = b.nt ∧ EngAt w' g d p x tt bk L s2 b' (noteT (endT t i) y st) F2 J st .nilIface 0 (.slice none 0 0) 0 ∧ Moved (ES F jb g bk b.nt) (ES F2 jb g bk b.nt) w w' := by
  have mS := fun f W => jmeth_Step f ⟨jb, 0, none⟩ W
  have HN := Lib.hid (egNone h)
  have HB := Lib.hid (egBusy h)
  have HJ := Lib.hid hj
  have c5 := h.box.cell 5
  have c6 := h.box.cell 6
  have c7 := h.box.cell 7
  have c8 := h.box.cell 8
  unfold engCells at c5 c6 c7 c8
  simp only [List.getElem?_cons_zero, List.getElem?_cons_succ] at c5 c6 c7 c8
  obtain ⟨W, hW⟩ : ∃ W, W = w.alloc (.cells #[.iface 41 (.pointer (some ⟨jb, 0, none⟩)), .int .i64 (i : Int), .slice A n c, .int .u64 (st.toNat : Int)] 56) := ⟨_, rfl⟩
  have hB1 : Blk W w.heap.size 56 [.iface 41 (.pointer (some ⟨jb, 0, none⟩)), .int .i64 (i : Int), .slice A n c, .int .u64 (st.toNat : Int)] := hW ▸ heap_alloc_new _ _
  have hbe : Below w.heap.size w W := hW ▸ (Below.refl _ _).alloc (Nat.le_refl _) _
  have hE1 := h.below hbe
  have hgl := h.box.lt
  have hjl := h.jl jb hJ
  have hFl := h.ix.sys.lt
  have hbl := h.tb.book.lt
  have hnl := h.tb.map.lt
  have HBl := Lib.hid hB1
  have HBe := Lib.hid hbe
  have HE1 := Lib.hid hE1
  have HSv := Lib.hid (hsv.below hbe)
  have HW := Lib.hid hW
  have HOF : Hid (¬ (F w.heap.size ∨ w.heap.size = jb)) := Lib.hid (fun hf => hf.elim (fun h => absurd (hFl _ h) (by omega)) (fun h => by omega))
  have hjW := hj W hbe
  have HJW := Lib.hid hjW
  clear h hj hW hB1 hbe hE1 hFl hjW HJ hsv
  go_enter Tryz.func25, Tryz.ntmps25
  go_wp2_with fail
  refine HN.out.mono ?_
  rintro e w1 ⟨rfl, rfl⟩
  go_wp2_with fail
  refine HB.out.mono ?_
  rintro e w1 ⟨rfl, rfl⟩
  go_wp2_with fail
  rw [← HW.out]
  refine HJW.out.mono ?_
  rintro e w2 ⟨rfl, F2, hx2, hm2⟩
  have hE2 := HE1.out.job hJ hg hx2 hm2
  have hsW := HBe.out.size
  have hK2 := HBl.out.touch hm2.touch HOF.out
  have HK2 := Lib.hid hK2
  have HM2 := Lib.hid hm2
  have HE2 := Lib.hid hE2
  have d3 := hE2.box.cell 3
  unfold engCells at d3
  have z1 := hK2.cell 1
  simp only [List.getElem?_cons_zero, List.getElem?_cons_succ] at z1 d3
  have HEnd := Lib.hid (fun X (k : Below w2.heap.size w2 X) => tabEnd (hE2.tb.below k) hi ho)
  have hobk : ¬ w.heap.size = bk := by omega
  have HKk : Hid (∀ X, Touch (fun k => k = bk) w2 X → X.cell? ⟨g, 3, none⟩ = some (.pointer (some ⟨tt, 0, none⟩)) ∧ X.cell? ⟨w.heap.size, 1, none⟩ = some (.int .i64 (i : Int))) := Lib.hid (fun X k => ⟨(HE2.out.box.touch k HE2.out.g2).cell 3, (HK2.out.touch k hobk).cell 1⟩)
  clear hx2 hm2 hE2 hK2 HJW c5 c6 c7 c8 HN HB HE1 HBl
  go_wp2_with fail
  go_region_held3 (fun w' => w'.cell? ⟨g, 3, none⟩ = some (.pointer (some ⟨tt, 0, none⟩)) ∧ w'.cell? ⟨w.heap.size, 1, none⟩ = some (.int .i64 (i : Int)))
    (first | exact ⟨d3, z1⟩ | exact HKk.out _ ((Touch.of_below ((Dr.drew w2).below _)).trans ht3 (fun _ e => .inl e)))
    ((first | (go_at_call 72; refine (HEnd.out _ ((Dr.drew w2).below _)).mono ?_; rintro e w3 ⟨rfl, b3, hm3, hn3, hb3, ht3⟩)))
  all_goals (
    have ht23 : Touch (fun k => k = bk) w2 w3 := (Touch.of_below ((Dr.drew w2).below _)).trans ht3 (fun _ e => .inl e)
    have hE3 := HE2.out.book hb3 hn3 ht23
    have hK3 := HK2.out.touch ht23 hobk
    have e3 := hE3.box.cell 3
    have e4 := hE3.box.cell 4
    have e5 := hE3.box.cell 5
    have e6 := hE3.box.cell 6
    have e7 := hE3.box.cell 7
    have e8 := hE3.box.cell 8
    have f4 := hE3.box.frozen 4
    have f5 := hE3.box.frozen 5
    have f6 := hE3.box.frozen 6
    have f7 := hE3.box.frozen 7
    have f8 := hE3.box.frozen 8
    unfold engCells at e3 e4 e5 e6 e7 e8
    have y1 := hK3.cell 1
    have y2 := hK3.cell 2
    have y3 := hK3.cell 3
    simp only [List.getElem?_cons_zero, List.getElem?_cons_succ] at e3 e4 e5 e6 e7 e8 y1 y2 y3
    have hgne : g ≠ w.heap.size := by omega
    have hgne2 : w.heap.size ≠ g := by omega
    have HE3 := Lib.hid hE3
    have HK3 := Lib.hid hK3
    have HT23 := Lib.hid ht23
    have HM3 := Lib.hid hm3
    have HN3 := Lib.hid hn3
    clear hb3 ht3 ht23 hE3 hK3 hm3 hn3 d3 z1 HE2 HK2 HEnd HKk
    go_wp2_with fail)
  all_goals (
    obtain ⟨W4, hW4⟩ : ∃ W4, W4 = ((((w3.setCell ⟨g, 5, none⟩ .nilIface).setCell ⟨g, 6, none⟩ (.int .i64 0)).setCell ⟨g, 7, none⟩ (.slice none 0 0)).setCell ⟨g, 8, none⟩ (.int .u64 0)).setCell ⟨g, 4, none⟩ (.int .u64 (st.toNat : Int)) := ⟨_, rfl⟩
    rw [← hW4]
    have tg : Touch (fun k => k = g) w3 W4 := by rw [hW4]; exact (((((Touch.refl (fun k => k = g) w3).setCell (p := ⟨g, 5, none⟩) (.inl rfl) _).setCell (p := ⟨g, 6, none⟩) (.inl rfl) _).setCell (p := ⟨g, 7, none⟩) (.inl rfl) _).setCell (p := ⟨g, 8, none⟩) (.inl rfl) _).setCell (p := ⟨g, 4, none⟩) (.inl rfl) _
    have bg : Blk W4 g 58 (engCells d p x tt st .nilIface 0 (.slice none 0 0) 0) := by rw [hW4]; exact ((((HE3.out.box.set_ 5 _).set_ 6 _).set_ 7 _).set_ 8 _).set_ 4 _
    have hE4 := HE3.out.set tg bg
    have hK4 := HK3.out.touch tg hgne2
    have hMv : Moved (EF F J bk b.nt jb) (EF F2 J bk b.nt jb) W W4 := by
      have m1 : Moved (EF F J bk b.nt jb) (EF F2 J bk b.nt jb) W w2 := ⟨HM2.out.touch.mono (fun k hk => hk.imp (fun h => h) (fun h => .inr (.inr (.inr h)))), fun k hk => by
        rcases hk with hk | hk
        · rcases HM2.out.own k (.inl hk) with (h | h) | h
          · exact .inl (.inl h)
          · exact .inl (.inr (.inr (.inr (.inr h))))
          · exact .inr h
        · exact .inl (.inr hk)⟩
      have m2 : Moved (EF F2 J bk b.nt jb) (EF F2 J bk b.nt jb) w2 w3 := ⟨HT23.out.mono (fun k hk => .inr (.inr (.inl hk))), fun _ hk => .inl hk⟩
      have m3 : Moved (EF F2 J bk b.nt jb) (EF F2 J bk b.nt jb) w3 W4 := ⟨tg.mono (fun k hk => .inr (.inl (by rw [hk]; exact hE4.jg))), fun _ hk => .inl hk⟩
      exact (m1.trans m2).trans m3
    have hSv4 := HSv.out.moved hMv
    have hNote := fun X (k : Below W4.heap.size W4 X) => tabNote (hE4.tb.below k) st ((hSv4.mono (F := fun k => k = b3.nt) (fun k _ e => by rw [HN3.out] at e; exact .inr (.inr (.inr (.inl e))))).below k) hy
    have y1 := hK4.cell 1
    have y2 := hK4.cell 2
    have y3 := hK4.cell 3
    have e3 := bg.cell 3
    unfold engCells at e3
    simp only [List.getElem?_cons_zero, List.getElem?_cons_succ] at y1 y2 y3 e3
    have hobn : ¬ w.heap.size = b3.nt := by rw [HN3.out]; omega
    have HKn : Hid (∀ X, Touch (fun k => k = b3.nt) W4 X → X.cell? ⟨g, 3, none⟩ = some (.pointer (some ⟨tt, 0, none⟩)) ∧ X.cell? ⟨w.heap.size, 1, none⟩ = some (.int .i64 (i : Int)) ∧ X.cell? ⟨w.heap.size, 2, none⟩ = some (.slice A n c) ∧ X.cell? ⟨w.heap.size, 3, none⟩ = some (.int .u64 (st.toNat : Int))) := Lib.hid (fun X k => ⟨(bg.touch k hE4.g3).cell 3, (hK4.touch k hobn).cell 1, (hK4.touch k hobn).cell 2, (hK4.touch k hobn).cell 3⟩)
    have HE4 := Lib.hid hE4
    have HNt := Lib.hid hNote
    have HTg := Lib.hid tg
    have HS4 := Lib.hid tg.size
    clear hW4 tg bg hE4 hK4 hMv hSv4 hNote e4 e5 e6 e7 e8 f4 f5 f6 f7 f8 HE3 HK3)
  all_goals (go_region_held3 (fun w' => w'.cell? ⟨g, 3, none⟩ = some (.pointer (some ⟨tt, 0, none⟩)) ∧ w'.cell? ⟨w.heap.size, 1, none⟩ = some (.int .i64 (i : Int)) ∧ w'.cell? ⟨w.heap.size, 2, none⟩ = some (.slice A n c) ∧ w'.cell? ⟨w.heap.size, 3, none⟩ = some (.int .u64 (st.toNat : Int)))
    (first | exact ⟨e3, y1, y2, y3⟩ | exact HKn.out _ ((Touch.of_below ((Dr.drew W4).below _)).trans ht5 (fun _ e => .inl e)))
    ((first | (go_at_call 73; refine (HNt.out _ ((Dr.drew W4).below _)).mono ?_; rintro e w5 ⟨rfl, hb5, ht5⟩))))
  all_goals (
    have ht45 : Touch (fun k => k = b3.nt) W4 w5 := (Touch.of_below ((Dr.drew W4).below _)).trans ht5 (fun _ e => .inl e)
    obtain ⟨_, y1, _, _⟩ := HKn.out _ ht45
    have HE5 := Lib.hid (HE4.out.noted hb5 ht45)
    have HT45 := Lib.hid ht45
    clear hb5 ht5 ht45 e3 HNt)
  all_goals (go_wp2_with fail)
  all_goals (refine bodyPost_ret (v := .tuple #[.int .i64 (i : Int), .bool true, .int .i64 0]) (by simp [results, Tryz.results25, go_sem]) rfl ?_)
  all_goals (
    have hm : Moved (ES F jb g bk b.nt) (ES F2 jb g bk b.nt) W w2 := ⟨HM2.out.touch.mono (fun k hk => hk.imp id .inl), fun k hk => by
      rcases hk with hk | hk
      · exact (HM2.out.own k (.inl hk)).imp (fun h => h.imp id .inl) id
      · exact .inl (.inr hk)⟩
    have m2 : Moved (ES F2 jb g bk b.nt) (ES F2 jb g bk b.nt) w2 w3 := ⟨HT23.out.mono (fun k hk => .inr (.inr (.inr (.inl hk)))), fun _ hk => .inl hk⟩
    have m3 : Moved (ES F2 jb g bk b.nt) (ES F2 jb g bk b.nt) w3 W4 := ⟨HTg.out.mono (fun k hk => .inr (.inr (.inl hk))), fun _ hk => .inl hk⟩
    have m4 : Moved (ES F2 jb g bk b.nt) (ES F2 jb g bk b.nt) W4 w5 := ⟨HT45.out.mono (fun k hk => .inr (.inr (.inr (.inr (by rw [hk, HN3.out]))))), fun _ hk => .inl hk⟩
    exact ⟨rfl, b3, F2, HM3.out, HN3.out, HE5.out, (Moved.of_below HBe.out).trans (((hm.trans m2).trans m3).trans m4)⟩)
end

end Go.Proofs.YtcelabojehaioaaGreatDoor
