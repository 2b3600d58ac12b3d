import Derived.Test.YtcelabojehaioaaGreatDoorG27
/- Walks of package index: leaf. -/
namespace Go.Proofs.YtcelabojehaioaaGreatDoor
open Go.RowKit

section
variable {base jb x d p L : Nat}

theorem rdo_cell {w : World} {G : Nat → Prop} {A : Option Addr} {l : List UInt8} (h : RdO w G A l.length (l.map bv)) (k : Nat) (hk : k < l.length) : ∃ b off, A = some ⟨b, off, none⟩ ∧ b < w.heap.size ∧ w.cell? ⟨b, off + k, none⟩ = some (.int .u8 ((l.getD k 0).toNat : Int)) := by
  obtain ⟨b, off, e, hb, hc⟩ := h.1.2 (by omega)
  refine ⟨b, off, e, hb, ?_⟩
  rw [hc k hk, List.getElem?_map, List.getElem?_eq_getElem hk, List.getD_eq_getElem?_getD, List.getElem?_eq_getElem hk]; rfl

set_option maxHeartbeats 8000000 in
set_option maxRecDepth 100000 in
theorem leaf_job : ∀ (f : Nat) (w : World) (j : Jb) (G : Nat → Prop) (l : List UInt8) (value : UInt64) (A : Option Addr) (c : Nat), JobAt w base jb x d p L j G → RdO w G A l.length (l.map bv) → l.length ≤ c → l.length < f → l.length ≤ 100 → j.made.length + f ≤ 1000 →
    Calls Tryz.prog 149 #[.pointer (some ⟨jb, 0, none⟩), .slice A l.length c, .int .u64 (value.toNat : Int)] w (JobPost (leafP f j l value) base jb x d p L G w)
  | 0, w, j, G, l, value, A, c, h, hl, hc, hf, hle, hm => absurd hf (by omega)
  | f + 1, w, j, G, l, value, A, c, h, hl, hc, hf, hle, hm => by
    by_cases h15 : l.length ≤ 15
    · have HP : Hid (leafP (f + 1) j l value = buildP j ⟨l, value, [], []⟩) := Lib.hid (by rw [leafP, if_pos h15])
      have HB := Lib.hid (build_job h ⟨l, value, [], []⟩ A none none c 0 0 (by simp only; omega) (by simp) (by simp) hl.1 Rd.nil Rd.nil (by omega))
      have t1 : decide ((l.length : Int) ≤ 15) = true := decide_eq_true (by omega)
      clear h hl
      go_enter Tryz.func149, Tryz.ntmps149
      go_wp2_with fail
      refine HB.out.mono ?_
      rintro e w1 ⟨rfl, hg⟩
      have HG := Lib.hid hg
      clear hg
      go_wp2_with fail
      go_ret2
      rw [HP.out]
      exact ⟨rfl, HG.out⟩
    · have t1 : decide ((l.length : Int) ≤ 15) = false := decide_eq_false (by omega)
      obtain ⟨b, off, rfl, hbw, -⟩ := rdo_cell hl 15 (by omega)
      have hcut := hl.cut 16 (by omega) hc
      rw [← List.map_drop, show l.length - 16 = (l.drop 16).length by simp] at hcut
      have HL := leaf_job f w j G (l.drop 16) value _ (c - 16) h hcut (by simp; omega) (by simp; omega) (by simp; omega) (by omega)
      rw [show (l.drop 16).length = l.length - 16 by simp] at HL
      obtain ⟨⟨j1, kid, er⟩, hr⟩ : ∃ r, leafP f j (l.drop 16) value = r := ⟨_, rfl⟩
      have hmd := leafP_made f j (l.drop 16) value
      have HP : Hid (leafP (f + 1) j l value = aboveP j1 ⟨l.take 15, 0, [], []⟩ (l.getD 15 0) kid er) := Lib.hid (by rw [leafP, if_neg h15, hr])
      rw [hr] at HL hmd
      simp only at hmd
      have HL : Hid (∀ P C, C = c - 16 → P = (if c = 16 then some (⟨b, off, none⟩ : Addr) else some ⟨b, off + 16, none⟩) → Calls Tryz.prog 149 #[.pointer (some ⟨jb, 0, none⟩), .slice P (l.length - 16) C, .int .u64 (value.toNat : Int)] w (JobPost (j1, kid, er) base jb x d p L G w)) := Lib.hid (fun P C e1 e2 => by subst e1 e2; exact HL)
      have Hl := Lib.hid hl
      clear h hl hcut hr
      go_enter Tryz.func149, Tryz.ntmps149
      go_wp2_with fail
      all_goals (refine (HL.out _ _ (by omega) (by split <;> first | rfl | omega)).mono ?_)
      all_goals (rintro e w1 ⟨rfl, G1, hj1, hm1⟩)
      all_goals (clear HL)
      all_goals (have hl1 := Hl.out.moved hm1)
      all_goals (obtain ⟨b', off', e', hbw', hck⟩ := rdo_cell hl1 15 (by omega))
      all_goals (injection e' with e'; injection e' with e1 e2; subst e1 e2)
      all_goals (have hln : (l.take 15).length = 15 := by simp; omega)
      all_goals (have hrd : RdO w1 G1 (some ⟨b, off, none⟩) 15 ((l.take 15).map bv) := by have := hl1.take 15 (by omega); rwa [← List.map_take] at this)
      all_goals (have hab := fun (W : World) (hW : Below w1.heap.size w1 W) => above_job (hj1.below hW) ⟨l.take 15, 0, [], []⟩ (some ⟨b, off, none⟩) none none 15 0 0 (l.getD 15 0) kid er (by show (l.take 15).length ≤ 100; omega) (by simp) (by simp) (by show Rd W _ (l.take 15).length _; rw [hln]; exact (hrd.below hW).1) Rd.nil Rd.nil (by show j1.made.length ≤ 1000; omega))
      all_goals (replace hab := Lib.hid hab)
      all_goals (rw [hln] at hab)
      all_goals (have HM1 := Lib.hid hm1)
      all_goals (generalize l.getD 15 0 = lab at *)
      all_goals (generalize l.take 15 = l15 at *)
      all_goals (clear hj1 hm1 hl1 HL hln hrd)
      all_goals (have hx1 : (15 : Int) < (l.length : Int) := by omega)
      all_goals (have hx2 : decide ((15 : Int) < (l.length : Int)) = true := decide_eq_true hx1)
      all_goals (have hx3 : 15 < l.length := by omega)
      all_goals (have hx4 : 15 ≤ c := by omega)
      all_goals (go_wp2_with fail)
      all_goals (go_region_with (go_at_call 201; go_loud (refine (hab.out _ ((Dr.drew w1).below _)).mono ?_; rintro e w2 ⟨rfl, hg2⟩)))
      all_goals (obtain ⟨G2, q1, q2⟩ := hg2)
      all_goals (have HF := Lib.hid (And.intro q1 (HM1.out.trans ((Moved.of_below ((Dr.drew w1).below _)).trans q2))))
      all_goals (clear q1 q2)
      all_goals (go_wp2_with fail)
      all_goals (go_ret2)
      all_goals (rw [HP.out])
      all_goals (exact ⟨rfl, G2, HF.out.1, HF.out.2⟩)
end

end Go.Proofs.YtcelabojehaioaaGreatDoor
