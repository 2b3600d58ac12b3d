import Derived.Test.YtcelabojehaioaaGreatDoorG23
import Derived.Test.YtcelabojehaioaaGreatDoorG26
/- Walks of package index: above, leaf. -/
namespace Go.Proofs.YtcelabojehaioaaGreatDoor
open Go.RowKit

theorem withOk_is (x : Nd) (label : UInt8) (kid : UInt64) : withOkP x label kid = withOk x label kid := rfl

/-- Four cells are written. -/
theorem set4 {w W : World} {base g : Nat} {e : TypeId} {a0 a1 a2 a3 : Value} (h : Blk W g e [a0, a1, a2, a3]) (hb : Below base w W) (hg : base ≤ g) (b0 b1 b2 b3 : Value) :
    ∃ W', W' = (((W.setCell ⟨g, 0, none⟩ b0).setCell ⟨g, 1, none⟩ b1).setCell ⟨g, 2, none⟩ b2).setCell ⟨g, 3, none⟩ b3 ∧ Blk W' g e [b0, b1, b2, b3] ∧ Below base w W' ∧ Kept W W' (some g) :=
  ⟨_, rfl, (((h.set_ 0 b0).set_ 1 b1).set_ 2 b2).set_ 3 b3,
    (((hb.setCell (p := ⟨g, 0, none⟩) hg b0).setCell (p := ⟨g, 1, none⟩) hg b1).setCell (p := ⟨g, 2, none⟩) hg b2).setCell (p := ⟨g, 3, none⟩) hg b3,
    (((Kept.set_ W g 0 b0).trans' (Kept.set_ _ g 1 b1)).trans' (Kept.set_ _ g 2 b2)).trans' (Kept.set_ _ g 3 b3)⟩

theorem own_past {w w' : World} {B g k n : Nat} {e : TypeId} {v : Value} {xs : List Value} (h : w.ownsRow B e k v n xs) (kp : Kept w w' (some g)) (hg : g < B) : w'.ownsRow B e k v n xs := by
  refine own_stay h kp (.inl ?_)
  rcases h.2 with ⟨h1, _⟩ | ⟨g', cap, cur, h1, h2, _⟩
  · subst h1; simp [Value.ownBlock]
  · subst h1; simp [Value.ownBlock]; omega

section
variable {w w' : World} {base jb x d p L : Nat} {j : Jb} {G : Nat → Prop}

theorem JobPost.of_below {r : Jb × UInt64 × Int} {W : World} (hb : Below w.heap.size w W) {e : Ending} (h : JobPost r base jb x d p L G W e w') : JobPost r base jb x d p L G w e w' := by
  obtain ⟨h1, G', h2, h3⟩ := h
  exact ⟨h1, G', h2, (Moved.of_below hb).trans h3⟩

set_option maxHeartbeats 8000000 in
set_option maxRecDepth 100000 in
theorem above_job (h : JobAt w base jb x d p L j G) (nd : Nd) (A1 A2 A3 : Option Addr) (c1 c2 c3 : Nat) (label : UInt8) (kid : UInt64) (e : Int) (b1 : nd.pre.length ≤ 100) (b2 : nd.labels.length ≤ 100) (b3 : nd.kids.length ≤ 100)
    (h1 : Bs w A1 nd.pre.length nd.pre) (h2 : Bs w A2 nd.labels.length nd.labels) (h3 : Ws w A3 nd.kids.length nd.kids) (hm : j.made.length ≤ 1000) :
    Calls Tryz.prog 201 #[.pointer (some ⟨jb, 0, none⟩), .agg #[.slice A1 nd.pre.length c1, .int .u64 (nd.val.toNat : Int), .slice A2 nd.labels.length c2, .slice A3 nd.kids.length c3], .int .u8 (label.toNat : Int), .int .u64 (kid.toNat : Int), .int .i64 e] w (JobPost (aboveP j nd label kid e) base jb x d p L G w) := by
  obtain ⟨W, hW, e0, e1, e2, e3, hb, hs⟩ := box4 w 223 (.slice A1 nd.pre.length c1) (.int .u64 (nd.val.toNat : Int)) (.slice A2 nd.labels.length c2) (.slice A3 nd.kids.length c3)
  have B0 : Blk W w.heap.size 223 [.slice A1 nd.pre.length c1, .int .u64 (nd.val.toNat : Int), .slice A2 nd.labels.length c2, .slice A3 nd.kids.length c3] := hW ▸ heap_alloc_new _ _
  have HW := Lib.hid hW
  have HJ := Lib.hid h
  have HB := Lib.hid hb
  by_cases he : e = 0
  · subst he
    have g1 := h1.below hb
    have g2 := h2.below hb
    have g3 := h3.below hb
    clear h1 h2 h3 h hW hb
    cases hok : withOk nd label kid with
    | false =>
      have HP : Hid (aboveP j nd label kid 0 = (j, 0, 5)) := Lib.hid (by unfold aboveP; rw [if_neg (by simp), withOk_is, hok]; rfl)
      have HN := Lib.hid (with_no A1 A2 A3 nd.pre.length c1 nd.labels.length c2 nd.kids.length c3 nd label kid W (by omega) (by omega) (by omega) g1 g2 g3 hok)
      unfold noNode at HN
      clear hok g1 g2 g3
      go_enter Tryz.func201, Tryz.ntmps201
      go_wp2_with fail
      rw [← HW.out]
      clear HW
      refine HN.out.mono ?_
      rintro e w1 ⟨rfl, hb1⟩
      have B1 := B0.below hb1 B0.lt
      have HB1 := Lib.hid (HB.out.trans (hb1.mono HB.out.size))
      clear e0 e1 e2 e3 B0 hb1 HN
      obtain ⟨y0, y1, y2, y3, f0, f1, f2, f3⟩ := blk4' B1
      have HBk := Lib.hid B1
      clear B1
      go_wp2_with fail
      go_ret2
      refine ⟨by rw [HP.out]; rfl, G, ?_, ?_⟩
      · rw [HP.out]
        obtain ⟨W9, hW9, -, hb9, -⟩ := set4 HBk.out HB1.out (Nat.le_refl _) (.slice none 0 0) (.int .u64 0) (.slice none 0 0) (.slice none 0 0)
        rw [← hW9]
        exact HJ.out.below hb9
      · obtain ⟨W9, hW9, -, hb9, -⟩ := set4 HBk.out HB1.out (Nat.le_refl _) (.slice none 0 0) (.int .u64 0) (.slice none 0 0) (.slice none 0 0)
        rw [← hW9]
        exact Moved.of_below hb9
    | true =>
      have hri := hok
      have HP : Hid (aboveP j nd label kid 0 = buildP j (withN nd label kid)) := Lib.hid (by unfold aboveP; rw [if_neg (by simp), withOk_is, hok]; rfl)
      have HN := Lib.hid (with_yes A1 A2 A3 nd.pre.length c1 nd.labels.length c2 nd.kids.length c3 nd label kid W (by omega) (by omega) (by omega) g1 g2 g3 hok)
      have hbl : (withN nd label kid).pre.length ≤ 1000 ∧ (withN nd label kid).labels.length ≤ 1000 ∧ (withN nd label kid).kids.length ≤ 1000 := by
        unfold withN ins
        simp
        omega
      generalize withN nd label kid = nd' at *
      clear hok g1 g2 g3
      go_enter Tryz.func201, Tryz.ntmps201
      go_wp2_with fail
      rw [← HW.out]
      clear HW
      refine HN.out.mono ?_
      rintro e w1 ⟨⟨A1', c1', A2', c2', A3', c3', rfl, q1, q2, q3⟩, hb1⟩
      have B1 := B0.below hb1 B0.lt
      have HB1 := Lib.hid (HB.out.trans (hb1.mono HB.out.size))
      have Q := Lib.hid (And.intro q1 (And.intro q2 q3))
      clear e0 e1 e2 e3 B0 hb1 HN q1 q2 q3
      obtain ⟨y0, y1, y2, y3, f0, f1, f2, f3⟩ := blk4' B1
      have HBk := Lib.hid B1
      clear B1
      go_wp2_with fail
      obtain ⟨W9, hW9, B9, hb9, k9⟩ := set4 HBk.out HB1.out (Nat.le_refl _) (.slice A1' nd'.pre.length c1') (.int .u64 (nd'.val.toNat : Int)) (.slice A2' nd'.labels.length c2') (.slice A3' nd'.kids.length c3')
      rw [← hW9]
      have HQ := Lib.hid (build_job (HJ.out.below hb9) nd' A1' A2' A3' c1' c2' c3' hbl.1 hbl.2.1 hbl.2.2 (rd_own (own_past Q.out.1 k9 (by omega))).2 (rd_own (own_past Q.out.2.1 k9 (by omega))).2 (rd_own (own_past Q.out.2.2 k9 (by omega))).2 hm)
      have HB9 := Lib.hid hb9
      obtain ⟨y0, y1, y2, y3, f0, f1, f2, f3⟩ := blk4' B9
      clear hb9 k9 B9 hW9
      first
        | go_wp2_with fail
        | skip
      refine HQ.out.mono ?_
      rintro e w10 ⟨rfl, hg10⟩
      have HG := Lib.hid hg10
      clear hg10
      go_wp2_with fail
      go_ret2
      rw [HP.out]
      exact (JobPost.of_below HB9.out ⟨rfl, HG.out⟩)
  · have HP : Hid (aboveP j nd label kid e = (j, 0, e)) := Lib.hid (by unfold aboveP; rw [if_pos he])
    have t1 : (e != 0) = true := by rw [bne_iff_ne]; exact he
    clear h1 h2 h3 h hW hb he
    go_enter Tryz.func201, Tryz.ntmps201
    go_wp2_with fail
    rw [← HW.out]
    go_ret2
    refine ⟨by rw [HP.out]; rfl, G, ?_, Moved.of_below HB.out⟩
    rw [HP.out]
    exact HJ.out.below HB.out
end

end Go.Proofs.YtcelabojehaioaaGreatDoor
