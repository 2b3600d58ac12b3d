import Derived.Test.YtcelabojehaioaaGreatDoorG29
/- Walks of package index: grow, where a node's nibbles are parted. Printed by gengrow.py. -/
namespace Go.Proofs.YtcelabojehaioaaGreatDoor
open Go.RowKit

section
variable {base jb x d p L : Nat}

set_option maxHeartbeats 16000000 in
set_option maxRecDepth 100000 in
theorem grow_end {w : World} {j : Jb} {G : Nat → Prop} (h : JobAt w base jb x d p L j G) (nd : Nd) (A1 A2 A3 : Option Addr) (c1 c2 c3 : Nat) (off word : Int) (lb : UInt8) (rest : List UInt8) (A : Option Addr) (c : Nat) (value : UInt64)
    (hN : NdR w G (.slice A1 nd.pre.length c1) (.int .u64 (nd.val.toNat : Int)) (.slice A2 nd.labels.length c2) (.slice A3 nd.kids.length c3) nd) (b1 : nd.pre.length ≤ 100) (b2 : nd.labels.length ≤ 100) (b3 : nd.kids.length ≤ 100)
    (hR : RdO w G A rest.length (rest.map bv)) (_ : rest.length ≤ c) (hrl : rest.length ≤ 100) (hm : j.made.length ≤ 500) (hs : common nd.pre rest < nd.pre.length) (he : common nd.pre rest = rest.length) :
    Calls Tryz.prog 151 #[.pointer (some ⟨jb, 0, none⟩), .agg #[.slice A1 nd.pre.length c1, .int .u64 (nd.val.toNat : Int), .slice A2 nd.labels.length c2, .slice A3 nd.kids.length c3, .int .i64 off, .int .u8 (lb.toNat : Int), .int .i64 word], .slice A rest.length c, .int .u64 (value.toNat : Int)] w (JobPost (growP j nd rest value) base jb x d p L G w) := by
  have hb0 : Below w.heap.size w (w.alloc (.cells #[.slice A1 nd.pre.length c1, .int .u64 (nd.val.toNat : Int), .slice A2 nd.labels.length c2, .slice A3 nd.kids.length c3, .int .i64 off, .int .u8 (lb.toNat : Int), .int .i64 word] 225)) := (Below.refl _ _).alloc (Nat.le_refl _) _
  have B0 : Blk (w.alloc (.cells #[.slice A1 nd.pre.length c1, .int .u64 (nd.val.toNat : Int), .slice A2 nd.labels.length c2, .slice A3 nd.kids.length c3, .int .i64 off, .int .u8 (lb.toNat : Int), .int .i64 word] 225)) w.heap.size 225 [.slice A1 nd.pre.length c1, .int .u64 (nd.val.toNat : Int), .slice A2 nd.labels.length c2, .slice A3 nd.kids.length c3, .int .i64 off, .int .u8 (lb.toNat : Int), .int .i64 word] := heap_alloc_new _ _
  obtain ⟨W0, hW0⟩ : ∃ W0, W0 = w.alloc (.cells #[.slice A1 nd.pre.length c1, .int .u64 (nd.val.toNat : Int), .slice A2 nd.labels.length c2, .slice A3 nd.kids.length c3, .int .i64 off, .int .u8 (lb.toNat : Int), .int .i64 word] 225) := ⟨_, rfl⟩
  rw [← hW0] at hb0 B0
  have HW := Lib.hid hW0
  obtain ⟨q1, q2, q3, hpc⟩ := hN.reads
  obtain ⟨pb, po, rfl, hpw, -⟩ := rdo_cell q1 _ hs
  obtain ⟨k, hk⟩ : ∃ k, k = common nd.pre rest := ⟨_, rfl⟩
  have hkr : k ≤ rest.length := by rw [hk]; exact common_le_right _ _
  have HC := Lib.hid (fun (W : World) (hW : Below w.heap.size w W) => common_any (some ⟨pb, po, none⟩) A nd.pre.length rest.length c1 c nd.pre rest W (by omega) (by omega) (q1.below hW).1 (hR.below hW).1)
  rw [← hk] at hs HC
  have HK : Hid (k = common nd.pre rest) := Lib.hid hk
  obtain ⟨⟨j1, kid, er⟩, hr⟩ : ∃ r, buildP j { nd with pre := nd.pre.drop (k + 1) } = r := ⟨_, rfl⟩
  have hmd := buildP_made j { nd with pre := nd.pre.drop (k + 1) }
  rw [hr] at hmd
  simp only at hmd
  have HBr := Lib.hid hr
  have HLo := Lib.hid (fun (W : World) (hW : Below w.heap.size w W) (P : Option Addr) (C : Nat) (hP : P = (if c1 = k + 1 then some (⟨pb, po, none⟩ : Addr) else some ⟨pb, po + (k + 1), none⟩)) => build_job (h.below hW) { nd with pre := nd.pre.drop (k + 1) } P A2 A3 C c2 c3 (by simp; omega) (by simp only; omega) (by simp only; omega)
    (((q1.below hW).rest rfl (by omega) hpc hP).1) (q2.below hW).1 (q3.below hW).1 (by omega))
  rw [hr] at HLo
  simp only [List.length_drop] at HLo
  have HN := Lib.hid q1
  have HR := Lib.hid hR
  have HGl := Lib.hid h.lt
  have HpC := Lib.hid hpc
  rw [← hk] at he
  have HP : Hid (growP j nd rest value = aboveP j1 ⟨nd.pre.take k, value, [], []⟩ (nd.pre.getD k 0) kid er) := Lib.hid (by rw [growP, ← hk, if_neg (by omega), hr]; simp only [if_pos he])
  have He := Lib.hid he
  clear h hN hR hr hW0 q1 q2 q3
  have t1 : ((k : Int) == (nd.pre.length : Int)) = false := by rw [beq_eq_false_iff_ne]; omega
  have hw1 : IntKind.i64.wrap ((k : Int) + 1) = (k : Int) + 1 := wrap64 _ (by omega) (by omega)
  have t2 : ((k : Int) == (rest.length : Int)) = true := by rw [beq_iff_eq]; omega
  obtain ⟨y0, y1, y2, y3, y4, y5, y6⟩ := cell7 B0
  clear hk he
  go_enter Tryz.func151, Tryz.ntmps151
  go_wp2_with fail
  rw [← HW.out]
  clear HW
  refine (HC.out W0 hb0).mono ?_
  rintro e w1 ⟨rfl, hd1⟩
  have hb1 := hb0.trans ((hd1.below W0.heap.size).mono hb0.size)
  have B1 := B0.below (hd1.below _) B0.lt
  have hs1 : w.heap.size < w1.heap.size := B1.lt
  obtain ⟨wl, hwl⟩ : ∃ wl, wl = w1.alloc (.cells #[.slice (some ⟨pb, po, none⟩) nd.pre.length c1, .int .u64 (nd.val.toNat : Int), .slice A2 nd.labels.length c2, .slice A3 nd.kids.length c3] 223) := ⟨_, rfl⟩
  have BL : Blk wl w1.heap.size 223 [.slice (some ⟨pb, po, none⟩) nd.pre.length c1, .int .u64 (nd.val.toNat : Int), .slice A2 nd.labels.length c2, .slice A3 nd.kids.length c3] := hwl ▸ heap_alloc_new _ _
  have hbl : Below w1.heap.size w1 wl := hwl ▸ (Below.refl _ _).alloc (Nat.le_refl _) _
  have HB1 := Lib.hid hb1
  have HBk := Lib.hid B1
  obtain ⟨y0, y1, y2, y3, y4, y5, y6⟩ := cell7 (B1.below hbl B1.lt)
  obtain ⟨z0, z1, z2, z3, zf0, zf1, zf2, zf3⟩ := blk4' BL
  obtain ⟨x0, x1, x2, x3, x4, x5, x6⟩ := cell7 B1
  rw [hwl] at y0 y1 y2 y3 y4 y5 y6 z0 z1 z2 z3 zf0 zf1 zf2 zf3
  have hne : w.heap.size ≠ w1.heap.size := by omega
  have hne' : w1.heap.size ≠ w.heap.size := by omega
  clear B0 hb0 hd1 hb1 B1 BL hbl hwl
  go_wp2_with fail
  all_goals (refine (HLo.out _ (HB1.out.alloc HB1.out.size _) _ _ (by split <;> first | rfl | omega)).mono ?_)
  all_goals (rintro e w2 ⟨rfl, G2, hj2, hm2⟩)
  all_goals (have HM2 := Lib.hid ((Moved.of_below (F := G) (HB1.out.alloc HB1.out.size _)).trans hm2))
  all_goals (have B2 := (HBk.out.below ((Below.refl _ _).alloc (Nat.le_refl _) _) HBk.out.lt).touch hm2.touch (fun hg => by have := HGl.out _ hg; omega))
  all_goals (have hpre := HN.out.moved HM2.out)
  all_goals (obtain ⟨b', o', e', hpb, hck⟩ := rdo_cell hpre k hs)
  all_goals (injection e' with e'; injection e' with e1 e2; subst e1 e2)
  all_goals (clear y0 y1 y2 y3 y4 y5 y6 z0 z1 z2 z3 zf0 zf1 zf2 zf3 x0 x1 x2 x3 x4 x5 x6 HLo hm2 hne hne')
  all_goals (have hln : (nd.pre.take k).length = k := by simp; omega)
  all_goals (have htk : RdO w2 G2 (some ⟨pb, po, none⟩) k ((nd.pre.take k).map bv) := by have := hpre.take k (by omega); rwa [← List.map_take] at this)
  all_goals (have hs2 : w.heap.size < w2.heap.size := B2.lt)
  all_goals (have hne : w.heap.size ≠ w2.heap.size := by omega)
  all_goals (have hne' : w2.heap.size ≠ w.heap.size := by omega)
  all_goals (obtain ⟨x0, x1, x2, x3, x4, x5, x6⟩ := cell7 B2)
  all_goals (obtain ⟨wt, hwt⟩ : ∃ wt, wt = w2.alloc (.cells #[.slice (some ⟨pb, po, none⟩) k k, .int .u64 0, .slice none 0 0, .slice none 0 0] 223) := ⟨_, rfl⟩)
  all_goals (have BT : Blk wt w2.heap.size 223 [.slice (some ⟨pb, po, none⟩) k k, .int .u64 0, .slice none 0 0, .slice none 0 0] := hwt ▸ heap_alloc_new _ _)
  all_goals (have hbt : Below w2.heap.size w2 wt := hwt ▸ (Below.refl _ _).alloc (Nat.le_refl _) _)
  all_goals (have B2t := B2.below hbt B2.lt)
  all_goals (obtain ⟨y0, y1, y2, y3, y4, y5, y6⟩ := cell7 B2t)
  all_goals (obtain ⟨z0, z1, z2, z3, zf0, zf1, zf2, zf3⟩ := blk4' BT)
  all_goals (have hckt := (hbt.cell (p := ⟨pb, po + k, none⟩) hpb).trans hck)
  all_goals (rw [hwt] at y0 y1 y2 y3 y4 y5 y6 z0 z1 z2 z3 zf0 zf1 zf2 zf3 hckt)
  all_goals (obtain ⟨wv', hwv⟩ : ∃ wv', wv' = w2.alloc (.cells #[.slice (some ⟨pb, po, none⟩) k k, .int .u64 (value.toNat : Int), .slice none 0 0, .slice none 0 0] 223) := ⟨_, rfl⟩)
  all_goals (have BV : Blk wv' w2.heap.size 223 [.slice (some ⟨pb, po, none⟩) k k, .int .u64 (value.toNat : Int), .slice none 0 0, .slice none 0 0] := hwv ▸ heap_alloc_new _ _)
  all_goals (have hbv : Below w2.heap.size w2 wv' := hwv ▸ (Below.refl _ _).alloc (Nat.le_refl _) _)
  all_goals (obtain ⟨v0, v1, v2, v3, v4, v5, v6⟩ := cell7 (B2.below hbv B2.lt))
  all_goals (obtain ⟨u0, u1, u2, u3, -⟩ := blk4' BV)
  all_goals (have hckv := (hbv.cell (p := ⟨pb, po + k, none⟩) hpb).trans hck)
  all_goals (rw [hwv] at v0 v1 v2 v3 v4 v5 v6 u0 u1 u2 u3 hckv)
  all_goals (have hab := fun (W : World) (hW : Below w2.heap.size w2 W) => above_job (hj2.below hW) ⟨nd.pre.take k, value, [], []⟩ (some ⟨pb, po, none⟩) none none k 0 0 (nd.pre.getD k 0) kid er (by show (nd.pre.take k).length ≤ 100; omega) (by simp) (by simp) (by show Rd W _ (nd.pre.take k).length _; rw [hln]; exact (htk.below hW).1) Rd.nil Rd.nil (by show j1.made.length ≤ 1000; omega))
  all_goals (replace hab := Lib.hid hab)
  all_goals (rw [hln] at hab)
  all_goals (have HBv := Lib.hid (hwv ▸ hbv))
  all_goals (generalize nd.pre.getD k 0 = lab at *)
  all_goals (generalize nd.pre.take k = prk at *)
  all_goals (clear hj2 B2 B2t BT BV hbt hbv hwt hwv hln htk hpre hck)
  all_goals (have hx1 : (k : Int) < (nd.pre.length : Int) := by omega)
  all_goals (have hx2 : decide ((k : Int) < (nd.pre.length : Int)) = true := decide_eq_true hx1)
  all_goals (go_wp2_with fail)
  all_goals (go_region_with (go_at_call 201; go_loud (refine (hab.out _ (HBv.out.trans ((Dr.drew _).below _))).mono ?_; rintro e w3 ⟨rfl, G3, q1, q2⟩)))
  all_goals (have HF := Lib.hid (And.intro q1 (HM2.out.trans ((Moved.of_below (HBv.out.trans ((Dr.drew _).below _))).trans q2))))
  all_goals (clear q1 q2)
  all_goals (go_wp2_with fail)
  all_goals (go_ret2)
  all_goals (rw [HP.out])
  all_goals (exact ⟨rfl, G3, HF.out.1, HF.out.2⟩)

set_option maxHeartbeats 16000000 in
set_option maxRecDepth 100000 in
theorem grow_err {w : World} {j : Jb} {G : Nat → Prop} (h : JobAt w base jb x d p L j G) (nd : Nd) (A1 A2 A3 : Option Addr) (c1 c2 c3 : Nat) (off word : Int) (lb : UInt8) (rest : List UInt8) (A : Option Addr) (c : Nat) (value : UInt64)
    (hN : NdR w G (.slice A1 nd.pre.length c1) (.int .u64 (nd.val.toNat : Int)) (.slice A2 nd.labels.length c2) (.slice A3 nd.kids.length c3) nd) (b1 : nd.pre.length ≤ 100) (b2 : nd.labels.length ≤ 100) (b3 : nd.kids.length ≤ 100)
    (hR : RdO w G A rest.length (rest.map bv)) (_ : rest.length ≤ c) (hrl : rest.length ≤ 100) (hm : j.made.length ≤ 500) (hs : common nd.pre rest < nd.pre.length) (hlt : common nd.pre rest < rest.length) (her : (buildP j { nd with pre := nd.pre.drop (common nd.pre rest + 1) }).2.2 ≠ 0) :
    Calls Tryz.prog 151 #[.pointer (some ⟨jb, 0, none⟩), .agg #[.slice A1 nd.pre.length c1, .int .u64 (nd.val.toNat : Int), .slice A2 nd.labels.length c2, .slice A3 nd.kids.length c3, .int .i64 off, .int .u8 (lb.toNat : Int), .int .i64 word], .slice A rest.length c, .int .u64 (value.toNat : Int)] w (JobPost (growP j nd rest value) base jb x d p L G w) := by
  have hb0 : Below w.heap.size w (w.alloc (.cells #[.slice A1 nd.pre.length c1, .int .u64 (nd.val.toNat : Int), .slice A2 nd.labels.length c2, .slice A3 nd.kids.length c3, .int .i64 off, .int .u8 (lb.toNat : Int), .int .i64 word] 225)) := (Below.refl _ _).alloc (Nat.le_refl _) _
  have B0 : Blk (w.alloc (.cells #[.slice A1 nd.pre.length c1, .int .u64 (nd.val.toNat : Int), .slice A2 nd.labels.length c2, .slice A3 nd.kids.length c3, .int .i64 off, .int .u8 (lb.toNat : Int), .int .i64 word] 225)) w.heap.size 225 [.slice A1 nd.pre.length c1, .int .u64 (nd.val.toNat : Int), .slice A2 nd.labels.length c2, .slice A3 nd.kids.length c3, .int .i64 off, .int .u8 (lb.toNat : Int), .int .i64 word] := heap_alloc_new _ _
  obtain ⟨W0, hW0⟩ : ∃ W0, W0 = w.alloc (.cells #[.slice A1 nd.pre.length c1, .int .u64 (nd.val.toNat : Int), .slice A2 nd.labels.length c2, .slice A3 nd.kids.length c3, .int .i64 off, .int .u8 (lb.toNat : Int), .int .i64 word] 225) := ⟨_, rfl⟩
  rw [← hW0] at hb0 B0
  have HW := Lib.hid hW0
  obtain ⟨q1, q2, q3, hpc⟩ := hN.reads
  obtain ⟨pb, po, rfl, hpw, -⟩ := rdo_cell q1 _ hs
  obtain ⟨k, hk⟩ : ∃ k, k = common nd.pre rest := ⟨_, rfl⟩
  have hkr : k ≤ rest.length := by rw [hk]; exact common_le_right _ _
  have HC := Lib.hid (fun (W : World) (hW : Below w.heap.size w W) => common_any (some ⟨pb, po, none⟩) A nd.pre.length rest.length c1 c nd.pre rest W (by omega) (by omega) (q1.below hW).1 (hR.below hW).1)
  rw [← hk] at hs HC
  have HK : Hid (k = common nd.pre rest) := Lib.hid hk
  obtain ⟨⟨j1, kid, er⟩, hr⟩ : ∃ r, buildP j { nd with pre := nd.pre.drop (k + 1) } = r := ⟨_, rfl⟩
  have hmd := buildP_made j { nd with pre := nd.pre.drop (k + 1) }
  rw [hr] at hmd
  simp only at hmd
  have HBr := Lib.hid hr
  have HLo := Lib.hid (fun (W : World) (hW : Below w.heap.size w W) (P : Option Addr) (C : Nat) (hP : P = (if c1 = k + 1 then some (⟨pb, po, none⟩ : Addr) else some ⟨pb, po + (k + 1), none⟩)) => build_job (h.below hW) { nd with pre := nd.pre.drop (k + 1) } P A2 A3 C c2 c3 (by simp; omega) (by simp only; omega) (by simp only; omega)
    (((q1.below hW).rest rfl (by omega) hpc hP).1) (q2.below hW).1 (q3.below hW).1 (by omega))
  rw [hr] at HLo
  simp only [List.length_drop] at HLo
  have HN := Lib.hid q1
  have HR := Lib.hid hR
  have HGl := Lib.hid h.lt
  have HpC := Lib.hid hpc
  rw [← hk] at hlt her
  rw [hr] at her
  simp only at her
  have HP : Hid (growP j nd rest value = (j1, 0, er)) := Lib.hid (by rw [growP, ← hk, if_neg (by omega), hr]; simp only; rw [if_neg (by omega), if_pos her])
  have te : (er != 0) = true := by rw [bne_iff_ne]; exact her
  clear her
  clear h hN hR hr hW0 q1 q2 q3
  have t1 : ((k : Int) == (nd.pre.length : Int)) = false := by rw [beq_eq_false_iff_ne]; omega
  have hw1 : IntKind.i64.wrap ((k : Int) + 1) = (k : Int) + 1 := wrap64 _ (by omega) (by omega)
  have t2 : ((k : Int) == (rest.length : Int)) = false := by rw [beq_eq_false_iff_ne]; omega
  obtain ⟨y0, y1, y2, y3, y4, y5, y6⟩ := cell7 B0
  clear hk
  go_enter Tryz.func151, Tryz.ntmps151
  go_wp2_with fail
  rw [← HW.out]
  clear HW
  refine (HC.out W0 hb0).mono ?_
  rintro e w1 ⟨rfl, hd1⟩
  have hb1 := hb0.trans ((hd1.below W0.heap.size).mono hb0.size)
  have B1 := B0.below (hd1.below _) B0.lt
  have hs1 : w.heap.size < w1.heap.size := B1.lt
  obtain ⟨wl, hwl⟩ : ∃ wl, wl = w1.alloc (.cells #[.slice (some ⟨pb, po, none⟩) nd.pre.length c1, .int .u64 (nd.val.toNat : Int), .slice A2 nd.labels.length c2, .slice A3 nd.kids.length c3] 223) := ⟨_, rfl⟩
  have BL : Blk wl w1.heap.size 223 [.slice (some ⟨pb, po, none⟩) nd.pre.length c1, .int .u64 (nd.val.toNat : Int), .slice A2 nd.labels.length c2, .slice A3 nd.kids.length c3] := hwl ▸ heap_alloc_new _ _
  have hbl : Below w1.heap.size w1 wl := hwl ▸ (Below.refl _ _).alloc (Nat.le_refl _) _
  have HB1 := Lib.hid hb1
  have HBk := Lib.hid B1
  obtain ⟨y0, y1, y2, y3, y4, y5, y6⟩ := cell7 (B1.below hbl B1.lt)
  obtain ⟨z0, z1, z2, z3, zf0, zf1, zf2, zf3⟩ := blk4' BL
  obtain ⟨x0, x1, x2, x3, x4, x5, x6⟩ := cell7 B1
  rw [hwl] at y0 y1 y2 y3 y4 y5 y6 z0 z1 z2 z3 zf0 zf1 zf2 zf3
  have hne : w.heap.size ≠ w1.heap.size := by omega
  have hne' : w1.heap.size ≠ w.heap.size := by omega
  clear B0 hb0 hd1 hb1 B1 BL hbl hwl
  go_wp2_with fail
  all_goals (refine (HLo.out _ (HB1.out.alloc HB1.out.size _) _ _ (by split <;> first | rfl | omega)).mono ?_)
  all_goals (rintro e w2 ⟨rfl, G2, hj2, hm2⟩)
  all_goals (have HM2 := Lib.hid ((Moved.of_below (F := G) (HB1.out.alloc HB1.out.size _)).trans hm2))
  all_goals (have B2 := (HBk.out.below ((Below.refl _ _).alloc (Nat.le_refl _) _) HBk.out.lt).touch hm2.touch (fun hg => by have := HGl.out _ hg; omega))
  all_goals (have hpre := HN.out.moved HM2.out)
  all_goals (obtain ⟨b', o', e', hpb, hck⟩ := rdo_cell hpre k hs)
  all_goals (injection e' with e'; injection e' with e1 e2; subst e1 e2)
  all_goals (clear y0 y1 y2 y3 y4 y5 y6 z0 z1 z2 z3 zf0 zf1 zf2 zf3 x0 x1 x2 x3 x4 x5 x6 HLo hm2 hne hne')
  all_goals (have hln : (nd.pre.take k).length = k := by simp; omega)
  all_goals (have htk : RdO w2 G2 (some ⟨pb, po, none⟩) k ((nd.pre.take k).map bv) := by have := hpre.take k (by omega); rwa [← List.map_take] at this)
  all_goals (have hs2 : w.heap.size < w2.heap.size := B2.lt)
  all_goals (have hne : w.heap.size ≠ w2.heap.size := by omega)
  all_goals (have hne' : w2.heap.size ≠ w.heap.size := by omega)
  all_goals (obtain ⟨x0, x1, x2, x3, x4, x5, x6⟩ := cell7 B2)
  all_goals (obtain ⟨wt, hwt⟩ : ∃ wt, wt = w2.alloc (.cells #[.slice (some ⟨pb, po, none⟩) k k, .int .u64 0, .slice none 0 0, .slice none 0 0] 223) := ⟨_, rfl⟩)
  all_goals (have BT : Blk wt w2.heap.size 223 [.slice (some ⟨pb, po, none⟩) k k, .int .u64 0, .slice none 0 0, .slice none 0 0] := hwt ▸ heap_alloc_new _ _)
  all_goals (have hbt : Below w2.heap.size w2 wt := hwt ▸ (Below.refl _ _).alloc (Nat.le_refl _) _)
  all_goals (have B2t := B2.below hbt B2.lt)
  all_goals (obtain ⟨y0, y1, y2, y3, y4, y5, y6⟩ := cell7 B2t)
  all_goals (obtain ⟨z0, z1, z2, z3, zf0, zf1, zf2, zf3⟩ := blk4' BT)
  all_goals (have hckt := (hbt.cell (p := ⟨pb, po + k, none⟩) hpb).trans hck)
  all_goals (rw [hwt] at y0 y1 y2 y3 y4 y5 y6 z0 z1 z2 z3 zf0 zf1 zf2 zf3 hckt)
  all_goals (have HBv := Lib.hid (hwt ▸ hbt))
  all_goals (have HJ2 := Lib.hid hj2)
  all_goals (clear hj2 B2 B2t BT hbt hwt hln htk hpre hck)
  all_goals (go_wp2_with fail)
  all_goals (go_ret2)
  all_goals (refine ⟨by rw [HP.out]; rfl, G2, ?_, HM2.out.trans (Moved.of_below HBv.out)⟩)
  all_goals (rw [HP.out])
  all_goals (exact HJ2.out.below HBv.out)
end

end Go.Proofs.YtcelabojehaioaaGreatDoor
