import Derived.Test.YtcelabojehaioaaGreatDoorG17
/- Walks of package index: value, build. -/
namespace Go.Proofs.YtcelabojehaioaaGreatDoor
open Go.RowKit

theorem Tryz.intsTyK : RowTyK Tryz.prog 69 3 (.int .i64 0) 1 8 := ⟨Tryz.underlying69, by kernel_rfl, rfl⟩

section
variable {w w' : World} {x d p L : Nat} {s : St} {F : Nat → Prop}

set_option maxHeartbeats 4000000 in
theorem value_index (h : Ix w x d p L s F) (pl : Pl) (hp : PlOk L pl) (A1 A2 A3 : Option Addr) (n1 c1 n2 c2 n3 c3 : Nat) (n : UInt64) :
    Calls Tryz.prog 148 #[.pointer (some ⟨x, 0, none⟩), .agg #[.slice A1 n1 c1, .int .u64 (pl.nd.val.toNat : Int), .slice A2 n2 c2, .slice A3 n3 c3, .int .i64 pl.off, .int .u8 (pl.label.toNat : Int), .int .i64 pl.word], .int .u64 (n.toNat : Int)] w fun e w' =>
      e = .returned (.int .i64 0) ∧ ∃ F', Ix w' x d p L (valueP s pl n) F' ∧ Moved F F' w w' := by
  obtain ⟨o, ho, hol⟩ := hp.off
  obtain ⟨l0, l1, ok, hntk⟩ := h.L0
  have hb0 : Below w.heap.size w (w.alloc (.cells #[.slice A1 n1 c1, .int .u64 (pl.nd.val.toNat : Int), .slice A2 n2 c2, .slice A3 n3 c3, .int .i64 pl.off, .int .u8 (pl.label.toNat : Int), .int .i64 pl.word] 225)) := (Below.refl _ _).alloc (Nat.le_refl _) _
  have HP := Lib.hid (fun (W : World) (hW : Below w.heap.size w W) => sys_put (h.below hW).sys (o + 2) n (by omega))
  rw [show ((8 * (o + 2) : Nat) : Int) = pl.off + 16 by omega] at HP
  have HX := Lib.hid h
  have hval : valueP s pl n = { s with ws := put1 s.ws (o + 2) n } := by unfold valueP; rw [ho, show ((8 * o : Nat) : Int).toNat / 8 = o by omega]
  have HV := Lib.hid hval
  have hw1 : IntKind.i64.wrap (pl.off + 16) = pl.off + 16 := wrap64 _ (by omega) (by omega)
  have y0 := (hb0.cell (p := ⟨x, 0, none⟩) h.box.lt).trans (h.box.cell 0)
  simp only [List.getElem?_cons_zero] at y0
  have B0 : Blk (w.alloc (.cells #[.slice A1 n1 c1, .int .u64 (pl.nd.val.toNat : Int), .slice A2 n2 c2, .slice A3 n3 c3, .int .i64 pl.off, .int .u8 (pl.label.toNat : Int), .int .i64 pl.word] 225)) w.heap.size 225 [.slice A1 n1 c1, .int .u64 (pl.nd.val.toNat : Int), .slice A2 n2 c2, .slice A3 n3 c3, .int .i64 pl.off, .int .u8 (pl.label.toNat : Int), .int .i64 pl.word] := heap_alloc_new _ _
  have y4 := (cell7 B0).2.2.2.2.1
  have hoff : 0 ≤ pl.off ∧ pl.off ≤ 65536 := by omega
  generalize pl.off = off at *
  clear h hval hp ho hol ok hntk B0
  go_enter Tryz.func148, Tryz.ntmps148
  go_wp2_with fail
  generalize w.alloc (.cells #[.slice A1 n1 c1, .int .u64 (pl.nd.val.toNat : Int), .slice A2 n2 c2, .slice A3 n3 c3, .int .i64 off, .int .u8 (pl.label.toNat : Int), .int .i64 pl.word] 225) = W0 at *
  go_region_with (go_at_call 59; go_loud (refine (HP.out _ (hb0.trans ((Dr.drew _).below _))).mono ?_; rintro e w8 ⟨rfl, F', hs8, hm8⟩))
  all_goals (go_wp2_with fail)
  all_goals (go_ret)
  all_goals (have hm := (Moved.of_below (F := F) (hb0.trans ((Dr.drew W0).below _))).trans hm8)
  all_goals (exact ⟨rfl, F', by rw [HV.out]; exact HX.out.move hs8 hm, hm⟩)
end

/-- What a call that builds answers, and leaves. -/
def JobPost (r : Jb × UInt64 × Int) (base jb x d p L : Nat) (G : Nat → Prop) (w : World) (e : Ending) (w' : World) : Prop :=
  e = .returned (.tuple #[.int .u64 (r.2.1.toNat : Int), .int .i64 r.2.2]) ∧ ∃ G', JobAt w' base jb x d p L r.1 G' ∧ Moved G G' w w'

section
variable {w w' : World} {base jb x d p L : Nat} {j : Jb} {G : Nat → Prop}

set_option maxHeartbeats 8000000 in
set_option maxRecDepth 100000 in
theorem build_job (h : JobAt w base jb x d p L j G) (nd : Nd) (A1 A2 A3 : Option Addr) (c1 c2 c3 : Nat) (b1 : nd.pre.length ≤ 1000) (b2 : nd.labels.length ≤ 1000) (b3 : nd.kids.length ≤ 1000)
    (h1 : Bs w A1 nd.pre.length nd.pre) (h2 : Bs w A2 nd.labels.length nd.labels) (h3 : Ws w A3 nd.kids.length nd.kids) (hm : j.made.length ≤ 1000) :
    Calls Tryz.prog 200 #[.pointer (some ⟨jb, 0, none⟩), .agg #[.slice A1 nd.pre.length c1, .int .u64 (nd.val.toNat : Int), .slice A2 nd.labels.length c2, .slice A3 nd.kids.length c3]] w (JobPost (buildP j nd) base jb x d p L G w) := by
  obtain ⟨W, hW, e0, e1, e2, e3, hb, hs⟩ := box4 w 223 (.slice A1 nd.pre.length c1) (.int .u64 (nd.val.toNat : Int)) (.slice A2 nd.labels.length c2) (.slice A3 nd.kids.length c3)
  have HW := Lib.hid hW
  have HE := Lib.hid (encode_node A1 A2 A3 nd.pre.length c1 nd.labels.length c2 nd.kids.length c3 nd W (by omega) (by omega) (by omega) (h1.below hb) (h2.below hb) (h3.below hb))
  have HJ := Lib.hid h
  have HB := Lib.hid hb
  clear hW h hb h1 h2 h3
  cases hR : rightB nd with
  | false =>
    have HP : Hid (buildP j nd = (j, 0, 5)) := Lib.hid (by unfold buildP; rw [hR]; rfl)
    go_enter Tryz.func200, Tryz.ntmps200
    go_wp2_with fail
    rw [← HW.out]
    clear HW
    refine HE.out.mono ?_
    rintro e w1 ⟨hb1, hp1⟩
    rw [hR] at hp1
    replace hp1 : e = .returned (.tuple #[.slice none 0 0, .bool false]) := hp1
    subst hp1
    have HB1 := Lib.hid (HB.out.trans (hb1.mono HB.out.size))
    clear hb1 HE e0 e1 e2 e3
    go_wp2_with fail
    go_ret2
    refine ⟨by rw [HP.out]; rfl, G, ?_, Moved.of_below HB1.out⟩
    rw [HP.out]
    exact HJ.out.below HB1.out
  | true =>
    obtain ⟨F, v, hj, hG⟩ := HJ.out
    obtain ⟨l0, l1, ok, hntk⟩ := hj.ix.L0
    have hbj := HB.out
    have hjW := hj.below HB.out
    have ho := Lib.hid hR
    have hcl : (if nd.kids.length ≤ 4 then (1 : Int) else 2) = ((classN nd : Nat) : Int) := by unfold classN; split <;> rfl
    have HC := Lib.hid (fun (W' : World) (v1 v2 v3 : Value) => class_any v1 v2 v3 A3 nd.kids.length c3 W' (by omega))
    rw [hcl] at HC
    have HRs := Lib.hid (fun (W' : World) (hW : Below W.heap.size W W') => reserve_pool (hjW.below hW).ix.sys (classN nd) (by have := classN_or nd; omega) (by have := classN_or nd; omega))
    have HJW := Lib.hid hjW
    have HG := Lib.hid hG
    have y0 := hjW.box.cell 0
    have y1 := hjW.box.cell 1
    have u0 := hjW.ix.box.cell 0
    have u1 := hjW.ix.box.cell 1
    simp only [List.getElem?_cons_zero, List.getElem?_cons_succ] at y0 y1 u0 u1
    have hjl := hjW.box.lt
    have hxl := hjW.ix.box.lt
    have hwl : w.heap.size < W.heap.size := by omega
    have HOk := Lib.hid ok
    have HNt := Lib.hid hntk
    clear hj hG hjW hbj hcl ok hntk hR
    cases hres : reserveP j.s (classN nd) with
    | none =>
      have HV : Hid (resV j.s (classN nd) = .tuple #[.int .i64 0, .int .i64 6]) := Lib.hid (by unfold resV; rw [hres])
      have HS : Hid (resS j.s (classN nd) = j.s) := Lib.hid (by unfold resS; rw [hres])
      have HP : Hid (buildP j nd = (j, 0, 6)) := Lib.hid (by unfold buildP; rw [ho.out, hres]; rfl)
      rw [HV.out, HS.out] at HRs
      clear HV HS hres
      go_enter Tryz.func200, Tryz.ntmps200
      go_wp2_with fail
      rw [← HW.out]
      clear HW
      refine HE.out.mono ?_
      rintro e w1 ⟨hb1, hp1⟩
      rw [ho.out, if_pos rfl] at hp1
      obtain ⟨vr, rfl, hor⟩ := hp1
      obtain ⟨Ar, cr, rfl, hcr, hrr⟩ := rd_of_own hor
      have HB1 := Lib.hid hb1
      replace y0 := (hb1.cell (p := ⟨jb, 0, none⟩) hjl).trans y0
      replace y1 := (hb1.cell (p := ⟨jb, 1, none⟩) hjl).trans y1
      replace u0 := (hb1.cell (p := ⟨x, 0, none⟩) hxl).trans u0
      replace u1 := (hb1.cell (p := ⟨x, 1, none⟩) hxl).trans u1
      replace e0 := (hb1.cell (p := ⟨w.heap.size, 0, none⟩) hwl).trans e0
      replace e1 := (hb1.cell (p := ⟨w.heap.size, 1, none⟩) hwl).trans e1
      replace e2 := (hb1.cell (p := ⟨w.heap.size, 2, none⟩) hwl).trans e2
      replace e3 := (hb1.cell (p := ⟨w.heap.size, 3, none⟩) hwl).trans e3
      have hjl1 : jb < w1.heap.size := Nat.lt_of_lt_of_le hjl hb1.size
      have hxl1 : x < w1.heap.size := Nat.lt_of_lt_of_le hxl hb1.size
      clear hb1 HE hor hrr
      go_wp2_with fail
      go_region_with (first
        | (go_at_call 210; go_loud (refine (HC.out _ _ _ _).mono ?_; rintro e w2 ⟨rfl, hb2⟩; have z0 := (hb2.cell (p := ⟨jb, 0, none⟩) hjl1).trans y0; have z1 := (hb2.cell (p := ⟨x, 1, none⟩) hxl1).trans u1; have hB2 := (HB1.out.trans (((Dr.drew w1).below W.heap.size))).trans (hb2.mono HB1.out.size)))
        | (go_at_call 145; go_loud (refine (HRs.out _ hB2).mono ?_; rintro e w3 ⟨rfl, hs3, hm3⟩)))
      all_goals (obtain ⟨G', q1, q2, q3⟩ := (HJW.out.below hB2).move HG.out hs3 hm3)
      all_goals (have HF : Hid (∃ G', JobAt w3 base jb x d p L j G' ∧ Moved G G' w w3) := Lib.hid ⟨G', ⟨F, v, q1, q2⟩, (Moved.of_below (HB.out.trans (hB2.mono HB.out.size))).trans q3⟩)
      all_goals (clear q1 q2 q3 hs3 hm3 hB2 z0 z1 hb2)
      all_goals (go_wp2_with fail)
      all_goals (go_ret2)
      all_goals (refine ⟨by rw [HP.out]; rfl, ?_⟩)
      all_goals (rw [HP.out])
      all_goals (exact HF.out)
    | some os =>
      obtain ⟨off, s1⟩ := os
      obtain ⟨o, ho8, hol⟩ := reserve_at HOk.out HNt.out (classN_or nd) hres
      have HV : Hid (resV j.s (classN nd) = .tuple #[.int .i64 (off : Int), .int .i64 0]) := Lib.hid (by unfold resV; rw [hres])
      have HS : Hid (resS j.s (classN nd) = s1) := Lib.hid (by unfold resS; rw [hres])
      obtain ⟨T, hT⟩ : ∃ T, T = takeP { s1 with ws := putWs s1.ws (off / 8) (encW nd) } (off : Int) := ⟨_, rfl⟩
      have HP : Hid (buildP j nd = if T.2 = 0 then (⟨T.1, j.made ++ [(off : Int)]⟩, UInt64.ofNat off, 0) else (⟨T.1, j.made ++ [(off : Int)]⟩, 0, T.2)) := Lib.hid (by unfold buildP; rw [ho.out, hres, hT]; rfl)
      rw [HV.out, HS.out] at HRs
      have hoff : (off : Int) ≤ 65536 := by omega
      have hlen := encW_lines nd
      have HT := Lib.hid hT
      have HO8 := Lib.hid ho8
      have HOl := Lib.hid hol
      have HLen := Lib.hid hlen
      have HEl : Hid (0 < (encW nd).length) := Lib.hid (by rw [hlen]; rcases classN_or nd with e | e <;> rw [e] <;> decide)
      have HU : Hid (((UInt64.ofNat off).toNat : Int) = (off : Int)) := Lib.hid (by rw [UInt64.toNat_ofNat']; omega)
      have hwu : IntKind.u64.wrap (off : Int) = (off : Int) := by
        exact IntWalk.u64_in _ (by omega)
      have HGl := Lib.hid HJ.out.lt
      clear hlen hol hT ho8
      clear HV HS hres
      go_enter Tryz.func200, Tryz.ntmps200
      go_wp2_with fail
      rw [← HW.out]
      clear HW
      refine HE.out.mono ?_
      rintro e w1 ⟨hb1, hp1⟩
      rw [ho.out, if_pos rfl] at hp1
      obtain ⟨vr, rfl, hor⟩ := hp1
      obtain ⟨Ar, cr, rfl, hcr, hrr⟩ := rd_of_own hor
      have HB1 := Lib.hid hb1
      replace y0 := (hb1.cell (p := ⟨jb, 0, none⟩) hjl).trans y0
      replace y1 := (hb1.cell (p := ⟨jb, 1, none⟩) hjl).trans y1
      replace u0 := (hb1.cell (p := ⟨x, 0, none⟩) hxl).trans u0
      replace u1 := (hb1.cell (p := ⟨x, 1, none⟩) hxl).trans u1
      replace e0 := (hb1.cell (p := ⟨w.heap.size, 0, none⟩) hwl).trans e0
      replace e1 := (hb1.cell (p := ⟨w.heap.size, 1, none⟩) hwl).trans e1
      replace e2 := (hb1.cell (p := ⟨w.heap.size, 2, none⟩) hwl).trans e2
      replace e3 := (hb1.cell (p := ⟨w.heap.size, 3, none⟩) hwl).trans e3
      have hjl1 : jb < w1.heap.size := Nat.lt_of_lt_of_le hjl hb1.size
      have hxl1 : x < w1.heap.size := Nat.lt_of_lt_of_le hxl hb1.size
      have HRow : Hid (RdO w1 G Ar (encW nd).length ((encW nd).map wv)) := Lib.hid (RdO.of_own hor (fun b hb1' _ hg => by have := HGl.out b hg; have := HB.out.size; omega))
      clear hb1 HE hor hrr
      go_wp2_with fail
      go_region_with (first
        | (go_at_call 210; go_loud (refine (HC.out _ _ _ _).mono ?_; rintro e w2 ⟨rfl, hb2⟩; have z0 := (hb2.cell (p := ⟨jb, 0, none⟩) hjl1).trans y0; have z1 := (hb2.cell (p := ⟨x, 1, none⟩) hxl1).trans u1; have hB2 := (HB1.out.trans (((Dr.drew w1).below W.heap.size))).trans (hb2.mono HB1.out.size)))
        | (go_at_call 145; go_loud (refine (HRs.out _ hB2).mono ?_; rintro e w3 ⟨rfl, hs3, hm3⟩)))
      all_goals (obtain ⟨G', q1, q2, q3⟩ := (HJW.out.below hB2).move HG.out hs3 hm3)
      all_goals (have HM3 : Hid (Moved G G' w w3) := Lib.hid ((Moved.of_below (HB.out.trans (hB2.mono HB.out.size))).trans q3))
      all_goals (have HR3 : Hid (RdO w3 G' Ar (encW nd).length ((encW nd).map wv)) := Lib.hid ((HRow.out.below (((Dr.drew w1).below w1.heap.size).trans hb2)).moved q3))
      all_goals (have HJ3 := Lib.hid q1)
      all_goals (have HG3 := Lib.hid q2)
      all_goals (clear q1 q2 q3 hs3 hm3 hB2 z0 z1 hb2 y0 y1 u0 u1 e0 e1 e2 e3 hjl1 hxl1 HRow)
      all_goals (have y0 := HJ3.out.box.cell 0)
      all_goals (have y1 := HJ3.out.box.cell 1)
      all_goals (simp only [List.getElem?_cons_zero, List.getElem?_cons_succ] at y0 y1)
      all_goals (have u0 := HJ3.out.ix.box.cell 0)
      all_goals (simp only [List.getElem?_cons_zero] at u0)
      all_goals (have hxj := HJ3.out.xj)
      all_goals (have hjx : jb ≠ x := fun e => hxj e.symm)
      all_goals (have HRw := Lib.hid HJ3.out.row)
      all_goals (have hbs3 : base ≤ w3.heap.size := Nat.le_of_lt (Nat.lt_of_le_of_lt HJ3.out.bj HJ3.out.box.lt))
      all_goals (have hmm : j.made.length ≤ 1000000 := by omega)
      all_goals (clear HC HRs HB1 HB HJW)
      all_goals (go_wp2_with (at_builtin; refine wpList_app_one rfl (.tmp 39) (.tmp 41) 69 rfl Tryz.intsTyK w3 base v j.made.length (j.made.map zv) [zv (off : Int)] rfl HRw.out rfl w3.heap.size 1 rfl rfl rfl (by decide) (by simp [zv, Value.oneCell']) hmm (by decide) hbs3 ?_; intro g6 c6 w6 hO6 hB6 hK6 hg6; have B6 : Blk w6 jb 272 [.pointer (some ⟨x, 0, none⟩), v] := (hK6.2 jb HJ3.out.box.lt (fun e => HJ3.out.mj e.symm)).trans HJ3.out.box; have X6 : Blk w6 x 184 [.pointer (some ⟨d, 0, none⟩), .pointer (some ⟨p, 0, none⟩)] := (hK6.2 x HJ3.out.ix.box.lt (fun e => HJ3.out.mx e.symm)).trans HJ3.out.ix.box; have z0 := B6.cell 0; have z1 := B6.cell 1; have fz1 := B6.frozen 1; have s0 := X6.cell 0; have s1 := X6.cell 1; simp only [List.getElem?_cons_zero, List.getElem?_cons_succ] at z0 z1 s0 s1))
      all_goals (obtain ⟨G7, q1, q2, q3⟩ := HJ3.out.app HG3.out (o := (off : Int)) (by omega) hO6 hB6 hK6 hg6)
      all_goals (obtain ⟨W7, hW7⟩ : ∃ W7, W7 = w6.setCell ⟨jb, 1, none⟩ (.slice (some ⟨g6, 0, none⟩) (j.made.length + 1) c6) := ⟨_, rfl⟩)
      all_goals (rw [← hW7] at q1 q3 ⊢)
      all_goals (have HPA := sys_putAll q1.ix.sys o (encW nd).length cr Ar (encW nd) (by have := HOl.out; have := HLen.out; omega) HEl.out (HR3.out.moved q3).1)
      all_goals (rw [show ((8 * o : Nat) : Int) = (off : Int) by have := HO8.out; omega] at HPA)
      all_goals (have HM7 := Lib.hid (HM3.out.trans q3))
      all_goals (have HJ7 := Lib.hid q1)
      all_goals (have HG7 := Lib.hid q2)
      all_goals (clear q1 q2 q3 hO6 hB6 hK6 hg6 B6 X6 z0 z1 fz1 s0 s1 hW7 HM3 HR3 HJ3 HG3 y0 y1 u0 HRw hbs3)
      all_goals (refine HPA.mono ?_)
      all_goals (rintro e w8 ⟨rfl, F8, hs8, hm8⟩)
      all_goals (obtain ⟨G8, q1, q2, q3⟩ := HJ7.out.move HG7.out hs8 hm8)
      all_goals (have HTk := take_pool q1.ix.sys (off : Int) (by omega))
      all_goals (rw [show ({ s := { s1 with ws := putWs s1.ws o (encW nd) }, made := j.made ++ [(off : Int)] } : Jb).s = { s1 with ws := putWs s1.ws (off / 8) (encW nd) } by rw [HO8.out, show 8 * o / 8 = o by omega], ← HT.out] at HTk)
      all_goals (have HTk := Lib.hid HTk)
      all_goals (have HM8 := Lib.hid (HM7.out.trans q3))
      all_goals (have HJ8 := Lib.hid q1)
      all_goals (have HG8 := Lib.hid q2)
      all_goals (have y0 := q1.box.cell 0)
      all_goals (have u1 := q1.ix.box.cell 1)
      all_goals (simp only [List.getElem?_cons_zero, List.getElem?_cons_succ] at y0 u1)
      all_goals (clear q1 q2 q3 hs8 hm8 HPA HM7 HJ7 HG7)
      all_goals (go_wp2_with fail)
      all_goals (refine HTk.out.mono ?_)
      all_goals (rintro e w9 ⟨rfl, F9, hs9, hm9⟩)
      all_goals (obtain ⟨G9, q1, q2, q3⟩ := HJ8.out.move HG8.out hs9 hm9)
      all_goals (have HF : Hid (∃ G', JobAt w9 base jb x d p L ⟨T.1, j.made ++ [(off : Int)]⟩ G' ∧ Moved G G' w w9) := Lib.hid ⟨G9, ⟨F9, _, q1, q2⟩, HM8.out.trans q3⟩)
      all_goals (obtain ⟨te, hte⟩ : ∃ te, te = T.2 := ⟨_, rfl⟩)
      all_goals (rw [← hte] at HP ⊢)
      all_goals (clear q1 q2 q3 hs9 hm9 HM8 HJ8 HG8 HTk y0 u1 HT hte)
      all_goals (by_cases he : te = 0)
      all_goals first
        | (have HP' : Hid (buildP j nd = (⟨T.1, j.made ++ [(off : Int)]⟩, UInt64.ofNat off, 0)) := Lib.hid (by rw [HP.out, if_pos he])
           subst he
           clear HP
           go_wp2_with fail
           go_ret2
           refine ⟨by rw [HP'.out]; show _ = Ending.returned (.tuple #[.int .u64 ((UInt64.ofNat off).toNat : Int), .int .i64 0]); rw [HU.out]; rfl, ?_⟩
           rw [HP'.out]
           exact HF.out)
        | (have HP' : Hid (buildP j nd = (⟨T.1, j.made ++ [(off : Int)]⟩, 0, te)) := Lib.hid (by rw [HP.out, if_neg he])
           have t3 : (te != 0) = true := by rw [bne_iff_ne]; exact he
           clear HP he
           go_wp2_with fail
           go_ret2
           refine ⟨by rw [HP'.out]; rfl, ?_⟩
           rw [HP'.out]
           exact HF.out)
end

end Go.Proofs.YtcelabojehaioaaGreatDoor
