import Derived.Test.YtgdomldfjiobfaaGreatDoorG39
/- Walks of package index: Get; Cut, where the node has others below. Printed by gencut.py. -/
namespace Go.Proofs.YtgdomldfjiobfaaGreatDoor
open Go.RowKit

section
variable {w : World} {x d p L : Nat} {s : St} {F : Nat → Prop}

def GetPost (r : UInt64 × Int) (w : World) (e : Ending) (w' : World) : Prop := e = .returned (.tuple #[.int .u64 (r.1.toNat : Int), .int .i64 r.2]) ∧ Below w.heap.size w w'
def CutPost (r : St × UInt64 × Int) (x d p L : Nat) (F : Nat → Prop) (w : World) (e : Ending) (w' : World) : Prop :=
  e = .returned (.tuple #[.int .u64 (r.2.1.toNat : Int), .int .i64 r.2.2]) ∧ ∃ F', Ix w' x d p L r.1 F' ∧ Moved F F' w w'

set_option maxHeartbeats 16000000 in
set_option maxRecDepth 100000 in
theorem get_index (h : Ix w x d p L s F) (key : ByteArray) (hk : key.size ≤ 1000) :
    Calls Tryz.prog 20 #[.pointer (some ⟨x, 0, none⟩), .string key] w (GetPost (getP s key.data.toList) w) := by
  have HX := Lib.hid h
  have HA := Lib.hid (ask_index h key (by omega))
  have hkl := key_len key
  by_cases h16 : 16 < key.size
  · rw [if_pos h16] at HA
    have HP : Hid (getP s key.data.toList = (0, 3)) := Lib.hid (by unfold getP; rw [hkl, if_pos h16])
    clear h hkl
    go_enter Tryz.func20, Tryz.ntmps20
    go_wp2_with fail
    refine HA.out.mono ?_
    rintro e w1 ⟨rfl, rfl⟩
    go_wp2_with fail
    go_ret2
    exact ⟨by rw [HP.out]; rfl, (Below.refl _ _)⟩
  · rw [if_neg h16] at HA
    obtain ⟨l0, l1, ok, hntk⟩ := h.L0
    have hL16 : 16 ≤ L := by have := ok.fits; have := ok.slabs; omega
    have HPa := Lib.hid (path_index h key (by omega))
    cases hpa : pathP s key.data.toList with
    | none =>
      have HP : Hid (getP s key.data.toList = (0, 5)) := Lib.hid (by unfold getP; rw [hkl, if_neg h16, hpa])
      have HPn := Lib.hid hpa
      clear h hkl ok hntk hpa
      go_enter Tryz.func20, Tryz.ntmps20
      go_wp2_with fail
      refine HA.out.mono ?_
      rintro e w1 ⟨rfl, rfl⟩
      clear HA
      go_wp2_with fail
      refine HPa.out.mono ?_
      rintro e w1 ⟨hb1, hp1⟩
      rw [HPn.out] at hp1
      replace hp1 : e = .returned (.tuple #[.slice none 0 0, .slice none 0 0, .int .i64 5]) := hp1
      subst hp1
      have HB1 := Lib.hid hb1
      clear HPa hb1
      go_wp2_with fail
      go_ret2
      exact ⟨by rw [HP.out]; rfl, HB1.out⟩
    | some wr =>
      obtain ⟨way, rest⟩ := wr
      obtain ⟨hplk, hrl⟩ := path_ok ok (by omega) hntk hpa
      have hwl := path_len hpa
      rw [hkl] at hrl hwl
      replace hrl : rest.length ≤ 32 := by omega
      replace hwl : way.length ≤ 33 := by omega
      have hpre : ∀ pl ∈ way, pl.nd.pre.length ≤ 1000 := fun pl hm => by have := ((rightB_iff _).1 (hplk pl hm).right).1; omega
      have HPk := Lib.hid hplk
      have HPr := Lib.hid hpre
      have HPn := Lib.hid hpa
      have hxl := h.box.lt
      have HTl := Lib.hid h.sys.tabs.lt
      have HFl := Lib.hid h.sys.lt
      cases hst : standsP way rest with
      | none =>
        have HP : Hid (getP s key.data.toList = (0, 7)) := Lib.hid (by unfold getP; rw [hkl, if_neg h16, hpa]; simp only; rw [hst])
        have HSt := Lib.hid hst
        clear h hkl ok hntk hpa hst hplk hpre
        go_enter Tryz.func20, Tryz.ntmps20
        go_wp2_with fail
        refine HA.out.mono ?_
        rintro e w1 ⟨rfl, rfl⟩
        clear HA
        go_wp2_with fail
        refine HPa.out.mono ?_
        rintro e w1 ⟨hb1, hp1⟩
        rw [HPn.out] at hp1
        obtain ⟨vw, A, c, rfl, hway, hrs, hrc⟩ := hp1
        have HW1 := Lib.hid hway
        have HR1 := Lib.hid hrs
        have HB1 := Lib.hid hb1
        clear hway hrs hb1 HPa
        go_wp2_with fail
        refine (stands_any HW1.out (by omega) HPr.out HR1.out.1 (by omega)).mono ?_
        rintro e w2 ⟨hb2, hp2⟩
        rw [HSt.out] at hp2
        replace hp2 : e = .returned (.tuple #[.agg #[.slice none 0 0, .int .u64 0, .slice none 0 0, .slice none 0 0, .int .i64 0, .int .u8 0, .int .i64 0], .bool false]) := hp2
        subst hp2
        have HB2 := Lib.hid (HB1.out.trans (hb2.mono HB1.out.size))
        clear hb2
        have HB3 : Hid (Below w.heap.size w (w2.alloc (.cells #[.slice none 0 0, .int .u64 0, .slice none 0 0, .slice none 0 0, .int .i64 0, .int .u8 0, .int .i64 0] 123))) := Lib.hid (HB2.out.alloc HB2.out.size _)
        go_wp2_with fail
        go_ret2
        exact ⟨by rw [HP.out]; rfl, HB3.out⟩
      | some last =>
        have hmem : last ∈ way := by
          unfold standsP at hst
          split at hst
          · cases hst
          · rename_i l hl
            split at hst
            · injection hst with hst; subst hst; exact List.mem_of_getLast? hl
            · cases hst
        have HPl := Lib.hid (hplk last hmem)
        have HSt := Lib.hid hst
        by_cases hv0 : last.nd.val = 0
        · have HP : Hid (getP s key.data.toList = (0, 7)) := Lib.hid (by unfold getP; rw [hkl, if_neg h16, hpa]; simp only; rw [hst]; simp only; rw [if_pos hv0])
          have t1 : ((last.nd.val.toNat : Int) == 0) = true := by rw [hv0]; rfl
          clear h hkl ok hntk hpa hst hplk hpre hmem
          go_enter Tryz.func20, Tryz.ntmps20
          go_wp2_with fail
          refine HA.out.mono ?_
          rintro e w1 ⟨rfl, rfl⟩
          clear HA
          go_wp2_with fail
          refine HPa.out.mono ?_
          rintro e w1 ⟨hb1, hp1⟩
          rw [HPn.out] at hp1
          obtain ⟨vw, A, c, rfl, hway, hrs, hrc⟩ := hp1
          have HW1 := Lib.hid hway
          have HR1 := Lib.hid hrs
          have HB1 := Lib.hid hb1
          clear hway hrs hb1 HPa
          go_wp2_with fail
          refine (stands_any HW1.out (by omega) HPr.out HR1.out.1 (by omega)).mono ?_
          rintro e w2 ⟨hb2, hp2⟩
          rw [HSt.out] at hp2
          obtain ⟨a, b, c', d', rfl, hnd⟩ := hp2
          obtain ⟨A1, m1, A2, m2, A3, m3, e, o1, o2, o3⟩ := hnd
          simp only [Value.agg.injEq] at e
          simp at e
          obtain ⟨rfl, rfl, rfl, rfl⟩ := e
          have HB2 := Lib.hid (HB1.out.trans (hb2.mono HB1.out.size))
          obtain ⟨W3, hW3⟩ : ∃ W3, W3 = w2.alloc (.cells #[.slice A1 last.nd.pre.length m1, .int .u64 (last.nd.val.toNat : Int), .slice A2 last.nd.labels.length m2, .slice A3 last.nd.kids.length m3, .int .i64 last.off, .int .u8 (last.label.toNat : Int), .int .i64 last.word] 123) := ⟨_, rfl⟩
          have B3 : Blk W3 w2.heap.size 123 [.slice A1 last.nd.pre.length m1, .int .u64 (last.nd.val.toNat : Int), .slice A2 last.nd.labels.length m2, .slice A3 last.nd.kids.length m3, .int .i64 last.off, .int .u8 (last.label.toNat : Int), .int .i64 last.word] := hW3 ▸ heap_alloc_new _ _
          have hb3 : Below w2.heap.size w2 W3 := hW3 ▸ (Below.refl _ _).alloc (Nat.le_refl _) _
          have HB3 := Lib.hid (HB2.out.trans (hb3.mono HB2.out.size))
          have HW3 := Lib.hid hW3
          obtain ⟨y0, y1, y2, y3, y4, y5, y6⟩ := cell7 B3
          rw [hW3] at y0 y1 y2 y3 y4 y5 y6
          rw [hW3] at HB3
          clear o1 o2 o3 hb2 hb3 B3 hW3 HW3
          go_wp2_with fail
          go_ret2
          have HBz := HB3.out
          rw [hv0] at HBz
          exact ⟨by rw [HP.out]; rfl, HBz⟩
        · have t1 : ((last.nd.val.toNat : Int) == 0) = false := by
            rw [beq_eq_false_iff_ne]; intro e; exact hv0 (UInt64.toNat_inj.1 (by simp; omega))
          have HP : Hid (getP s key.data.toList = (last.nd.val, 0)) := Lib.hid (by unfold getP; rw [hkl, if_neg h16, hpa]; simp only; rw [hst]; simp only; rw [if_neg hv0])
          clear h hkl ok hntk hpa hst hplk hpre hmem
          go_enter Tryz.func20, Tryz.ntmps20
          go_wp2_with fail
          refine HA.out.mono ?_
          rintro e w1 ⟨rfl, rfl⟩
          clear HA
          go_wp2_with fail
          refine HPa.out.mono ?_
          rintro e w1 ⟨hb1, hp1⟩
          rw [HPn.out] at hp1
          obtain ⟨vw, A, c, rfl, hway, hrs, hrc⟩ := hp1
          have HW1 := Lib.hid hway
          have HR1 := Lib.hid hrs
          have HB1 := Lib.hid hb1
          clear hway hrs hb1 HPa
          go_wp2_with fail
          refine (stands_any HW1.out (by omega) HPr.out HR1.out.1 (by omega)).mono ?_
          rintro e w2 ⟨hb2, hp2⟩
          rw [HSt.out] at hp2
          obtain ⟨a, b, c', d', rfl, hnd⟩ := hp2
          obtain ⟨A1, m1, A2, m2, A3, m3, e, o1, o2, o3⟩ := hnd
          simp only [Value.agg.injEq] at e
          simp at e
          obtain ⟨rfl, rfl, rfl, rfl⟩ := e
          have HB2 := Lib.hid (HB1.out.trans (hb2.mono HB1.out.size))
          obtain ⟨W3, hW3⟩ : ∃ W3, W3 = w2.alloc (.cells #[.slice A1 last.nd.pre.length m1, .int .u64 (last.nd.val.toNat : Int), .slice A2 last.nd.labels.length m2, .slice A3 last.nd.kids.length m3, .int .i64 last.off, .int .u8 (last.label.toNat : Int), .int .i64 last.word] 123) := ⟨_, rfl⟩
          have B3 : Blk W3 w2.heap.size 123 [.slice A1 last.nd.pre.length m1, .int .u64 (last.nd.val.toNat : Int), .slice A2 last.nd.labels.length m2, .slice A3 last.nd.kids.length m3, .int .i64 last.off, .int .u8 (last.label.toNat : Int), .int .i64 last.word] := hW3 ▸ heap_alloc_new _ _
          have hb3 : Below w2.heap.size w2 W3 := hW3 ▸ (Below.refl _ _).alloc (Nat.le_refl _) _
          have HB3 := Lib.hid (HB2.out.trans (hb3.mono HB2.out.size))
          have HW3 := Lib.hid hW3
          obtain ⟨y0, y1, y2, y3, y4, y5, y6⟩ := cell7 B3
          rw [hW3] at y0 y1 y2 y3 y4 y5 y6
          rw [hW3] at HB3
          clear o1 o2 o3 hb2 hb3 B3 hW3 HW3
          go_wp2_with fail
          go_ret2
          exact ⟨by rw [HP.out]; rfl, HB3.out⟩

set_option maxHeartbeats 16000000 in
set_option maxRecDepth 100000 in
theorem cut_index (h : Ix w x d p L s F) (key : ByteArray) (hk : key.size ≤ 1000) (hkids : ∀ way rest last, pathP s key.data.toList = some (way, rest) → standsP way rest = some last → ¬ last.nd.kids.length = 0) :
    Calls Tryz.prog 21 #[.pointer (some ⟨x, 0, none⟩), .string key] w (CutPost (cutK s key.data.toList) x d p L F w) := by
  have HX := Lib.hid h
  have HA := Lib.hid (ask_index h key (by omega))
  have hkl := key_len key
  by_cases h16 : 16 < key.size
  · rw [if_pos h16] at HA
    have HP : Hid (cutK s key.data.toList = (s, 0, 3)) := Lib.hid (by unfold cutK; rw [hkl, if_pos h16])
    clear h hkl hkids
    go_enter Tryz.func21, Tryz.ntmps21
    go_wp2_with fail
    refine HA.out.mono ?_
    rintro e w1 ⟨rfl, rfl⟩
    go_wp2_with fail
    go_ret2
    refine ⟨by rw [HP.out]; rfl, F, ?_, Moved.of_below (Below.refl _ _)⟩
    rw [HP.out]
    exact HX.out.below (Below.refl _ _)
  · rw [if_neg h16] at HA
    obtain ⟨l0, l1, ok, hntk⟩ := h.L0
    have hL16 : 16 ≤ L := by have := ok.fits; have := ok.slabs; omega
    have HPa := Lib.hid (path_index h key (by omega))
    cases hpa : pathP s key.data.toList with
    | none =>
      have HP : Hid (cutK s key.data.toList = (s, 0, 5)) := Lib.hid (by unfold cutK; rw [hkl, if_neg h16, hpa])
      have HPn := Lib.hid hpa
      clear h hkl ok hntk hpa hkids
      go_enter Tryz.func21, Tryz.ntmps21
      go_wp2_with fail
      refine HA.out.mono ?_
      rintro e w1 ⟨rfl, rfl⟩
      clear HA
      go_wp2_with fail
      refine HPa.out.mono ?_
      rintro e w1 ⟨hb1, hp1⟩
      rw [HPn.out] at hp1
      replace hp1 : e = .returned (.tuple #[.slice none 0 0, .slice none 0 0, .int .i64 5]) := hp1
      subst hp1
      have HB1 := Lib.hid hb1
      clear HPa hb1
      go_wp2_with fail
      go_ret2
      refine ⟨by rw [HP.out]; rfl, F, ?_, Moved.of_below HB1.out⟩
      rw [HP.out]
      exact HX.out.below HB1.out
    | some wr =>
      obtain ⟨way, rest⟩ := wr
      obtain ⟨hplk, hrl⟩ := path_ok ok (by omega) hntk hpa
      have hwl := path_len hpa
      rw [hkl] at hrl hwl
      replace hrl : rest.length ≤ 32 := by omega
      replace hwl : way.length ≤ 33 := by omega
      have hpre : ∀ pl ∈ way, pl.nd.pre.length ≤ 1000 := fun pl hm => by have := ((rightB_iff _).1 (hplk pl hm).right).1; omega
      have HPk := Lib.hid hplk
      have HPr := Lib.hid hpre
      have HPn := Lib.hid hpa
      have hxl := h.box.lt
      have HTl := Lib.hid h.sys.tabs.lt
      have HFl := Lib.hid h.sys.lt
      cases hst : standsP way rest with
      | none =>
        have HP : Hid (cutK s key.data.toList = (s, 0, 7)) := Lib.hid (by unfold cutK; rw [hkl, if_neg h16, hpa]; simp only; rw [hst])
        have HSt := Lib.hid hst
        clear h hkl ok hntk hpa hst hplk hpre hkids
        go_enter Tryz.func21, Tryz.ntmps21
        go_wp2_with fail
        refine HA.out.mono ?_
        rintro e w1 ⟨rfl, rfl⟩
        clear HA
        go_wp2_with fail
        refine HPa.out.mono ?_
        rintro e w1 ⟨hb1, hp1⟩
        rw [HPn.out] at hp1
        obtain ⟨vw, A, c, rfl, hway, hrs, hrc⟩ := hp1
        have HW1 := Lib.hid hway
        have HR1 := Lib.hid hrs
        have HB1 := Lib.hid hb1
        clear hway hrs hb1 HPa
        go_wp2_with fail
        refine (stands_any HW1.out (by omega) HPr.out HR1.out.1 (by omega)).mono ?_
        rintro e w2 ⟨hb2, hp2⟩
        rw [HSt.out] at hp2
        replace hp2 : e = .returned (.tuple #[.agg #[.slice none 0 0, .int .u64 0, .slice none 0 0, .slice none 0 0, .int .i64 0, .int .u8 0, .int .i64 0], .bool false]) := hp2
        subst hp2
        have HB2 := Lib.hid (HB1.out.trans (hb2.mono HB1.out.size))
        clear hb2
        have HB3 : Hid (Below w.heap.size w (w2.alloc (.cells #[.slice none 0 0, .int .u64 0, .slice none 0 0, .slice none 0 0, .int .i64 0, .int .u8 0, .int .i64 0] 123))) := Lib.hid (HB2.out.alloc HB2.out.size _)
        go_wp2_with fail
        go_ret2
        refine ⟨by rw [HP.out]; rfl, F, ?_, Moved.of_below HB3.out⟩
        rw [HP.out]
        exact HX.out.below HB3.out
      | some last =>
        have hmem : last ∈ way := by
          unfold standsP at hst
          split at hst
          · cases hst
          · rename_i l hl
            split at hst
            · injection hst with hst; subst hst; exact List.mem_of_getLast? hl
            · cases hst
        have HPl := Lib.hid (hplk last hmem)
        have HSt := Lib.hid hst
        by_cases hv0 : last.nd.val = 0
        · have HP : Hid (cutK s key.data.toList = (s, 0, 7)) := Lib.hid (by unfold cutK; rw [hkl, if_neg h16, hpa]; simp only; rw [hst]; simp only; rw [if_pos hv0])
          have t1 : ((last.nd.val.toNat : Int) == 0) = true := by rw [hv0]; rfl
          clear h hkl ok hntk hpa hst hplk hpre hmem hkids
          go_enter Tryz.func21, Tryz.ntmps21
          go_wp2_with fail
          refine HA.out.mono ?_
          rintro e w1 ⟨rfl, rfl⟩
          clear HA
          go_wp2_with fail
          refine HPa.out.mono ?_
          rintro e w1 ⟨hb1, hp1⟩
          rw [HPn.out] at hp1
          obtain ⟨vw, A, c, rfl, hway, hrs, hrc⟩ := hp1
          have HW1 := Lib.hid hway
          have HR1 := Lib.hid hrs
          have HB1 := Lib.hid hb1
          clear hway hrs hb1 HPa
          go_wp2_with fail
          refine (stands_any HW1.out (by omega) HPr.out HR1.out.1 (by omega)).mono ?_
          rintro e w2 ⟨hb2, hp2⟩
          rw [HSt.out] at hp2
          obtain ⟨a, b, c', d', rfl, hnd⟩ := hp2
          obtain ⟨A1, m1, A2, m2, A3, m3, e, o1, o2, o3⟩ := hnd
          simp only [Value.agg.injEq] at e
          simp at e
          obtain ⟨rfl, rfl, rfl, rfl⟩ := e
          have HB2 := Lib.hid (HB1.out.trans (hb2.mono HB1.out.size))
          obtain ⟨W3, hW3⟩ : ∃ W3, W3 = w2.alloc (.cells #[.slice A1 last.nd.pre.length m1, .int .u64 (last.nd.val.toNat : Int), .slice A2 last.nd.labels.length m2, .slice A3 last.nd.kids.length m3, .int .i64 last.off, .int .u8 (last.label.toNat : Int), .int .i64 last.word] 123) := ⟨_, rfl⟩
          have B3 : Blk W3 w2.heap.size 123 [.slice A1 last.nd.pre.length m1, .int .u64 (last.nd.val.toNat : Int), .slice A2 last.nd.labels.length m2, .slice A3 last.nd.kids.length m3, .int .i64 last.off, .int .u8 (last.label.toNat : Int), .int .i64 last.word] := hW3 ▸ heap_alloc_new _ _
          have hb3 : Below w2.heap.size w2 W3 := hW3 ▸ (Below.refl _ _).alloc (Nat.le_refl _) _
          have HB3 := Lib.hid (HB2.out.trans (hb3.mono HB2.out.size))
          have HW3 := Lib.hid hW3
          obtain ⟨y0, y1, y2, y3, y4, y5, y6⟩ := cell7 B3
          rw [hW3] at y0 y1 y2 y3 y4 y5 y6
          rw [hW3] at HB3
          clear o1 o2 o3 hb2 hb3 B3 hW3 HW3
          go_wp2_with fail
          go_ret2
          have HBz := HB3.out
          rw [hv0] at HBz
          refine ⟨by rw [HP.out]; rfl, F, ?_, Moved.of_below HBz⟩
          rw [HP.out]
          exact HX.out.below HBz
        · have t1 : ((last.nd.val.toNat : Int) == 0) = false := by
            rw [beq_eq_false_iff_ne]; intro e; exact hv0 (UInt64.toNat_inj.1 (by simp; omega))
          have hk0 := hkids way rest last hpa hst
          have HP : Hid (cutK s key.data.toList = (valueP s last 0, last.nd.val, 0)) := Lib.hid (by unfold cutK; rw [hkl, if_neg h16, hpa]; simp only; rw [hst]; simp only; rw [if_neg hv0, if_neg hk0]; rfl)
          have t2 : ((last.nd.kids.length : Int) == 0) = false := by rw [beq_eq_false_iff_ne]; omega
          clear h hkl ok hntk hpa hst hplk hpre hmem hkids
          go_enter Tryz.func21, Tryz.ntmps21
          go_wp2_with fail
          refine HA.out.mono ?_
          rintro e w1 ⟨rfl, rfl⟩
          clear HA
          go_wp2_with fail
          refine HPa.out.mono ?_
          rintro e w1 ⟨hb1, hp1⟩
          rw [HPn.out] at hp1
          obtain ⟨vw, A, c, rfl, hway, hrs, hrc⟩ := hp1
          have HW1 := Lib.hid hway
          have HR1 := Lib.hid hrs
          have HB1 := Lib.hid hb1
          clear hway hrs hb1 HPa
          go_wp2_with fail
          refine (stands_any HW1.out (by omega) HPr.out HR1.out.1 (by omega)).mono ?_
          rintro e w2 ⟨hb2, hp2⟩
          rw [HSt.out] at hp2
          obtain ⟨a, b, c', d', rfl, hnd⟩ := hp2
          obtain ⟨A1, m1, A2, m2, A3, m3, e, o1, o2, o3⟩ := hnd
          simp only [Value.agg.injEq] at e
          simp at e
          obtain ⟨rfl, rfl, rfl, rfl⟩ := e
          have HB2 := Lib.hid (HB1.out.trans (hb2.mono HB1.out.size))
          obtain ⟨W3, hW3⟩ : ∃ W3, W3 = w2.alloc (.cells #[.slice A1 last.nd.pre.length m1, .int .u64 (last.nd.val.toNat : Int), .slice A2 last.nd.labels.length m2, .slice A3 last.nd.kids.length m3, .int .i64 last.off, .int .u8 (last.label.toNat : Int), .int .i64 last.word] 123) := ⟨_, rfl⟩
          have B3 : Blk W3 w2.heap.size 123 [.slice A1 last.nd.pre.length m1, .int .u64 (last.nd.val.toNat : Int), .slice A2 last.nd.labels.length m2, .slice A3 last.nd.kids.length m3, .int .i64 last.off, .int .u8 (last.label.toNat : Int), .int .i64 last.word] := hW3 ▸ heap_alloc_new _ _
          have hb3 : Below w2.heap.size w2 W3 := hW3 ▸ (Below.refl _ _).alloc (Nat.le_refl _) _
          have HB3 := Lib.hid (HB2.out.trans (hb3.mono HB2.out.size))
          have HV := Lib.hid (value_index (HX.out.below HB3.out) last (HPl.out) A1 A2 A3 last.nd.pre.length m1 last.nd.labels.length m2 last.nd.kids.length m3 0)
          have HW3 := Lib.hid hW3
          obtain ⟨y0, y1, y2, y3, y4, y5, y6⟩ := cell7 B3
          have HK3 := Lib.hid B3
          rw [hW3] at y0 y1 y2 y3 y4 y5 y6
          clear o1 o2 o3 hb2 hb3 B3 hW3
          go_wp2_with fail
          rw [← HW3.out]
          refine HV.out.mono ?_
          rintro e w4 ⟨rfl, F4, hx4, hm4⟩
          have HF := Lib.hid (And.intro hx4 ((Moved.of_below (F := F) HB3.out).trans hm4))
          have B4 := HK3.out.touch hm4.touch (fun hg => by have := HFl.out _ hg; have := HB2.out.size; omega)
          obtain ⟨z0, z1, z2, z3, z4, z5, z6⟩ := cell7 B4
          clear hx4 hm4 y0 y1 y2 y3 y4 y5 y6 HV HW3 B4 HK3
          go_wp2_with fail
          go_ret2
          refine ⟨by rw [HP.out]; rfl, F4, ?_, HF.out.2⟩
          rw [HP.out]
          exact HF.out.1

end

end Go.Proofs.YtgdomldfjiobfaaGreatDoor
