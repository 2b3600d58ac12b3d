import Derived.Test.YtcelabojehaioaaGreatDoorG48
/- Law 21: the law ScriptCuts. -/
namespace Go.Proofs.YtcelabojehaioaaGreatDoor
open Go.RowKit

/-- What bytes say behind others that are whole steps. -/
theorem decP_app {a b : List UInt8} (h3 : a.length % 3 = 0) (ha : a.length ≤ 500) (hb : b.length ≤ 500) : decP (a ++ b) = decP a ++ decP b := by
  apply List.ext_getElem?
  intro k
  have l1 := decP_len a
  have l2 := decP_len b
  have l3 := decP_len (a ++ b)
  rw [List.length_append] at l3
  have key : ∀ (c : List UInt8) (k : Nat), (decP c)[k]? = if k < (decP c).length then some (stepAt c k) else none := fun c k => by
    by_cases hk : k < (decP c).length
    · rw [if_pos hk]
      have h2 : k < min (c.length / 3) 400 := by rw [decP_len] at hk; exact hk
      unfold decP decTo
      rw [List.getElem?_map, List.getElem?_range h2]
      rfl
    · rw [if_neg hk, List.getElem?_eq_none (by omega)]
  rw [List.getElem?_append, key, key, key]
  by_cases h1 : k < (decP a).length
  · rw [if_pos (by omega), if_pos h1, if_pos h1]
    unfold stepAt
    simp only [List.getD_eq_getElem?_getD]
    rw [List.getElem?_append_left (by omega), List.getElem?_append_left (by omega), List.getElem?_append_left (by omega)]
  · rw [if_neg h1]
    by_cases h2 : k - (decP a).length < (decP b).length
    · rw [if_pos (by omega), if_pos h2]
      unfold stepAt
      simp only [List.getD_eq_getElem?_getD]
      rw [List.getElem?_append_right (by omega), List.getElem?_append_right (by omega), List.getElem?_append_right (by omega)]
      have e0 : 3 * k - a.length = 3 * (k - (decP a).length) := by omega
      have e1 : 3 * k + 1 - a.length = 3 * (k - (decP a).length) + 1 := by omega
      have e2 : 3 * k + 2 - a.length = 3 * (k - (decP a).length) + 2 := by omega
      rw [e0, e1, e2]
    · rw [if_neg (by omega), if_neg h2]

set_option maxHeartbeats 8000000 in
set_option maxRecDepth 100000 in
theorem scriptCuts_any (l1 l2 : List UInt8) (A B : Option Addr) (c d : Nat) (w : World) (hm : l1.length ≤ maxLen) (hm2 : l2.length ≤ maxLen) (hc : l1.length ≤ c) (hd : l2.length ≤ d) (ha : Bs w A l1.length l1) (hb : Bs w B l2.length l2) (hT : Tabs w) :
    Calls Tryz.prog 9 #[.slice A l1.length c, .slice B l2.length d] w fun e w' => e = .returned (.bool true) ∧ Below w.heap.size w w' := by
  have HAl := Lib.hid (alive21 hT)
  have HRa := Lib.hid ha
  have HRb := Lib.hid hb
  clear hT ha hb
  by_cases hbig : 500 < l1.length
  · have t1 : decide ((500 : Int) < (l1.length : Int)) = true := decide_eq_true (by omega)
    generalize l1.length = n at *
    go_enter Tryz.func9, Tryz.ntmps9
    go_wp2_with fail
    refine HAl.out.mono ?_
    rintro e w1 ⟨rfl, hb1⟩
    have HB1 := Lib.hid hb1
    clear HAl hb1
    go_wp2_with fail
    go_ret
    exact ⟨rfl, HB1.out⟩
  · have t1 : decide ((500 : Int) < (l1.length : Int)) = false := decide_eq_false (by omega)
    by_cases hbig2 : 500 < l2.length
    · have t2 : decide ((500 : Int) < (l2.length : Int)) = true := decide_eq_true (by omega)
      generalize l1.length = n at *
      generalize l2.length = n2 at *
      go_enter Tryz.func9, Tryz.ntmps9
      go_wp2_with fail
      refine HAl.out.mono ?_
      rintro e w1 ⟨rfl, hb1⟩
      have HB1 := Lib.hid hb1
      clear HAl hb1
      go_wp2_with fail
      go_ret
      exact ⟨rfl, HB1.out⟩
    · have t2 : decide ((500 : Int) < (l2.length : Int)) = false := decide_eq_false (by omega)
      obtain ⟨q, hq⟩ : ∃ q, q = l1.length / 3 * 3 := ⟨_, rfl⟩
      have hql : q ≤ l1.length := by omega
      obtain ⟨l, hl⟩ : ∃ l, l = l1.take q := ⟨_, rfl⟩
      have hln : l.length = q := by rw [hl, List.length_take]; omega
      have HR1 : Hid (Bs w A l.length l) := Lib.hid (by rw [hln, hl]; exact HRa.out.take hql)
      have HDa := Lib.hid (fun W (k : Below w.heap.size w W) => scrDecode l A c W (by omega) (by omega) (HR1.out.below k))
      have HDb := Lib.hid (fun W (k : Below w.heap.size w W) => scrDecode l2 B d W hm2 hd (HRb.out.below k))
      have HDc := Lib.hid (fun W C cc (hC : l.length + l2.length ≤ cc) (h : Bs W C (l.length + l2.length) (l ++ l2)) => scrDecode (l ++ l2) C cc W (by rw [List.length_append]; unfold maxLen; omega) (by rw [List.length_append]; exact hC) (by rw [List.length_append]; exact h))
      rw [decP_app (a := l) (b := l2) (by omega) (by omega) (by omega)] at HDc
      rw [hln] at HDa HDc HR1
      have e1 : (l1.length : Int).tdiv 3 = ((l1.length / 3 : Nat) : Int) := by rw [Int.tdiv_eq_ediv_of_nonneg (by omega)]; omega
      have e2 : IntKind.i64.wrap ((l1.length / 3 : Nat) : Int) = ((l1.length / 3 : Nat) : Int) := IntWalk.i64_in _ (by omega)
      have e3 : IntKind.i64.wrap (((l1.length / 3 : Nat) : Int) * 3) = (q : Int) := by rw [IntWalk.i64_in _ (by omega)]; omega
      have e3' : IntKind.i64.wrap ((l1.length : Int) / 3 * 3) = (q : Int) := by rw [IntWalk.i64_in _ (by omega)]; omega
      have hqc : q ≤ c := by omega
      obtain ⟨P1, hP1⟩ : ∃ P, P = decP l := ⟨_, rfl⟩
      obtain ⟨P2, hP2⟩ : ∃ P, P = decP l2 := ⟨_, rfl⟩
      have hp1 : P1.length ≤ 400 := by rw [hP1, decP_len]; omega
      have hp2 : P2.length ≤ 400 := by rw [hP2, decP_len]; omega
      rw [← hP1] at HDa HDc
      rw [← hP2] at HDb HDc
      have HLn := Lib.hid hln
      have hq500 : q ≤ 500 := by omega
      have hn2 : l2.length ≤ 500 := by omega
      generalize l1.length = n at *
      obtain ⟨n2, hnn2⟩ : ∃ n2, n2 = l2.length := ⟨_, rfl⟩
      have HN2 := Lib.hid hnn2
      rw [← hnn2] at HDb HDc HRb hd t2 hn2 ⊢
      clear hq hl hln hP1 hP2 hnn2 HRa
      go_enter Tryz.func9, Tryz.ntmps9
      go_wp2_with fail
      refine HAl.out.mono ?_
      rintro e w1 ⟨rfl, hb1⟩
      have HB1 := Lib.hid hb1
      have HDa1 := Lib.hid (HDa.out w1 hb1)
      clear HAl hb1 HDa
      go_wp2_with fail
      refine HDa1.out.mono ?_
      rintro e w2 ⟨v2, rfl, ho2, hb2⟩
      obtain ⟨A2, c2, rfl, hc2, hr2⟩ := own_rowk ho2
      have hb12 := HB1.out.trans (hb2.mono HB1.out.size)
      have HB2 := Lib.hid hb12
      have HR2 : Hid (SpR w2 A2 P1) := Lib.hid hr2
      have HDb2 := Lib.hid (HDb.out w2 hb12)
      clear HDa1 ho2 hb2 hr2 hb12 HDb
      go_wp2_with fail
      refine HDb2.out.mono ?_
      rintro e w3 ⟨v3, rfl, ho3, hb3⟩
      obtain ⟨A3, c3, rfl, hc3, hr3⟩ := own_rowk ho3
      have hb13 := HB2.out.trans (hb3.mono HB2.out.size)
      have HB3 := Lib.hid hb13
      have HR3 : Hid (SpR w3 A3 P2) := Lib.hid hr3
      have HR32 : Hid (SpR w3 A2 P1) := Lib.hid (Rd.below HR2.out hb3)
      have HRa3 : Hid (Rd w3 A (q * 1) (l.map bv)) := Lib.hid (by have := HR1.out.below hb13; rw [Nat.mul_one]; exact this)
      have HRb3 : Hid (∀ W, Below w3.heap.size w3 W → Rd W B (n2 * 1) (l2.map bv)) := Lib.hid (fun W k => by have := (HRb.out.below hb13).below k; rw [Nat.mul_one]; exact this)
      have HNil : Hid (w3.ownsRow w3.heap.size 5 1 (.slice none 0 0) 0 []) := Lib.hid (World.ownsRow_nil _ _ _ _)
      clear HDb2 ho3 hb3 hr3 hb13
      go_wp2_with (at_builtin; first
        | (refine wpList_app_rows rfl (.tmp 31) (.tmp 32) 39 rfl Tryz.bytesTyK (by decide) w3.heap.size v4 q (l.map bv) rfl (by simpa using hO4) B n2 d (l2.map bv) rfl (HRb3.out _ hB4) (by intro u hu; obtain ⟨x, _, rfl⟩ := List.mem_map.1 hu; rfl) (by omega) (by decide) hB4.size ?_; intro v5 w5 hO5 hB5 hK5)
        | (refine wpList_app_rows rfl (.const (.slice none 0 0)) (.tmp 30) 39 rfl Tryz.bytesTyK (by decide) w3.heap.size (.slice none 0 0) 0 [] rfl (by exact HNil.out) A q c (l.map bv) rfl (by exact HRa3.out) (by intro u hu; obtain ⟨x, _, rfl⟩ := List.mem_map.1 hu; rfl) (by omega) (by decide) (Nat.le_refl _) ?_; intro v4 w4 hO4 hB4 hK4))
      rw [← List.map_append] at hO5
      obtain ⟨A5, c5, hv5, hc5, hr5⟩ := own_rowk hO5
      subst hv5
      have hb35 : Below w3.heap.size w3 w5 := hB4.trans hB5
      have hbs5 : Bs w5 A5 (q + n2) (l ++ l2) := by rw [Nat.mul_one] at hr5; exact hr5
      have HDc5 := HDc.out w5 A5 c5 hc5 hbs5
      rw [List.length_append, HLn.out, ← HN2.out] at HDc5
      have HDc5 := Lib.hid HDc5
      have HB5 := Lib.hid (HB3.out.trans (hb35.mono HB3.out.size))
      have HR5 : Hid (SpR w5 A2 P1) := Lib.hid (Rd.below HR32.out hb35)
      have HS5 : Hid (SpR w5 A3 P2) := Lib.hid (Rd.below HR3.out hb35)
      clear hO4 hB4 hK4 hO5 hB5 hK5 hc5 hr5 hb35 hbs5 HDc HNil HRa3 HRb3
      go_wp2_with fail
      refine HDc5.out.mono ?_
      rintro e w6 ⟨v6, rfl, ho6, hb6⟩
      rw [List.length_append] at ho6
      obtain ⟨A6, c6, rfl, hc6, hr6⟩ := own_rowk ho6
      have HB6 := Lib.hid (HB5.out.trans (hb6.mono HB5.out.size))
      have HQ6 : Hid (SpR w6 A6 (P1 ++ P2)) := Lib.hid (by unfold SpR; rw [List.length_append]; exact hr6)
      have HR6 : Hid (SpR w6 A2 P1) := Lib.hid (Rd.below HR5.out hb6)
      have HS6 : Hid (SpR w6 A3 P2) := Lib.hid (Rd.below HS5.out hb6)
      obtain ⟨m1, hm1⟩ : ∃ m, m = P1.length := ⟨_, rfl⟩
      obtain ⟨m2, hm2'⟩ : ∃ m, m = P2.length := ⟨_, rfl⟩
      have HM1 := Lib.hid hm1
      have HM2 := Lib.hid hm2'
      rw [← hm1] at hp1 ⊢
      rw [← hm2'] at hp2 ⊢
      have f1 : IntKind.i64.wrap ((m1 : Int) + (m2 : Int)) = (m1 : Int) + (m2 : Int) := IntWalk.i64_in _ (by omega)
      have f2 : (((m1 : Int) + (m2 : Int)) != ((m1 : Int) + (m2 : Int))) = false := by simp
      clear HDc5 ho6 hb6 hc6 hr6 hm1 hm2' HR5 HS5 HR2 HR3 HR32
      go_wp2_with fail
      go_loopw [45] (fun i wr => ∃ k : Nat, k ≤ m1 + m2 ∧ i = .int .i64 (k : Nat) ∧ Below w6.heap.size w6 wr) (fun i _ => m1 + m2 - (intOf i).toNat)
      case atStart => exact ⟨0, Nat.zero_le _, rfl, Below.refl _ _⟩
      case round =>
        obtain ⟨k, hk, rfl, hbr⟩ := hrel
        have HBr := Lib.hid hbr
        clear hbr
        by_cases hlt : k < m1 + m2
        · have hkP : k < (P1 ++ P2).length := by rw [List.length_append, ← HM1.out, ← HM2.out]; exact hlt
          obtain ⟨ba, oa, rfl, hbw, p0, p1, p2, p3⟩ := (show SpR wr A6 (P1 ++ P2) from Rd.below HQ6.out HBr.out).at k hkP
          have hx1 : (k : Int) < (m1 : Int) + (m2 : Int) := by omega
          have hx2 : decide ((k : Int) < (m1 : Int) + (m2 : Int)) = true := decide_eq_true (by omega)
          have hx5 : decide (k < m1 + m2) = true := decide_eq_true hlt
          have hwk : IntKind.i64.wrap ((k : Int) + 1) = (k : Int) + 1 := IntWalk.i64_in _ (by omega)
          have hmm : Tryz.prog.eqGuardType Tryz.prog.depth 93 = false := by kernel_rfl
          obtain ⟨y, hy⟩ : ∃ y, y = (P1 ++ P2)[k] := ⟨_, rfl⟩
          rw [← hy] at p0 p1 p2 p3
          have HY : Hid ((P1 ++ P2)[k]? = some y) := Lib.hid (by rw [hy]; exact List.getElem?_eq_getElem hkP)
          obtain ⟨y1, y2, y3, y4⟩ := y
          simp only at p0 p1 p2 p3
          have hq := fun W => Tryz.eqStep (y1 : Int) (y2 : Int) (y1 : Int) (y2 : Int) y3 y4 y3 y4 W
          have hqq : ((((y1 : Int) == (y1 : Int)) && ((y2 : Int) == (y2 : Int))) && ((y3.toList == y3.toList) && (y4.toList == y4.toList))) = true := by simp
          rw [hqq] at hq
          obtain ⟨W, hW⟩ : ∃ W, W = wr.alloc (.cells #[.int .i64 (y1 : Int), .int .i64 (y2 : Int), .string y3, .string y4] 93) := ⟨_, rfl⟩
          have hbW : Below wr.heap.size wr W := hW ▸ (Below.refl _ _).alloc (Nat.le_refl _) _
          have B : Blk W wr.heap.size 93 [.int .i64 (y1 : Int), .int .i64 (y2 : Int), .string y3, .string y4] := hW ▸ heap_alloc_new _ _
          have z0 := B.cell 0
          have z1 := B.cell 1
          have z2 := B.cell 2
          have z3 := B.cell 3
          simp only [List.getElem?_cons_zero, List.getElem?_cons_succ] at z0 z1 z2 z3
          have HW := Lib.hid hW
          have HBW := Lib.hid (HBr.out.trans (hbW.mono HBr.out.size))
          clear hW hbW B hqq hy
          by_cases h1 : k < m1
          · have hk1 : k < P1.length := by have := HM1.out; omega
            have hg := HY.out
            rw [List.getElem?_append_left hk1, List.getElem?_eq_getElem hk1] at hg
            injection hg with hg
            obtain ⟨bb, ob, rfl, _, r0, r1, r2, r3⟩ := (show SpR W A2 P1 from Rd.below HR6.out HBW.out).at k hk1
            rw [hg] at r0 r1 r2 r3
            simp only at r0 r1 r2 r3
            have k1 : decide ((k : Int) < (m1 : Int)) = true := decide_eq_true (by omega)
            have k2 : decide (k < m1) = true := decide_eq_true h1
            have k3 : decide ((m1 : Int) ≤ (k : Int)) = false := decide_eq_false (by omega)
            have k4 : decide (m1 ≤ k) = false := decide_eq_false (by omega)
            clear hg
            go_wp2_with fail
            rw [← HW.out]
            go_quiet (fail)
            go_wp2_with fail
            go_roundw
            case rel => exact ⟨k + 1, by omega, by go_num, HBW.out.trans ((Dr.one _ _).below _)⟩
            case measure => simp [intOf]; omega
          · have hk1 : k - m1 < P2.length := by have := HM2.out; omega
            have hg := HY.out
            rw [List.getElem?_append_right (by rw [← HM1.out]; omega), ← HM1.out, List.getElem?_eq_getElem hk1] at hg
            injection hg with hg
            obtain ⟨bb, ob, rfl, _, r0, r1, r2, r3⟩ := (show SpR W A3 P2 from Rd.below HS6.out HBW.out).at (k - m1) hk1
            rw [hg] at r0 r1 r2 r3
            simp only at r0 r1 r2 r3
            have k1 : decide ((k : Int) < (m1 : Int)) = false := decide_eq_false (by omega)
            have k2 : decide (k < m1) = false := decide_eq_false h1
            have k3 : decide ((m1 : Int) ≤ (k : Int)) = true := decide_eq_true (by omega)
            have k4 : decide (m1 ≤ k) = true := decide_eq_true (by omega)
            have k5 : IntKind.i64.wrap ((k : Int) - (m1 : Int)) = ((k - m1 : Nat) : Int) := by rw [IntWalk.i64_in _ (by omega)]; omega
            have k6 : k - m1 < m2 := by omega
            have k7 : ((k - m1 : Nat) : Int) < (m2 : Int) := by omega
            generalize k - m1 = j at *
            clear hg
            go_wp2_with fail
            rw [← HW.out]
            go_quiet (fail)
            go_wp2_with fail
            go_roundw
            case rel => exact ⟨k + 1, by omega, by go_num, HBW.out.trans ((Dr.one _ _).below _)⟩
            case measure => simp [intOf]; omega
        · have hx2 : decide ((k : Int) < (m1 : Int) + (m2 : Int)) = false := decide_eq_false (by omega)
          have hx5 : decide (k < m1 + m2) = false := decide_eq_false hlt
          go_wp2_with fail
          go_ret
          exact ⟨rfl, HB6.out.trans (HBr.out.mono HB6.out.size)⟩

end Go.Proofs.YtcelabojehaioaaGreatDoor
