import Derived.Shelf.Spec.TrailingZeros
import Derived.Deep.AppendLies
import Derived.ArgAppend
import Derived.Test.YtcelabojehaioaaGreatDoorG01
import Derived.Test.YtcelabojehaioaaGreatDoorG04
import Derived.Test.YtcelabojehaioaaGreatDoorG06
/- Walks: math/bits.TrailingZeros64; package word: Low; package slab: meets, Next, Take, Drop. -/
namespace Go.Proofs.YtcelabojehaioaaGreatDoor
open Go.RowKit

def TabB (w : World) : Prop := ∀ j, j < 64 → w.cell? ⟨1, j, none⟩ = some (.int .u8 (Lib.deBruijn64tab.getD j 0 : Nat))
theorem TabB.dr {w w' : World} (h : TabB w) (d : Dr w w') : TabB w' := by obtain ⟨q, rfl⟩ := d; exact h

theorem tz_zero (w : World) : Calls Tryz.prog 253 #[.int .u64 0] w fun e w' => e = .returned (.int .i64 64) ∧ w = w' := by
  go_enter Tryz.func253, Tryz.ntmps253
  go_wp2
  go_ret
  exact ⟨rfl, rfl⟩

set_option maxHeartbeats 1000000 in
theorem tz_core (x k idx : Nat) (w : World) (hx0 : ((x : Int) == 0) = false)
    (key : IntKind.u64.wrap (bits BinOp.and IntKind.u64 (x : Int) (IntKind.u64.wrap (-(x : Int))) * 285870213051353865) / 288230376151711744 = (idx : Int))
    (hi : idx < 64) (hk : k < 64) (hcell : w.cell? ⟨1, idx, none⟩ = some (.int .u8 k)) :
    Calls Tryz.prog 253 #[.int .u64 x] w fun e w' => e = .returned (.int .i64 k) ∧ w = w' := by
  go_enter Tryz.func253, Tryz.ntmps253
  go_wp2_with (simp only [key])
  go_ret
  exact ⟨rfl, rfl⟩

theorem tz_any (x : Nat) (hx : x < 18446744073709551616) (w : World) (hT : TabB w) :
    Calls Tryz.prog 253 #[.int .u64 x] w fun e w' => e = .returned (.int .i64 (Lib.ctz 64 x)) ∧ w = w' := by
  by_cases hx0 : x = 0
  · subst hx0
    exact tz_zero w
  · obtain ⟨hlow, hk⟩ := Lib.lowest_bit 64 x hx0 hx
    obtain ⟨hi, htab⟩ := Lib.deBruijn64_at _ hk
    have hc := hT _ hi
    rw [htab] at hc
    exact tz_core x _ _ w (by rw [beq_eq_false_iff_ne]; omega) (tz64_key x _ hx hx0 hlow) hi hk hc

theorem not_eq (n : Nat) (hn : n < 18446744073709551616) : bits .xor .u64 IntKind.u64.max (n : Int) = ((18446744073709551615 - n : Nat) : Int) := by
  rw [show IntKind.u64.max = ((18446744073709551615 : Nat) : Int) from rfl, u64_xor_nat _ _ (by decide) hn]
  congr 1
  apply Nat.eq_of_testBit_eq
  intro i
  have h1 := Nat.testBit_two_pow_sub_succ (n := 64) (x := n) hn i
  have h2 := Nat.testBit_two_pow_sub_one 64 i
  rw [show 2 ^ 64 - (n + 1) = 18446744073709551615 - n by omega] at h1
  rw [show 2 ^ 64 - 1 = 18446744073709551615 by decide] at h2
  rw [Nat.testBit_xor, h1, h2]
  by_cases hi : i < 64
  · simp [hi]
  · have : n.testBit i = false := Nat.testBit_lt_two_pow (Nat.lt_of_lt_of_le hn (Nat.pow_le_pow_right (n := 2) (by decide) (by omega : 64 ≤ i)))
    simp [hi, this]

/-- What Low and Next tell. -/
def optI (o : Option Nat) : Int := match o with
  | some k => (k : Int)
  | none => -1

set_option maxHeartbeats 1000000 in
theorem low_any (n many : Nat) (w : World) (hn : n < 18446744073709551616) (hm : many ≤ 64) (hT : TabB w) :
    Calls Tryz.prog 232 #[.int .u64 (n : Int), .int .i64 (many : Int)] w fun e w' => e = .returned (.int .i64 (optI (lowN n many))) ∧ Dr w w' := by
  have hd := Dr.refl w
  have e1 := not_eq n hn
  have HT := Lib.hid (tz_any (18446744073709551615 - n) (by omega) w hT)
  have hc := lowN_ctz n many hn hm
  generalize Lib.ctz 64 (18446744073709551615 - n) = c at hc HT
  by_cases h1 : c < many
  · rw [if_pos h1] at hc
    rw [hc, show optI (some c) = (c : Int) from rfl]
    have t1 : decide ((c : Int) < (many : Int)) = true := decide_eq_true (by omega)
    clear hc
    go_enter Tryz.func232, Tryz.ntmps232
    go_wp2_with fail
    refine HT.out.mono ?_
    rintro e w' ⟨rfl, rfl⟩
    go_wp2_with fail
    go_ret
    exact ⟨rfl, hd⟩
  · rw [if_neg h1] at hc
    rw [hc, show optI none = -1 from rfl]
    have t1 : decide ((c : Int) < (many : Int)) = false := decide_eq_false (by omega)
    clear hc
    go_enter Tryz.func232, Tryz.ntmps232
    go_wp2_with fail
    refine HT.out.mono ?_
    rintro e w' ⟨rfl, rfl⟩
    go_wp2_with fail
    go_ret
    exact ⟨rfl, hd⟩

set_option maxHeartbeats 1000000 in
theorem meets_any (x c : Nat) (w : World) (hx : x < 18446744073709551616) (hc : c < 1000000) : Calls Tryz.prog 231 #[.int .u64 (x : Int), .int .i64 (c : Int)] w fun e w' => e = .returned (.bool (meetsW x c)) ∧ Dr w w' := by
  have hd := Dr.refl w
  have hk := kindN_lt x
  have HR := Lib.hid (fun W => rightS_any x W hx)
  have HB := Lib.hid (fun W => blocks_any c W hc)
  cases hr : rightW x
  · rw [show meetsW x c = false by simp [meetsW, hr]]
    rw [hr] at HR
    clear hr
    go_enter Tryz.func231, Tryz.ntmps231
    go_wp2_with fail
    refine (HR.out _).mono ?_
    rintro e w' ⟨rfl, hd'⟩
    replace hd := hd.trans hd'
    go_wp2_with fail
    go_ret
    exact ⟨rfl, hd⟩
  · rw [hr] at HR
    by_cases h1 : 0 < blocksN c
    · have t1 : decide ((0 : Int) < ((blocksN c : Nat) : Int)) = true := decide_eq_true (by omega)
      have HM : Hid (meetsW x c = (decide (x = 0) || decide (kindN x = c))) := Lib.hid (by
        have a1 : (x == 0) = decide (x = 0) := by rw [Bool.eq_iff_iff, beq_iff_eq, decide_eq_true_iff]
        have a2 : (kindN x == c) = decide (kindN x = c) := by rw [Bool.eq_iff_iff, beq_iff_eq, decide_eq_true_iff]
        rw [meetsW, hr, decide_eq_true h1, a1, a2]; rfl)
      generalize blocksN c = bl at *
      clear hr
      by_cases h0 : x = 0
      · have t0 : ((x : Int) == 0) = true := by rw [beq_iff_eq]; omega
        have H0 := Lib.hid h0
        clear h0
        go_enter Tryz.func231, Tryz.ntmps231
        go_wp2_with fail
        refine (HR.out _).mono ?_
        rintro e w' ⟨rfl, hd'⟩
        replace hd := hd.trans hd'
        go_wp2_with fail
        refine (HB.out _).mono ?_
        rintro e w' ⟨rfl, rfl⟩
        go_wp2_with fail
        rw [HM.out, decide_eq_true H0.out]
        go_ret
        exact ⟨rfl, hd⟩
      · have t0 : ((x : Int) == 0) = false := by rw [beq_eq_false_iff_ne]; omega
        have HK : Hid ((((kindN x : Nat) : Int) == (c : Int)) = decide (kindN x = c)) := Lib.hid (by rw [Bool.eq_iff_iff, beq_iff_eq, decide_eq_true_iff]; omega)
        go_enter Tryz.func231, Tryz.ntmps231
        go_wp2_with fail
        refine (HR.out _).mono ?_
        rintro e w' ⟨rfl, hd'⟩
        replace hd := hd.trans hd'
        go_wp2_with fail
        refine (HB.out _).mono ?_
        rintro e w' ⟨rfl, rfl⟩
        go_wp2_with fail
        refine (kind_any x _ hx).mono ?_
        rintro e w' ⟨rfl, hd'⟩
        replace hd := hd.trans hd'
        go_wp2_with fail
        rw [HM.out, decide_eq_false h0, HK.out]
        go_ret
        exact ⟨rfl, hd⟩
    · have t1 : decide ((0 : Int) < ((blocksN c : Nat) : Int)) = false := decide_eq_false (by omega)
      rw [show meetsW x c = false by simp [meetsW, h1]]
      clear hr
      go_enter Tryz.func231, Tryz.ntmps231
      go_wp2_with fail
      refine (HR.out _).mono ?_
      rintro e w' ⟨rfl, hd'⟩
      replace hd := hd.trans hd'
      go_wp2_with fail
      refine (HB.out _).mono ?_
      rintro e w' ⟨rfl, rfl⟩
      go_wp2_with fail
      go_ret
      exact ⟨rfl, hd⟩

theorem nextS_any (x c : Nat) (w : World) (hx : x < 18446744073709551616) (hc : c < 1000000) (hT : TabB w) : Calls Tryz.prog 197 #[.int .u64 (x : Int), .int .i64 (c : Int)] w fun e w' => e = .returned (.int .i64 (optI (nextW x c))) ∧ Dr w w' := by
  have hd := Dr.refl w
  have hk := takenN_lt x
  have hb := blocksN_le c
  have HM := Lib.hid (fun W => meets_any x c W hx hc)
  have HL := Lib.hid (fun W (h : TabB W) => low_any (takenN x) (blocksN c) W (by omega) (by omega) h)
  cases hm : meetsW x c
  · rw [show nextW x c = none by simp [nextW, hm], show optI none = -1 from rfl]
    rw [hm] at HM
    clear hm
    go_enter Tryz.func197, Tryz.ntmps197
    go_wp2_with fail
    refine (HM.out _).mono ?_
    rintro e w' ⟨rfl, hd'⟩
    replace hd := hd.trans hd'
    go_wp2_with fail
    go_ret
    exact ⟨rfl, hd⟩
  · rw [show nextW x c = lowN (takenN x) (blocksN c) by simp [nextW, hm]]
    rw [hm] at HM
    clear hm
    go_enter Tryz.func197, Tryz.ntmps197
    go_wp2_with fail
    refine (HM.out _).mono ?_
    rintro e w' ⟨rfl, hd'⟩
    replace hd := hd.trans hd'
    go_wp2_with fail
    refine (taken_any x _ hx).mono ?_
    rintro e w' ⟨rfl, hd'⟩
    replace hd := hd.trans hd'
    go_wp2_with fail
    refine (blocks_any c _ hc).mono ?_
    rintro e w' ⟨rfl, rfl⟩
    go_wp2_with fail
    refine (HL.out _ (hT.dr hd)).mono ?_
    rintro e w' ⟨rfl, hd'⟩
    replace hd := hd.trans hd'
    go_wp2_with fail
    go_ret
    exact ⟨rfl, hd⟩

theorem takeW_lt (x c a : Nat) (hx : x < 18446744073709551616) (ha : a ≤ 16) : (takeW x c a).1 < 18446744073709551616 := by
  unfold takeW
  split
  · exact hx
  · exact withB_lt _ _ _ _ (withB_lt _ _ _ _ hx (by omega)) (by omega)
theorem dropW_lt (x a : Nat) (hx : x < 18446744073709551616) (ha : a ≤ 16) : (dropW x a).1 < 18446744073709551616 := by
  unfold dropW
  split
  · exact hx
  · split
    · decide
    · exact withB_lt _ _ _ _ hx (by omega)

set_option maxHeartbeats 1000000 in
theorem take_any (x c a : Nat) (w : World) (hx : x < 18446744073709551616) (hc : c < 4) (ha : a ≤ 16) : Calls Tryz.prog 199 #[.int .u64 (x : Int), .int .i64 (c : Int), .int .i64 (a : Int)] w fun e w' => e = .returned (.tuple #[.int .u64 ((takeW x c a).1 : Nat), .bool (takeW x c a).2]) ∧ Dr w w' := by
  have hd := Dr.refl w
  have hb := blocksN_le c
  have HM := Lib.hid (fun W => meets_any x c W hx (by omega))
  have t0 : decide ((a : Int) < 0) = false := by simp
  cases hm : meetsW x c
  · rw [show takeW x c a = (x, false) by simp [takeW, hm]]
    rw [hm] at HM
    clear hm
    go_enter Tryz.func199, Tryz.ntmps199
    go_wp2_with fail
    refine (HM.out _).mono ?_
    rintro e w' ⟨rfl, hd'⟩
    replace hd := hd.trans hd'
    go_wp2_with fail
    go_ret2
    exact ⟨rfl, hd⟩
  · rw [hm] at HM
    by_cases h1 : blocksN c ≤ a
    · have t1 : decide (((blocksN c : Nat) : Int) ≤ (a : Int)) = true := decide_eq_true (by omega)
      rw [show takeW x c a = (x, false) by simp [takeW, h1]]
      clear hm
      go_enter Tryz.func199, Tryz.ntmps199
      go_wp2_with fail
      refine (HM.out _).mono ?_
      rintro e w' ⟨rfl, hd'⟩
      replace hd := hd.trans hd'
      go_wp2_with fail
      refine (blocks_any c _ (by omega)).mono ?_
      rintro e w' ⟨rfl, rfl⟩
      go_wp2_with fail
      go_ret2
      exact ⟨rfl, hd⟩
    · have t1 : decide (((blocksN c : Nat) : Int) ≤ (a : Int)) = false := decide_eq_false (by omega)
      have HH := Lib.hid (fun W => hasS_any x a W hx (by omega))
      cases hh : hasW x a
      · rw [hh] at HH
        have w1 := withB_lt x a 1 1 hx (by omega)
        have HW1 := Lib.hid (fun W => with_any x a 1 1 W hx (by decide) (by omega))
        have HW2 := Lib.hid (fun W => with_any (withB x a 1 1) 16 2 c W w1 (by omega) (by decide))
        have e1 : IntKind.u64.wrap (c : Int) = (c : Int) := by rw [IntKind.wrap_u64]; omega
        have HT : Hid (takeW x c a = (withB (withB x a 1 1) 16 2 c, true)) := Lib.hid (by simp only [takeW, hm, hh]; simp; omega)
        clear hm hh
        go_enter Tryz.func199, Tryz.ntmps199
        go_wp2_with fail
        refine (HM.out _).mono ?_
        rintro e w' ⟨rfl, hd'⟩
        replace hd := hd.trans hd'
        go_wp2_with fail
        refine (blocks_any c _ (by omega)).mono ?_
        rintro e w' ⟨rfl, rfl⟩
        go_wp2_with fail
        refine (HH.out _).mono ?_
        rintro e w' ⟨rfl, hd'⟩
        replace hd := hd.trans hd'
        go_wp2_with fail
        refine (HW1.out _).mono ?_
        rintro e w' ⟨rfl, hd'⟩
        replace hd := hd.trans hd'
        go_wp2_with fail
        refine (HW2.out _).mono ?_
        rintro e w' ⟨rfl, hd'⟩
        replace hd := hd.trans hd'
        go_wp2_with fail
        rw [HT.out]
        go_ret2
        exact ⟨rfl, hd⟩
      · rw [hh] at HH
        rw [show takeW x c a = (x, false) by simp [takeW, hh]]
        clear hm hh
        go_enter Tryz.func199, Tryz.ntmps199
        go_wp2_with fail
        refine (HM.out _).mono ?_
        rintro e w' ⟨rfl, hd'⟩
        replace hd := hd.trans hd'
        go_wp2_with fail
        refine (blocks_any c _ (by omega)).mono ?_
        rintro e w' ⟨rfl, rfl⟩
        go_wp2_with fail
        refine (HH.out _).mono ?_
        rintro e w' ⟨rfl, hd'⟩
        replace hd := hd.trans hd'
        go_wp2_with fail
        go_ret2
        exact ⟨rfl, hd⟩

set_option maxHeartbeats 1000000 in
theorem drop_any (x a : Nat) (w : World) (hx : x < 18446744073709551616) (ha : a ≤ 16) : Calls Tryz.prog 153 #[.int .u64 (x : Int), .int .i64 (a : Int)] w fun e w' => e = .returned (.tuple #[.int .u64 ((dropW x a).1 : Nat), .bool (dropW x a).2]) ∧ Dr w w' := by
  have hd := Dr.refl w
  have HH := Lib.hid (fun W => hasS_any x a W hx (by omega))
  cases hh : hasW x a
  · rw [hh] at HH
    rw [show dropW x a = (x, false) by simp [dropW, hh]]
    clear hh
    go_enter Tryz.func153, Tryz.ntmps153
    go_wp2_with fail
    refine (HH.out _).mono ?_
    rintro e w' ⟨rfl, hd'⟩
    replace hd := hd.trans hd'
    go_wp2_with fail
    go_ret2
    exact ⟨rfl, hd⟩
  · rw [hh] at HH
    have w1 := withB_lt x a 1 0 hx (by omega)
    have HW1 := Lib.hid (fun W => with_any x a 1 0 W hx (by decide) (by omega))
    have HK := Lib.hid (fun W => taken_any (withB x a 1 0) W w1)
    by_cases h0 : takenN (withB x a 1 0) = 0
    · have t0 : (((takenN (withB x a 1 0) : Nat) : Int) == 0) = true := by rw [beq_iff_eq]; omega
      rw [show dropW x a = (0, true) by simp [dropW, hh, h0]]
      clear hh h0
      go_enter Tryz.func153, Tryz.ntmps153
      go_wp2_with fail
      refine (HH.out _).mono ?_
      rintro e w' ⟨rfl, hd'⟩
      replace hd := hd.trans hd'
      go_wp2_with fail
      refine (HW1.out _).mono ?_
      rintro e w' ⟨rfl, hd'⟩
      replace hd := hd.trans hd'
      go_wp2_with fail
      refine (HK.out _).mono ?_
      rintro e w' ⟨rfl, hd'⟩
      replace hd := hd.trans hd'
      go_wp2_with fail
      go_ret2
      exact ⟨rfl, hd⟩
    · have t0 : (((takenN (withB x a 1 0) : Nat) : Int) == 0) = false := by rw [beq_eq_false_iff_ne]; omega
      rw [show dropW x a = (withB x a 1 0, true) by simp [dropW, hh, h0]]
      clear hh h0
      go_enter Tryz.func153, Tryz.ntmps153
      go_wp2_with fail
      refine (HH.out _).mono ?_
      rintro e w' ⟨rfl, hd'⟩
      replace hd := hd.trans hd'
      go_wp2_with fail
      refine (HW1.out _).mono ?_
      rintro e w' ⟨rfl, hd'⟩
      replace hd := hd.trans hd'
      go_wp2_with fail
      refine (HK.out _).mono ?_
      rintro e w' ⟨rfl, hd'⟩
      replace hd := hd.trans hd'
      go_wp2_with fail
      go_ret2
      exact ⟨rfl, hd⟩

end Go.Proofs.YtcelabojehaioaaGreatDoor

/- Rows whose elements have several cells: one more at the end. No statement of the program. -/
namespace Go.Proofs.YtcelabojehaioaaGreatDoor
open Go.RowKit

/-- A slice type, its element type of k cells, that one's zero and bytes. -/
structure RowTyK (P : Program) (t e : TypeId) (z : Value) (k bytes : Nat) : Prop where
  ht : P.underlying t = some (.slice e)
  hi : (P.info? e).map (fun i => (i.zero, i.size, i.bytes)) = some (some z, k, bytes)
  hz : z.cells.size = k

theorem append_one {P : Program} {t e : TypeId} {z : Value} {k bytes : Nat} (T : RowTyK P t e z k bytes) (ty : TypeId) {w : World} {base : Nat} {v : Value} {n : Nat} {xs news : List Value}
    (hown : w.ownsRow base e k v n xs) (b : Nat) (hb : Blk w b e news) (hk : news.length = k) (hk0 : 0 < k) (h1 : ∀ u ∈ news, u.oneCell' = true) (hm : n ≤ 1000000) (hby : bytes ≤ 1000) (hbase : base ≤ w.heap.size) (c : Nat) :
    ∃ g cap w', (Builtin.append_ #[t, t] ty #[v, .slice (some ⟨b, 0, none⟩) 1 c]).run P w = .ok (.slice (some ⟨g, 0, none⟩) (n + 1) cap) w' ∧ w'.ownsRow base e k (.slice (some ⟨g, 0, none⟩) (n + 1) cap) (n + 1) (xs ++ news) ∧ Below base w w' ∧ Kept w w' v.ownBlock ∧ (v.ownBlock = some g ∨ g = w.heap.size) := by
  obtain ⟨i, hi, hz0, hz1, hz2⟩ := info_parts T.hi
  have hnews : ∀ j u, news[j]? = some u → w.cell? ((⟨b, 0, none⟩ : Addr).add j) = some u := fun j u hu => by
    rw [Addr.add_lit, Nat.zero_add, hb.cell, hu]
  have hmul : (n + 1) * bytes ≤ 1000001 * 1000 := Nat.mul_le_mul (by omega) hby
  obtain ⟨g, cap, w', a1, a2, a3, a4, a5⟩ := run_append_lies (P := P) w t ty base e i z k bytes T.ht hi hz0 hz1 hz2 T.hz hk0 v n xs hown ⟨b, 0, none⟩ 1 c news (by rw [hk, Nat.one_mul]) hnews h1 (by decide) (by unfold maxLen; omega) (by omega) hbase _ rfl
  exact ⟨g, cap, w', a1, a2, (Below.refl _ _).grown a3 hbase (fun k hk => (hown.lt k hk).1), ⟨a3.size, fun j hj hr => a3.block j hj hr⟩, a4⟩

theorem wpList_app_one {P : Program} {ops : Array Oper} {rest : List Oper} {o : Oper} {a : Act} {w : World} {Q : Exit → Act → World → Prop} (hgd : o.guard = none) (s x : Operand) (t : TypeId)
    (ho : o.op = .call { callee := .builtin .append, args := #[s, x], argTypes := #[t, t] }) {e : TypeId} {z : Value} {k bytes : Nat} (T : RowTyK P t e z k bytes)
    (wr : World) (base : Nat) (v : Value) (n : Nat) (xs news : List Value) (hs : a.eval s = v) (hown : wr.ownsRow base e k v n xs) (hw : w = wr.alloc (.cells news.toArray e)) (b c : Nat) (hx : a.eval x = .slice (some ⟨b, 0, none⟩) 1 c) (hb : b = wr.heap.size)
    (hk : news.length = k) (hk0 : 0 < k) (h1 : ∀ u ∈ news, u.oneCell' = true) (hm : n ≤ 1000000) (hby : bytes ≤ 1000) (hbase : base ≤ wr.heap.size)
    (h : ∀ g cap w', w'.ownsRow base e k (.slice (some ⟨g, 0, none⟩) (n + 1) cap) (n + 1) (xs ++ news) → Below base wr w' → Kept wr w' v.ownBlock → (v.ownBlock = some g ∨ wr.heap.size ≤ g) → wpList P ops Q rest (a.put o.dst (.slice (some ⟨g, 0, none⟩) (n + 1) cap)) w') : wpList P ops Q (o :: rest) a w := by
  refine wpList_plain hgd fun K hK => ?_
  subst hw hb
  have hbl : Below wr.heap.size wr (wr.alloc (.cells news.toArray e)) := (Below.refl _ _).alloc (Nat.le_refl _) _
  have hown' : (wr.alloc (.cells news.toArray e)).ownsRow base e k v n xs := by
    refine ⟨hown.1, ?_⟩
    rcases hown.2 with h | ⟨g, cap, cur, h1, h2, h3, h4⟩
    · exact .inl h
    · exact .inr ⟨g, cap, cur, h1, h2, by rw [hbl.block g (Array.getElem?_eq_some_iff.1 h3).1]; exact h3, h4⟩
  obtain ⟨g, cap, w', hrun, h2, h3, h4, h5⟩ := append_one T o.type hown' wr.heap.size (heap_alloc_new wr _) hk hk0 h1 hm hby (by simp; omega) c
  unfold Oper.wp execOp
  simp only [ho, resolve, invoke, builtin, Sem.run_bind, Sem.run_pure, Result.andThen_ok, List.map_toArray, List.map_cons, List.map_nil, hs, hx, hrun]
  refine hK _ _ (h g cap w' h2 ((hbl.mono hbase).trans h3) ⟨Nat.le_trans hbl.size h4.1, fun j hj hr => (h4.2 j (Nat.lt_of_lt_of_le hj hbl.size) hr).trans (hbl.block j hj)⟩ (h5.imp id (fun e => by rw [e]; simp)))

end Go.Proofs.YtcelabojehaioaaGreatDoor

/- Maps with integer keys, known whole. No statement of the program. -/
namespace Go.Proofs.YtcelabojehaioaaGreatDoor
open Go.RowKit

/-- A map's block is written. -/
def putMap (W : World) (r : Nat) (es : Array MapEntry) (c : Nat) : World := { W with heap := W.heap.setIfInBounds r (.map es c) }

theorem putMap_size (W : World) (r : Nat) (es : Array MapEntry) (c : Nat) : (putMap W r es c).heap.size = W.heap.size := by simp [putMap]
theorem putMap_at (W : World) (r : Nat) (es : Array MapEntry) (c : Nat) (h : r < W.heap.size) : (putMap W r es c).heap[r]? = some (.map es c) := by simp [putMap, h]
theorem putMap_touch (W : World) (r : Nat) (es : Array MapEntry) (c : Nat) : Touch (fun b => b = r) W (putMap W r es c) :=
  ⟨rfl, rfl, rfl, by simp [putMap], fun k hk hn => by
    simp only [putMap]
    rw [Array.getElem?_setIfInBounds, if_neg (fun e => hn e.symm)]⟩

theorem getMap_run {P : Program} {w : World} {r : Nat} {es : Array MapEntry} {c : Nat} (hb : w.heap[r]? = some (.map es c)) : (getObj r).run P w = .ok (.map es c) w := by simp [getObj, Sem.run, hb]
theorem setMap_run {P : Program} {w : World} {r : Nat} {es : Array MapEntry} {c : Nat} (o : Obj) (hb : w.heap[r]? = some (.map es c)) : (setObj r o).run P w = .ok () { w with heap := w.heap.setIfInBounds r o } := by simp [setObj, Sem.run, hb]

theorem run_makeMap {P : Program} (t : TypeId) (w : World) : (Instr.makeMap t none).run P w = .ok (.map (some w.heap.size)) (w.alloc (.map #[] 0)) := by
  simp [Instr.makeMap, Result.andThen]

theorem run_checkKey_int {P : Program} {kt : TypeId} {d : IntKind} (hk : P.underlying kt = some (.int d)) (b : Bool) (n : Nat) (q : IntKind) (k : Int) (w : World) : (Instr.checkKey b (n + 1) kt (.int q k)).run P w = .ok () w := by
  simp [Instr.checkKey, run_underlying hk, Result.andThen]

theorem run_ins {P : Program} {t kt et : TypeId} {d : IntKind} (ht : P.underlying t = some (.map kt et)) (hk : P.underlying kt = some (.int d)) (W : World) (r : Nat) (es : Array MapEntry) (c : Nat) (k : Int) (v : Value)
    (h : W.heap[r]? = some (.map es c)) (hf : Instr.findNow (.int d) (.int d k) es.toList 0 = some none) :
    (Instr.mapUpdate t (.map (some r)) (.int d k) v).run P W = .ok () (putMap W r (es.push { key := .int d k, val := v, born := c }) (c + 1)) := by
  have h1 := run_underlying (P := P) ht
  have h2 := run_underlying (P := P) hk
  have h3 := fun w => run_checkKey_int (P := P) hk false 9999 d k w
  have h4 := getMap_run (P := P) h
  have h5 := fun o => setMap_run (P := P) o h
  simp [Instr.mapUpdate, h1, h2, h3, h4, h5, Instr.findKey, hf, putMap, Result.andThen]

theorem run_look {P : Program} {t kt et : TypeId} {d : IntKind} (ht : P.underlying t = some (.map kt et)) (hk : P.underlying kt = some (.int d)) (W : World) (r : Nat) (es : Array MapEntry) (c : Nat) (k : Int) (i : Nat) (v : Value)
    (h : W.heap[r]? = some (.map es c)) (hf : Instr.findNow (.int d) (.int d k) es.toList 0 = some (some (i, v))) :
    (Instr.lookup t (.map (some r)) (.int d k) false).run P W = .ok v W := by
  have h1 := run_underlying (P := P) ht
  have h2 := run_underlying (P := P) hk
  have h3 := fun b w => run_checkKey_int (P := P) hk b 9999 d k w
  have h4 := getMap_run (P := P) h
  simp [Instr.lookup, h1, h2, h3, h4, Instr.findKey, hf, Result.andThen]

end Go.Proofs.YtcelabojehaioaaGreatDoor

/- Walks of package crc. -/
namespace Go.Proofs.YtcelabojehaioaaGreatDoor
open Go.RowKit

def TabF (w : World) : Prop := ∀ j, j < 16 → w.cell? ⟨0, j, none⟩ = some (.int .u32 (foursN.getD j 0 : Nat))

theorem fours_lt (j : Nat) : foursN.getD j 0 < 4294967296 := by
  rcases Nat.lt_or_ge j 16 with h | h
  · have key : ∀ k : Fin 16, foursN.getD k.val 0 < 4294967296 := by decide
    exact key ⟨j, h⟩
  · rw [List.getD_eq_getElem?_getD, List.getElem?_eq_none (by simpa [foursN] using h)]; decide

theorem crc_and (y : Nat) (hy : y < 4294967296) : bits .and .u32 (y : Int) 15 = ((y % 16 : Nat) : Int) := by
  rw [show (15 : Int) = ((15 : Nat) : Int) from rfl, u32_and_nat _ _ hy (by decide), nat_mask4]
theorem crc_xor (y : Nat) (hy : y < 4294967296) : bits .xor .u32 ((y : Int) / 16) ((foursN.getD (y % 16) 0 : Nat) : Int) = (crcStep y : Nat) := by
  rw [show (y : Int) / 16 = ((y / 16 : Nat) : Int) by omega, u32_xor_nat _ _ (by omega) (fours_lt _)]; rfl

set_option maxHeartbeats 2000000 in
theorem crcNext_any (sum : Nat) (A : Option Addr) (n c : Nat) (l : List UInt8) (w : World) (hs : sum < 4294967296) (hn : n ≤ 1000000) (h : Bs w A n l) (hT : TabF w) :
    Calls Tryz.prog 227 #[.int .u32 (sum : Int), .slice A n c] w fun e w' => e = .returned (.int .u32 (crcNext sum l : Nat)) ∧ w = w' := by
  have hlen := h.len
  have e0 : bits .xor .u32 IntKind.u32.max (sum : Int) = ((crcTo sum l 0 : Nat) : Int) := by
    rw [show IntKind.u32.max = ((4294967295 : Nat) : Int) from rfl, u32_xor_nat _ _ (by decide) hs, crcTo_zero, Nat.xor_comm]
  have HH := Lib.hid h
  clear h
  go_enter Tryz.func227, Tryz.ntmps227
  go_wp2_with fail
  go_loop [5, 12] (fun x i => ∃ k : Nat, k ≤ n ∧ i = .int .i64 k ∧ x = .int .u32 ((crcTo sum l k : Nat) : Int)) (fun _ i => n - (intOf i).toNat)
  case atStart => exact ⟨0, Nat.zero_le _, rfl, rfl⟩
  case round =>
    obtain ⟨k, hk, rfl, rfl⟩ := hrel
    have hlt := crcTo_lt sum l hs k (by omega)
    by_cases hkn : k < n
    · obtain ⟨hkl, b, off, rfl, hb, hc⟩ := HH.out.at hkn
      have hcb : l[k].toNat < 256 := UInt8.toNat_lt _
      have HS := Lib.hid (crcTo_succ sum l k hkl)
      generalize crcTo sum l k = x at *
      generalize l[k].toNat = b at *
      have hy : x ^^^ b < 4294967296 := Nat.xor_lt_two_pow (n := 32) hlt (by omega)
      have a1 : bits .xor .u32 (x : Int) (b : Int) = ((x ^^^ b : Nat) : Int) := u32_xor_nat _ _ hlt (by omega)
      have a2 := crc_and _ hy
      have a3 := crc_xor _ hy
      have c1 := hT ((x ^^^ b) % 16) (Nat.mod_lt _ (by decide))
      have HB : Hid (crcByte x b = crcStep (crcStep (x ^^^ b))) := Lib.hid rfl
      generalize x ^^^ b = y at *
      have hz := crcStep_lt y hy
      generalize crcStep y = z at *
      have b2 := crc_and _ hz
      have b3 := crc_xor _ hz
      have c2 := hT (z % 16) (Nat.mod_lt _ (by decide))
      generalize foursN.getD (y % 16) 0 = f1 at *
      generalize foursN.getD (z % 16) 0 = f2 at *
      go_wp2
      trace_state
      go_round
      case rel => exact ⟨k + 1, by omega, by go_num, by rw [HS.out, HB.out]⟩
      case measure => simp [intOf]; omega
    · have hkn : k = n := by omega
      subst hkn
      have e1 : bits .xor .u32 IntKind.u32.max ((crcTo sum l k : Nat) : Int) = (crcNext sum l : Nat) := by
        rw [show IntKind.u32.max = ((4294967295 : Nat) : Int) from rfl, u32_xor_nat _ _ (by decide) hlt, Nat.xor_comm, ← hlen, crcTo_all]
      go_wp2
      go_ret
      exact ⟨rfl, rfl⟩

theorem crcSum_any (A : Option Addr) (n c : Nat) (l : List UInt8) (w : World) (hn : n ≤ 1000000) (h : Bs w A n l) (hT : TabF w) :
    Calls Tryz.prog 187 #[.slice A n c] w fun e w' => e = .returned (.int .u32 (crcNext 0 l : Nat)) ∧ w = w' := by
  have HN := Lib.hid (crcNext_any 0 A n c l w (by decide) hn h hT)
  go_enter Tryz.func187, Tryz.ntmps187
  go_wp2_with fail
  refine HN.out.mono ?_
  rintro e w' ⟨rfl, rfl⟩
  go_wp2_with fail
  go_ret
  exact ⟨rfl, rfl⟩

end Go.Proofs.YtcelabojehaioaaGreatDoor

/- Rows that grow by one element in a drawn region. No statement of the program. -/
namespace Go.Proofs.YtcelabojehaioaaGreatDoor
open Go.RowKit

theorem step_app_one {P : Program} {ops : Array Oper} {o : Oper} {a : Act} {w : World} {K : Act → World → Prop} {Q : Exit → Act → World → Prop} {E : Prop} (hgd : o.guard = none) (s x : Operand) (t : TypeId)
    (ho : o.op = .call { callee := .builtin .append, args := #[s, x], argTypes := #[t, t] }) {e : TypeId} {z : Value} {k bytes : Nat} (T : RowTyK P t e z k bytes)
    (wr : World) (base : Nat) (v : Value) (n : Nat) (xs news : List Value) (hs : a.eval s = v) (hown : wr.ownsRow base e k v n xs) (hw : w.heap = wr.heap.push (.cells news.toArray e))
    (hos : w.os = wr.os) (htape : w.tape = wr.tape) (hout : w.output = wr.output) (gx c : Nat) (hx : a.eval x = .slice (some ⟨gx, 0, none⟩) 1 c) (hgx : wr.heap.size = gx)
    (hk : news.length = k) (hk0 : 0 < k) (h1 : ∀ u ∈ news, u.oneCell' = true) (hm : n ≤ 1000000) (hby : bytes ≤ 1000) (hbase : base ≤ wr.heap.size)
    (h : ∀ g cap w', w'.ownsRow base e k (.slice (some ⟨g, 0, none⟩) (n + 1) cap) (n + 1) (xs ++ news) → Below base wr w' → Kept wr w' v.ownBlock → (v.ownBlock = some g ∨ wr.heap.size ≤ g) → K (a.put o.dst (.slice (some ⟨g, 0, none⟩) (n + 1) cap)) w') :
    if Region.wanted o (yielded ops a.tmps) = true then Oper.wp P o a w K Q else E := by
  have hwt : Region.wanted o (yielded ops a.tmps) = true := by simp [Region.wanted, hgd]
  rw [if_pos hwt]
  subst hgx
  have hbl : Below wr.heap.size wr w := ⟨hos, htape, hout, by rw [hw]; simp, fun k hk => by rw [hw, Array.getElem?_push, if_neg (by omega)]⟩
  have hown' : w.ownsRow base e k v n xs := by
    refine ⟨hown.1, ?_⟩
    rcases hown.2 with h | ⟨g, cap, cur, h1, h2, h3, h4⟩
    · exact .inl h
    · exact .inr ⟨g, cap, cur, h1, h2, by rw [hbl.block g (Array.getElem?_eq_some_iff.1 h3).1]; exact h3, h4⟩
  have hb : Blk w wr.heap.size e news := by unfold Blk; rw [hw, Array.getElem?_push, if_pos rfl]
  obtain ⟨g, cap, w', hrun, h2, h3, h4, h5⟩ := append_one T o.type hown' wr.heap.size hb hk hk0 h1 hm hby (Nat.le_trans hbase hbl.size) c
  unfold Oper.wp execOp
  simp only [ho, resolve, invoke, builtin, Sem.run_bind, Sem.run_pure, Result.andThen_ok, List.map_toArray, List.map_cons, List.map_nil, hs, hx, hrun]
  exact h g cap w' h2 ((hbl.mono hbase).trans h3) ⟨Nat.le_trans hbl.size h4.1, fun j hj hr => (h4.2 j (Nat.lt_of_lt_of_le hj hbl.size) hr).trans (hbl.block j hj)⟩ (h5.imp id (fun e => by rw [e]; exact hbl.size))

end Go.Proofs.YtcelabojehaioaaGreatDoor

/- append onto a slice without room: nothing old turns. No statement of the program. -/
namespace Go.Proofs.YtcelabojehaioaaGreatDoor
open Go.RowKit

/-- Where such an append leaves its elements. -/
def CutAt (w w' : World) (e : TypeId) (A A' : Option Addr) (m : Nat) : Prop := (A' = A ∧ m = 0) ∨ ∃ g cs, A' = some ⟨g, 0, none⟩ ∧ w.heap.size ≤ g ∧ w'.heap[g]? = some (.cells cs e (0, 0))

theorem append_cut {P : Program} {t e : TypeId} {z : Value} {bytes : Nat} (T : RowTy P t e z bytes) (ty : TypeId) {w : World} {A : Option Addr} {n : Nat} {xs news : List Value} (hA : Rd w A n xs) (hA0 : ∀ a, A = some a → ∃ g, a = ⟨g, 0, none⟩) (hn0 : A = none → n = 0)
    {B : Option Addr} {m : Nat} (hr : Rd w B m news) (h1 : ∀ u ∈ news, u.oneCell' = true) (hm : n + m ≤ 1000000) (hby : bytes ≤ 64) (c : Nat) :
    ∃ A' C w', (Builtin.append_ #[t, t] ty #[.slice A n n, .slice B m c]).run P w = .ok (.slice A' (n + m) C) w' ∧ n + m ≤ C ∧ Rd w' A' (n + m) (xs ++ news) ∧ Below w.heap.size w w' ∧ CutAt w w' e A A' m := by
  obtain ⟨i, hi, hz0, hz1, hz2⟩ := info_parts T.hi
  rcases B with _ | bd
  · have h0 : m = 0 := by
      rcases Nat.eq_zero_or_pos m with h0 | h0
      · exact h0
      · obtain ⟨_, _, e, _⟩ := hr.2 h0; cases e
    subst h0
    have hn : news = [] := List.eq_nil_of_length_eq_zero hr.1
    subst hn
    refine ⟨A, n, w, ?_, Nat.le_refl _, by simpa using hA, Below.refl _ _, .inl ⟨rfl, rfl⟩⟩
    rcases A with _ | a
    · have hn := hn0 rfl
      subst hn
      simp [Builtin.append_, run_underlying T.ht, sizeOf, typeInfo, hi, Builtin.lenOf, Builtin.firstCells]
    · simp [Builtin.append_, run_underlying T.ht, sizeOf, typeInfo, hi, Builtin.lenOf, Builtin.firstCells, storeCells]
  · have hcells : ∀ j u, news[j]? = some u → w.cell? (bd.add j) = some u := by
      intro j u hu
      have hj : j < m := by
        have := (List.getElem?_eq_some_iff.1 hu).1
        have := hr.1
        omega
      obtain ⟨b, off, e, _, hc⟩ := hr.2 (by omega)
      injection e with e
      subst e
      rw [Addr.add_lit, hc j hj, hu]
    rcases A with _ | a
    · have hn := hn0 rfl
      subst hn
      have hxs : xs = [] := List.eq_nil_of_length_eq_zero hA.1
      subst hxs
      obtain ⟨v', w', hrun, h2, h3, h4⟩ := append_rd2 T ty (World.ownsRow_nil w w.heap.size e 1) hr h1 (by omega) hby (Nat.le_refl _) c
      obtain ⟨A', C, rfl, hc, hrd⟩ := rd_of_own h2
      refine ⟨A', C, w', hrun, hc, hrd, h3, ?_⟩
      rcases h2.2 with ⟨e1, e2⟩ | ⟨g, cap, cur, e1, e2, e3, _⟩
      · simp only [Value.slice.injEq] at e1
        exact .inl ⟨e1.1, by omega⟩
      · simp only [Value.slice.injEq] at e1
        exact .inr ⟨g, _, e1.1, e2, e3⟩
    · obtain ⟨g, rfl⟩ := hA0 a rfl
      rcases Nat.eq_zero_or_pos m with h0 | h0
      · subst h0
        have hn : news = [] := List.eq_nil_of_length_eq_zero hr.1
        subst hn
        have hrun := run_append_room_cells (P := P) w t ty e i T.ht hi g 0 n n bd 0 c [] (by simp) (by simp) (by simp) (by omega) (by simp) (by simp)
        exact ⟨_, n, w, hrun, Nat.le_refl _, by simpa using hA, Below.refl _ _, .inl ⟨rfl, rfl⟩⟩
      · have holds : ∀ j u, xs[j]? = some u → w.cell? ((⟨g, 0, none⟩ : Addr).add j) = some u := by
          intro j u hu
          have hj : j < n := by
            have := (List.getElem?_eq_some_iff.1 hu).1
            have := hA.1
            omega
          obtain ⟨b, off, e, _, hc⟩ := hA.2 (by omega)
          injection e with e
          injection e with e1 e2
          subst e1 e2
          rw [Addr.add_lit, hc j hj, hu]
        have hmul : (n + m) * bytes ≤ 1000000 * 64 := Nat.mul_le_mul hm hby
        obtain ⟨v', w', hrun, h2, h3⟩ := run_append_arg_grows (P := P) w t ty e i z 1 bytes T.ht hi hz0 hz1 hz2 T.hz (by decide) ⟨g, 0, none⟩ n n xs (by have := hA.1; omega) holds bd m c news (by have := hr.1; omega) hcells (by omega) (by unfold maxLen; omega) (by omega)
        obtain ⟨A', C, rfl, hc, hrd⟩ := rd_of_own h2
        refine ⟨A', C, w', hrun, hc, hrd, (Below.refl _ _).grown h3 (Nat.le_refl _) (fun k hk => nomatch hk), ?_⟩
        rcases h2.2 with ⟨e1, e2⟩ | ⟨g', cap, cur, e1, e2, e3, _⟩
        · omega
        · simp only [Value.slice.injEq] at e1
          exact .inr ⟨g', _, e1.1, e2, e3⟩

theorem step_app_cut {P : Program} {ops : Array Oper} {o : Oper} {a : Act} {w : World} {K : Act → World → Prop} {Q : Exit → Act → World → Prop} {E : Prop} (hgd : o.guard = none) (s x : Operand) (t : TypeId)
    (ho : o.op = .call { callee := .builtin .append, args := #[s, x], argTypes := #[t, t] }) {e : TypeId} {z : Value} {bytes : Nat} (T : RowTy P t e z bytes)
    (A : Option Addr) (n : Nat) (xs : List Value) (hs : a.eval s = .slice A n n) (hA : Rd w A n xs) (hA0 : ∀ a, A = some a → ∃ g, a = ⟨g, 0, none⟩) (hn0 : A = none → n = 0)
    (B : Option Addr) (m c : Nat) (news : List Value) (hx : a.eval x = .slice B m c) (hr : Rd w B m news) (h1 : ∀ u ∈ news, u.oneCell' = true) (hm : n + m ≤ 1000000) (hby : bytes ≤ 64)
    (h : ∀ A' C w', n + m ≤ C → Rd w' A' (n + m) (xs ++ news) → Below w.heap.size w w' → CutAt w w' e A A' m → K (a.put o.dst (.slice A' (n + m) C)) w') :
    if Region.wanted o (yielded ops a.tmps) = true then Oper.wp P o a w K Q else E := by
  have hwt : Region.wanted o (yielded ops a.tmps) = true := by simp [Region.wanted, hgd]
  rw [if_pos hwt]
  obtain ⟨A', C, w', hrun, h2, h3, h4, h5⟩ := append_cut T o.type hA hA0 hn0 hr h1 hm hby c
  unfold Oper.wp execOp
  simp only [ho, resolve, invoke, builtin, Sem.run_bind, Sem.run_pure, Result.andThen_ok, List.map_toArray, List.map_cons, List.map_nil, hs, hx, hrun]
  exact h A' C w' h2 h3 h4 h5

/-- The same, of one value that was laid just ahead of it. -/
theorem step_app_cut1 {P : Program} {ops : Array Oper} {o : Oper} {a : Act} {w : World} {K : Act → World → Prop} {Q : Exit → Act → World → Prop} {E : Prop} (hgd : o.guard = none) (s x : Operand) (t : TypeId)
    (ho : o.op = .call { callee := .builtin .append, args := #[s, x], argTypes := #[t, t] }) {e : TypeId} {z : Value} {bytes : Nat} (T : RowTy P t e z bytes)
    (wr : World) (A : Option Addr) (n : Nat) (xs : List Value) (hs : a.eval s = .slice A n n) (hA : Rd wr A n xs) (hA0 : ∀ a, A = some a → ∃ g, a = ⟨g, 0, none⟩) (hn0 : A = none → n = 0)
    (u : Value) (hw : w.heap = wr.heap.push (.cells #[u] e)) (hos : w.os = wr.os) (htape : w.tape = wr.tape) (hout : w.output = wr.output) (gx c : Nat) (hx : a.eval x = .slice (some ⟨gx, 0, none⟩) 1 c) (hgx : wr.heap.size = gx)
    (h1 : u.oneCell' = true) (hm : n + 1 ≤ 1000000) (hby : bytes ≤ 64)
    (h : ∀ A' C w', n + 1 ≤ C → Rd w' A' (n + 1) (xs ++ [u]) → Below wr.heap.size wr w' → CutAt wr w' e A A' 1 → K (a.put o.dst (.slice A' (n + 1) C)) w') :
    if Region.wanted o (yielded ops a.tmps) = true then Oper.wp P o a w K Q else E := by
  subst hgx
  have hbl : Below wr.heap.size wr w := ⟨hos, htape, hout, by rw [hw]; simp, fun k hk => by rw [hw, Array.getElem?_push, if_neg (by omega)]⟩
  have hb : Blk w wr.heap.size e [u] := by unfold Blk; rw [hw, Array.getElem?_push, if_pos rfl]
  refine step_app_cut hgd s x t ho T A n xs hs (Rd.below hA hbl) hA0 hn0 (some ⟨wr.heap.size, 0, none⟩) 1 c [u] hx hb.rd (fun v hv => by rw [List.mem_singleton] at hv; exact hv ▸ h1) hm hby ?_
  intro A' C w' q1 q2 q3 q4
  refine h A' C w' q1 q2 (hbl.trans (q3.mono hbl.size)) ?_
  rcases q4 with h2 | ⟨g, cs, h2, h3, h4⟩
  · exact .inl h2
  · exact .inr ⟨g, cs, h2, Nat.le_trans hbl.size h3, h4⟩

end Go.Proofs.YtcelabojehaioaaGreatDoor

/- append of whole rows whose elements have several cells. No statement of the program. -/
namespace Go.Proofs.YtcelabojehaioaaGreatDoor
open Go.RowKit

theorem append_rdk {P : Program} {t e : TypeId} {z : Value} {k bytes : Nat} (T : RowTyK P t e z k bytes) (hk0 : 0 < k) (ty : TypeId) {w : World} {base : Nat} {v : Value} {n : Nat} {xs news : List Value}
    (hown : w.ownsRow base e k v n xs) {A : Option Addr} {m : Nat} (hr : Rd w A (m * k) news)
    (h1 : ∀ u ∈ news, u.oneCell' = true) (hm : n + m ≤ 1000000) (hby : bytes ≤ 1000) (hbase : base ≤ w.heap.size) (c : Nat) :
    ∃ v' w', (Builtin.append_ #[t, t] ty #[v, .slice A m c]).run P w = .ok v' w' ∧ w'.ownsRow base e k v' (n + m) (xs ++ news) ∧ Below base w w' ∧ Kept w w' v.ownBlock := by
  obtain ⟨i, hi, hz0, hz1, hz2⟩ := info_parts T.hi
  rcases A with _ | ad
  · have h0 : m = 0 := by
      rcases Nat.eq_zero_or_pos m with h0 | h0
      · exact h0
      · obtain ⟨_, _, e, _⟩ := hr.2 (Nat.mul_pos h0 hk0); cases e
    subst h0
    have hn : news = [] := List.eq_nil_of_length_eq_zero (by have := hr.1; omega)
    subst hn
    refine ⟨v, w, ?_, by simpa using hown, Below.refl _ _, Kept.refl _ _⟩
    rcases hown.2 with ⟨rfl, rfl⟩ | ⟨g, cap, cur, rfl, _, _, hnc, _⟩
    · simp [Builtin.append_, run_underlying T.ht, sizeOf, typeInfo, hi, Builtin.lenOf, Builtin.firstCells]
    · simp [Builtin.append_, run_underlying T.ht, sizeOf, typeInfo, hi, Builtin.lenOf, Builtin.firstCells, hnc, storeCells]
  · have hcells : ∀ j u, news[j]? = some u → w.cell? (ad.add j) = some u := by
      intro j u hu
      have hj : j < m * k := by
        have := (List.getElem?_eq_some_iff.1 hu).1
        have := hr.1
        omega
      obtain ⟨b, off, e, _, hc⟩ := hr.2 (by omega)
      injection e with e
      subst e
      rw [Addr.add_lit, hc j hj, hu]
    have hmul : (n + m) * bytes ≤ 1000000 * 1000 := Nat.mul_le_mul hm hby
    obtain ⟨v', w', hrun, h2, h3, _⟩ := run_append_own (P := P) w base t ty e i z k bytes T.ht hi hz0 hz1 hz2 T.hz hk0 v n xs hown ad m c news hr.1 hcells h1
      (by unfold maxLen; omega) (by omega) hbase
    exact ⟨v', w', hrun, h2, (Below.refl _ _).grown h3 hbase (fun k hk => (hown.lt k hk).1), h3.size, fun k hk hne => h3.block k hk (fun h => hne h)⟩

theorem wpList_app_rows {P : Program} {ops : Array Oper} {rest : List Oper} {o : Oper} {a : Act} {w : World} {Q : Exit → Act → World → Prop} (hgd : o.guard = none) (s x : Operand) (t : TypeId)
    (ho : o.op = .call { callee := .builtin .append, args := #[s, x], argTypes := #[t, t] }) {e : TypeId} {z : Value} {k bytes : Nat} (T : RowTyK P t e z k bytes) (hk0 : 0 < k)
    (base : Nat) (v : Value) (n : Nat) (xs : List Value) (hs : a.eval s = v) (hown : w.ownsRow base e k v n xs) (A : Option Addr) (m c : Nat) (news : List Value) (hx : a.eval x = .slice A m c) (hr : Rd w A (m * k) news)
    (h1 : ∀ u ∈ news, u.oneCell' = true) (hm : n + m ≤ 1000000) (hby : bytes ≤ 1000) (hbase : base ≤ w.heap.size)
    (h : ∀ v' w', w'.ownsRow base e k v' (n + m) (xs ++ news) → Below base w w' → Kept w w' v.ownBlock → wpList P ops Q rest (a.put o.dst v') w') : wpList P ops Q (o :: rest) a w := by
  refine wpList_plain hgd fun K hK => ?_
  obtain ⟨v', w', hrun, h2, h3, h4⟩ := append_rdk T hk0 o.type hown hr h1 hm hby hbase c
  unfold Oper.wp execOp
  simp only [ho, resolve, invoke, builtin, Sem.run_bind, Sem.run_pure, Result.andThen_ok, List.map_toArray, List.map_cons, List.map_nil, hs, hx, hrun]
  exact hK _ _ (h v' w' h2 h3 h4)

end Go.Proofs.YtcelabojehaioaaGreatDoor

/- append of a whole row of several cells each, as a step of a region that draws its order (guarded or not). No statement of the program. -/
namespace Go.Proofs.YtcelabojehaioaaGreatDoor
open Go.RowKit

theorem step_app_rows {P : Program} {ops : Array Oper} {o : Oper} {a : Act} {w : World} {K : Act → World → Prop} {Q : Exit → Act → World → Prop} {E : Prop} (s x : Operand) (t : TypeId)
    (ho : o.op = .call { callee := .builtin .append, args := #[s, x], argTypes := #[t, t] }) {e : TypeId} {z : Value} {k bytes : Nat} (T : RowTyK P t e z k bytes) (hk0 : 0 < k)
    (hwt : Region.wanted o (yielded ops a.tmps) = true)
    (base : Nat) (v : Value) (n : Nat) (xs : List Value) (hs : a.eval s = v) (hown : w.ownsRow base e k v n xs) (A : Option Addr) (m c : Nat) (news : List Value) (hx : a.eval x = .slice A m c) (hr : Rd w A (m * k) news)
    (h1 : ∀ u ∈ news, u.oneCell' = true) (hm : n + m ≤ 1000000) (hby : bytes ≤ 1000) (hbase : base ≤ w.heap.size)
    (h : ∀ v' w', w'.ownsRow base e k v' (n + m) (xs ++ news) → Below base w w' → Kept w w' v.ownBlock → K (a.put o.dst v') w') :
    if Region.wanted o (yielded ops a.tmps) = true then Oper.wp P o a w K Q else E := by
  rw [if_pos hwt]
  obtain ⟨v', w', hrun, h2, h3, h4⟩ := append_rdk T hk0 o.type hown hr h1 hm hby hbase c
  unfold Oper.wp execOp
  simp only [ho, resolve, invoke, builtin, Sem.run_bind, Sem.run_pure, Result.andThen_ok, List.map_toArray, List.map_cons, List.map_nil, hs, hx, hrun]
  exact h v' w' h2 h3 h4

theorem wp_app_rows {P : Program} {o : Oper} {a : Act} {w : World} {K : Act → World → Prop} {Q : Exit → Act → World → Prop} (s x : Operand) (t : TypeId)
    (ho : o.op = .call { callee := .builtin .append, args := #[s, x], argTypes := #[t, t] }) {e : TypeId} {z : Value} {k bytes : Nat} (T : RowTyK P t e z k bytes) (hk0 : 0 < k)
    (base : Nat) (v : Value) (n : Nat) (xs : List Value) (hs : a.eval s = v) (hown : w.ownsRow base e k v n xs) (A : Option Addr) (m c : Nat) (news : List Value) (hx : a.eval x = .slice A m c) (hr : Rd w A (m * k) news)
    (h1 : ∀ u ∈ news, u.oneCell' = true) (hm : n + m ≤ 1000000) (hby : bytes ≤ 1000) (hbase : base ≤ w.heap.size)
    (h : ∀ v' w', w'.ownsRow base e k v' (n + m) (xs ++ news) → Below base w w' → Kept w w' v.ownBlock → K (a.put o.dst v') w') :
    Oper.wp P o a w K Q := by
  obtain ⟨v', w', hrun, h2, h3, h4⟩ := append_rdk T hk0 o.type hown hr h1 hm hby hbase c
  unfold Oper.wp execOp
  simp only [ho, resolve, invoke, builtin, Sem.run_bind, Sem.run_pure, Result.andThen_ok, List.map_toArray, List.map_cons, List.map_nil, hs, hx, hrun]
  exact h v' w' h2 h3 h4

end Go.Proofs.YtcelabojehaioaaGreatDoor

/- Maps from numbers to numbers: a key that is not there is put; one that is there has another value. No statement of the program. -/
namespace Go.Proofs.YtcelabojehaioaaGreatDoor
open Go.RowKit

/-- A map's entries, in the order in which they were put. -/
def metE : Nat → List (Int × Int) → List MapEntry
  | _, [] => []
  | i, (o, v) :: t => { key := .int .i64 o, val := .int .i64 v, born := i } :: metE (i + 1) t

theorem metE_app (o v : Int) : ∀ (l : List (Int × Int)) (i : Nat), metE i (l ++ [(o, v)]) = metE i l ++ [{ key := .int .i64 o, val := .int .i64 v, born := i + l.length }]
  | [], i => rfl
  | (a, b) :: t, i => by
    simp only [List.cons_append, metE, metE_app o v t (i + 1), List.length_cons]
    rw [show i + 1 + t.length = i + (t.length + 1) by omega]
theorem metE_len : ∀ (l : List (Int × Int)) (i : Nat), (metE i l).length = l.length
  | [], _ => rfl
  | (_, _) :: t, i => by simp [metE, metE_len t]

theorem find_no (k : Int) : ∀ (l : List (Int × Int)) (i n : Nat), (∀ p ∈ l, p.1 ≠ k) → Instr.findNow (.int .i64) (.int .i64 k) (metE i l) n = some none
  | [], _, _, _ => rfl
  | (a, b) :: t, i, n, h => by
    have ha : (k == a) = false := by rw [beq_eq_false_iff_ne]; exact fun e => h (a, b) (List.mem_cons_self ..) e.symm
    simp only [metE, Instr.findNow, Instr.sameNow, if_true, ha]
    exact find_no k t (i + 1) (n + 1) (fun p hp => h p (List.mem_cons_of_mem _ hp))
theorem find_yes (k v : Int) (l2 : List (Int × Int)) : ∀ (l1 : List (Int × Int)) (i n : Nat), (∀ p ∈ l1, p.1 ≠ k) → Instr.findNow (.int .i64) (.int .i64 k) (metE i (l1 ++ (k, v) :: l2)) n = some (some (n + l1.length, .int .i64 v))
  | [], _, _, _ => by simp [metE, Instr.findNow, Instr.sameNow]
  | (a, b) :: t, i, n, h => by
    have ha : (k == a) = false := by rw [beq_eq_false_iff_ne]; exact fun e => h (a, b) (List.mem_cons_self ..) e.symm
    simp only [List.cons_append, metE, Instr.findNow, Instr.sameNow, if_true, ha]
    rw [find_yes k v l2 t (i + 1) (n + 1) (fun p hp => h p (List.mem_cons_of_mem _ hp))]
    simp only [List.length_cons]
    rw [show n + 1 + t.length = n + (t.length + 1) by omega]
theorem metE_mod (k v v' : Int) (l2 : List (Int × Int)) : ∀ (l1 : List (Int × Int)) (i : Nat), (metE i (l1 ++ (k, v) :: l2)).modify l1.length (fun e => { e with key := .int .i64 k, val := .int .i64 v' }) = metE i (l1 ++ (k, v') :: l2)
  | [], i => rfl
  | (a, b) :: t, i => by
    simp only [List.cons_append, metE, List.length_cons, List.modify_succ_cons]
    rw [metE_mod k v v' l2 t (i + 1)]

/-- A map in memory. -/
def MapIs (w : World) (mb : Nat) (l : List (Int × Int)) : Prop := w.heap[mb]? = some (.map (metE 0 l).toArray l.length)

theorem MapIs.lt {w : World} {mb : Nat} {l : List (Int × Int)} (h : MapIs w mb l) : mb < w.heap.size := (Array.getElem?_eq_some_iff.1 h).1
theorem MapIs.below {w w' : World} {mb : Nat} {l : List (Int × Int)} (h : MapIs w mb l) (k : Below w.heap.size w w') : MapIs w' mb l := (k.block _ h.lt).trans h

section
variable {P : Program} {t : TypeId}

theorem look_no {kt : TypeId} (ht : P.underlying t = some (.map kt kt)) (hk : P.underlying kt = some (.int .i64)) (hz : ∀ W, (zeroValue kt).run P W = .ok (.int .i64 0) W) (W : World) (mb : Nat) (l : List (Int × Int)) (k : Int) (h : MapIs W mb l) (hn : ∀ p ∈ l, p.1 ≠ k) :
    (Instr.lookup t (.map (some mb)) (.int .i64 k) false).run P W = .ok (.int .i64 0) W := by
  have h1 := run_underlying (P := P) ht
  have h2 := run_underlying (P := P) hk
  have h3 := fun b w => run_checkKey_int (P := P) hk b 9999 .i64 k w
  have h4 := getMap_run (P := P) h
  have hf := find_no k l 0 0 hn
  simp [Instr.lookup, h1, h2, h3, h4, Instr.findKey, hf, hz, Result.andThen]
theorem look_yes {kt et : TypeId} (ht : P.underlying t = some (.map kt et)) (hk : P.underlying kt = some (.int .i64)) (W : World) (mb : Nat) (l1 l2 : List (Int × Int)) (k v : Int) (h : MapIs W mb (l1 ++ (k, v) :: l2)) (hn : ∀ p ∈ l1, p.1 ≠ k) :
    (Instr.lookup t (.map (some mb)) (.int .i64 k) false).run P W = .ok (.int .i64 v) W :=
  run_look ht hk W mb _ _ k _ _ h (by simpa using find_yes k v l2 l1 0 0 hn)
theorem upd_no {kt et : TypeId} (ht : P.underlying t = some (.map kt et)) (hk : P.underlying kt = some (.int .i64)) (W : World) (mb : Nat) (l : List (Int × Int)) (k v : Int) (h : MapIs W mb l) (hn : ∀ p ∈ l, p.1 ≠ k) :
    (Instr.mapUpdate t (.map (some mb)) (.int .i64 k) (.int .i64 v)).run P W = .ok () (putMap W mb (metE 0 (l ++ [(k, v)])).toArray (l ++ [(k, v)]).length) := by
  rw [run_ins ht hk W mb _ _ k _ h (by simpa using find_no k l 0 0 hn), metE_app]
  simp
theorem upd_yes {kt et : TypeId} (ht : P.underlying t = some (.map kt et)) (hk : P.underlying kt = some (.int .i64)) (W : World) (mb : Nat) (l1 l2 : List (Int × Int)) (k v v' : Int) (h : MapIs W mb (l1 ++ (k, v) :: l2)) (hn : ∀ p ∈ l1, p.1 ≠ k) :
    (Instr.mapUpdate t (.map (some mb)) (.int .i64 k) (.int .i64 v')).run P W = .ok () (putMap W mb (metE 0 (l1 ++ (k, v') :: l2)).toArray (l1 ++ (k, v') :: l2).length) := by
  have h1 := run_underlying (P := P) ht
  have h2 := run_underlying (P := P) hk
  have h3 := fun w => run_checkKey_int (P := P) hk false 9999 .i64 k w
  have h4 := getMap_run (P := P) h
  have h5 := fun o => setMap_run (P := P) o h
  have hf := find_yes k v l2 l1 0 0 hn
  have hm := metE_mod k v v' l2 l1 0
  have hkey : (((metE 0 (l1 ++ (k, v) :: l2)).toArray[l1.length]?).map (·.key)).getD (.int .i64 k) = .int .i64 k := by
    have : ∀ (l1 : List (Int × Int)) (i : Nat), (((metE i (l1 ++ (k, v) :: l2))[l1.length]?).map (·.key)).getD (.int .i64 k) = .int .i64 k := by
      intro l1
      induction l1 with
      | nil => intro i; rfl
      | cons p t ih => intro i; obtain ⟨a, b⟩ := p; simpa [metE] using ih (i + 1)
    simpa using this l1 0
  have hks : ∀ W, (Instr.keyThatStays (.int .i64 k) (.int .i64 k)).run P W = .ok (.int .i64 k) W := fun W => by
    have hb : Instr.sameBits 10000 (.int .i64 k) (.int .i64 k) = true := by show Instr.sameBits (9999 + 1) _ _ = true; simp [Instr.sameBits]
    simp [Instr.keyThatStays, hb]
  have hlen : (l1 ++ (k, v') :: l2).length = (l1 ++ (k, v) :: l2).length := by simp
  have harr : (metE 0 (l1 ++ (k, v) :: l2)).toArray.modify l1.length (fun e => { e with key := .int .i64 k, val := .int .i64 v' }) = (metE 0 (l1 ++ (k, v') :: l2)).toArray := by
    rw [← hm]; simp
  rw [hlen]
  simp only [Nat.zero_add] at hf
  simp only [Instr.mapUpdate, Sem.run_bind, h1, Result.andThen_ok, h4, h3, Instr.findKey, h2, hf, Sem.run_pure, hkey, hks, h5, harr, putMap]
end

end Go.Proofs.YtcelabojehaioaaGreatDoor
