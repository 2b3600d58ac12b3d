/- Walks of package nib and of its reference: Key. -/
import Derived.Test.YtaamkdejediccaaNibF
namespace Go.Proofs.Ytaamkdejediccaa
open Go.RowKit

/-- What Key answers. -/
def keyV (l : List UInt8) : Value := if keyOk l then .tuple #[.string ⟨(pairs l).toArray⟩, .bool true] else .tuple #[.string ⟨#[]⟩, .bool false]

theorem key_no (A : Option Addr) (n c : Nat) (l : List UInt8) (w : World) (hn : n ≤ 1000000) (h : Bs w A n l) (hk : keyOk l = false) :
    Calls Try.prog 15 #[.slice A n c] w fun e w' => e = .returned (.tuple #[.string ⟨#[]⟩, .bool false]) ∧ w = w' := by
  have hlen := h.len
  have hr := right_any A n c l w (by omega) h
  by_cases h2 : n % 2 = 0
  · have hnib : l.all isNib = false := by
      simpa [keyOk, hlen, h2] using hk
    rw [hnib] at hr
    have t1 : ((n : Int) % 2 != 0) = false := by simp; omega
    clear hk hnib h2
    go_enter Try.func15, Try.ntmps15
    go_wp2_with (go_at_call 43; refine hr.mono ?_; rintro e w' ⟨rfl, rfl⟩)
    go_ret2
    exact ⟨rfl, rfl⟩
  · have t1 : ((n : Int) % 2 != 0) = true := by simp; omega
    clear hk h2 hr
    go_enter Try.func15, Try.ntmps15
    go_wp2
    go_ret2
    exact ⟨rfl, rfl⟩

set_option maxHeartbeats 400000 in
theorem key_yes (A : Option Addr) (n c : Nat) (l : List UInt8) (w : World) (hn : n ≤ 1000000) (h : Bs w A n l) (hk : keyOk l = true) :
    Calls Try.prog 15 #[.slice A n c] w fun e w' => e = .returned (.tuple #[.string ⟨(pairs l).toArray⟩, .bool true]) ∧ Below w.heap.size w w' := by
  obtain ⟨i0, hi, hz0, hz1, hz2⟩ := info_parts Try.infoByte
  have hlen := h.len
  have hr := right_any A n c l w (by omega) h
  simp only [keyOk, Bool.and_eq_true, decide_eq_true_eq] at hk
  rw [hk.2] at hr
  have h2 : n % 2 = 0 := by omega
  obtain ⟨m, hm⟩ : ∃ m, n = 2 * m := ⟨n / 2, by omega⟩
  have hmn : m = l.length / 2 := by omega
  have t1 : ((n : Int) % 2 != 0) = false := by simp; omega
  have em : ((n : Int) / 2) = (m : Int) := by omega
  have HM := Lib.hid hm
  have HMN := Lib.hid hmn
  have hm1 : m ≤ n := by omega
  clear hk h2 hm hmn
  go_enter Try.func15, Try.ntmps15
  go_wp2_with (first | (go_at_call 43; refine hr.mono ?_; rintro e w' ⟨rfl, rfl⟩) | (at_make; refine wpList_make_full _ rfl _ _ 22 rfl w.heap.size 5 i0 (.int .u8 0) 1 Try.underlying22 hi hz0 hz1 .i64 .i64 _ _ m rfl rfl (by rfl) (by rfl) (by rw [hz2]; omega) (by unfold maxLen; omega) (Nat.le_refl _) ?_; intro w0 hown0 hgrow0))
  rw [made_bytes] at hown0
  have hb0 : Below w.heap.size w w0 := (Below.refl _ _).grown hgrow0 (Nat.le_refl _) (by simp)
  clear hgrow0 hr
  go_loopw [21] (fun i wr => ∃ k : Nat, k ≤ m ∧ i = .int .i64 k ∧ wr.ownsRow w.heap.size 5 1 (.slice (some ⟨w.heap.size, 0, none⟩) m m) m ((pairs (l.take (2 * k)) ++ List.replicate (m - k) (0 : UInt8)).map bv) ∧ Below w.heap.size w wr) (fun i _ => m - (intOf i).toNat)
  case atStart => exact ⟨0, Nat.zero_le _, rfl, by simpa [pairs] using hown0, hb0⟩
  case round =>
    clear hown0 hb0
    obtain ⟨k, hk, rfl, hown, hb⟩ := hrel
    by_cases hlt : k < m
    · have hm := HM.out
      have hwr := h.below hb
      obtain ⟨hl1, b, off, rfl, hp, hc1⟩ := Bs.at hwr (show 2 * k < n by omega)
      obtain ⟨hl2, b', off', e', _, hc2⟩ := Bs.at hwr (show 2 * k + 1 < n by omega)
      injection e' with e'
      injection e' with e1 e2 e3
      subst e1 e2
      have hnn : 2 * k + 1 < n := by omega
      obtain ⟨u, hu⟩ := own_cell hown hlt
      have hf := hown.frozenAt k
      have hown2 := (hown.stored k (bv (l[2 * k] * 16 + l[2 * k + 1]))).1
      have hb2 := hb.setCell (p := ⟨w.heap.size, k, none⟩) (Nat.le_refl _) (bv (l[2 * k] * 16 + l[2 * k + 1]))
      rw [pairs_store l k m hlt hl2 HMN.out] at hown2
      have HO := Lib.hid hown2
      have HB := Lib.hid hb2
      clear hown hb hown2 hb2 hm hwr e3
      go_wp2
      go_region
      go_wp2
      go_roundw
      case rel =>
        refine ⟨k + 1, by omega, by go_num, ?_, ?_⟩
        · rw [bv_pair]; exact HO.out.drew
        · rw [bv_pair]; exact HB.out.drew
      case measure => simp [intOf]; omega
    · have hkn : k = m := by omega
      subst hkn
      simp only [Nat.sub_self, List.replicate_zero, List.append_nil] at hown
      have hall : pairs (l.take (2 * k)) = pairs l := by rw [HMN.out]; exact pairs_take_all l
      rw [hall] at hown
      obtain ⟨A', c', hv, _, hrd⟩ := rd_of_own hown
      injection hv with hv1 hv2 hv3
      subst hv1
      have hcv := run_string_of_bs (P := Try.prog) Try.underlying22 Try.underlying5 Try.underlying9 hrd k
      clear hall hown hv3 hrd hv2
      go_wp2
      go_ret2
      exact ⟨rfl, hb⟩

theorem key_any (A : Option Addr) (n c : Nat) (l : List UInt8) (w : World) (hn : n ≤ 1000000) (h : Bs w A n l) :
    Calls Try.prog 15 #[.slice A n c] w fun e w' => e = .returned (keyV l) ∧ Below w.heap.size w w' := by
  cases hk : keyOk l with
  | true => rw [keyV, if_pos hk]; exact key_yes A n c l w hn h hk
  | false =>
    rw [keyV, if_neg (by simp [hk])]
    exact (key_no A n c l w hn h hk).mono fun e w' ⟨h1, h2⟩ => ⟨h1, h2 ▸ Below.refl _ _⟩

/-- The reference's text so far, and its next byte. -/
theorem concat_step (l : List UInt8) (k : Nat) (h : 2 * k + 1 < l.length) :
    (⟨(pairsR (l.take (2 * (k + 1)))).toArray⟩ : ByteArray) = ⟨(pairsR (l.take (2 * k))).toArray⟩ ++ ⟨[l[2 * k] * 16 + l[2 * k + 1] % 16].toArray⟩ := by
  rw [pairsR_take k l h]
  apply ByteArray.ext
  simp

theorem bv_pairR (a b : UInt8) : Value.int .u8 ((a.toNat : Int) * 16 % 256 + (b.toNat : Int) % 16) = bv (a * 16 + b % 16) := by
  simp only [bv, UInt8.toNat_add, UInt8.toNat_mul, UInt8.toNat_mod]
  congr 1
  have h1 := a.toNat_lt
  have h2 := b.toNat_lt
  simp
  omega

/-- string([]byte{b}). -/
theorem run_string_one (x : Int) (b : UInt8) (hx : Value.int .u8 x = bv b) (wr : World) :
    (convert 22 9 (.slice (some ⟨wr.heap.size, 0, none⟩) 1 1)).run Try.prog (wr.alloc (.cells #[.int .u8 x] 5)).drew = .ok (.string ⟨[b].toArray⟩) (wr.alloc (.cells #[.int .u8 x] 5)).drew := by
  have hbs : Bs (wr.alloc (.cells #[.int .u8 x] 5)).drew (some ⟨wr.heap.size, 0, none⟩) 1 [b] := by
    refine ⟨rfl, fun _ => ⟨wr.heap.size, 0, rfl, by show wr.heap.size < (wr.heap.push _).size; simp, fun j hj => ?_⟩⟩
    rw [show j = 0 by omega, hx]
    show (wr.alloc (.cells #[bv b] 5)).cell? _ = _
    rw [cell_of_row _ wr.heap.size _ _ 5 (0, 0) (heap_alloc_new wr _)]
    rfl
  exact run_string_of_bs Try.underlying22 Try.underlying5 Try.underlying9 hbs 1

theorem keyR_no {l : List UInt8} {S : ByteArray} (hS : (⟨(pairsR l).toArray⟩ : ByteArray) = S) (h : (!nibs S.data.toList == l) = true) : Ending.returned (.tuple #[.string ⟨#[]⟩, .bool false]) = .returned (keyV l) := by
  subst hS
  have := keyR_ok l
  simp only [Bool.not_eq_true'] at h
  change (nibs (pairsR l) == l) = false at h
  rw [keyV, if_neg (by rw [← this, h]; simp)]
theorem keyR_yes {l : List UInt8} {S : ByteArray} (hS : (⟨(pairsR l).toArray⟩ : ByteArray) = S) (h : (!nibs S.data.toList == l) = false) : Ending.returned (.tuple #[.string S, .bool true]) = .returned (keyV l) := by
  subst hS
  have hk := keyR_ok l
  simp only [Bool.not_eq_false'] at h
  change (nibs (pairsR l) == l) = true at h
  have hk' : keyOk l = true := by rw [← hk, h]
  rw [keyV, if_pos hk', pairsR_eq l (by simp only [keyOk, Bool.and_eq_true] at hk'; exact hk'.2)]

set_option maxHeartbeats 400000 in
theorem keyR_any (A : Option Addr) (n c : Nat) (l : List UInt8) (w : World) (hn : n ≤ 1000000) (h : Bs w A n l) :
    Calls Try.prog 16 #[.slice A n c] w fun e w' => e = .returned (keyV l) ∧ Below w.heap.size w w' := by
  have hlen := h.len
  go_enter Try.func16, Try.ntmps16
  go_wp2
  go_loopw [4, 5] (fun s i wr => ∃ k : Nat, 2 * k ≤ n ∧ i = .int .i64 ((2 * k : Nat) : Int) ∧ s = .string ⟨(pairsR (l.take (2 * k))).toArray⟩ ∧ Below w.heap.size w wr) (fun _ i _ => n - (intOf i).toNat)
  case atStart => exact ⟨0, Nat.zero_le _, rfl, by simp [pairsR], Below.refl _ _⟩
  case round =>
    obtain ⟨k, hk, rfl, rfl, hb⟩ := hrel
    by_cases hlt : 2 * k + 1 < n
    · have hwr := h.below hb
      obtain ⟨hl1, b, off, rfl, hp, hc1⟩ := Bs.at hwr (show 2 * k < n by omega)
      obtain ⟨hl2, b', off', e', _, hc2⟩ := Bs.at hwr (show 2 * k + 1 < n by omega)
      injection e' with e'
      injection e' with e1 e2 e3
      subst e1 e2
      have HS := Lib.hid (concat_step l k hl2)
      have hS : (⟨(pairsR (l.take (2 * k))).toArray⟩ : ByteArray).size ≤ 1000000 := by
        show (pairsR (l.take (2 * k))).toArray.size ≤ _
        have := pairsR_length (l.take (2 * k))
        simp only [List.length_take] at this
        simp; omega
      generalize (⟨(pairsR (l.take (2 * k))).toArray⟩ : ByteArray) = S at *
      have hcv := run_string_one _ _ (bv_pairR l[2 * k] l[2 * k + 1]) wr
      clear e3 hwr
      go_wp2
      go_region
      all_goals
        have hb2 := (hb.alloc hb.size (.cells #[Value.int IntKind.u8 (↑l[2 * k].toNat * 16 % 256 + ↑l[2 * k + 1].toNat % 16)] 5)).drew
        clear hb hcv
        go_wp2
        go_roundw
        case rel => exact ⟨k + 1, by omega, by go_num, by rw [HS.out], hb2⟩
        case measure => simp [intOf]; omega
    · have hkn : k = n / 2 := by omega
      have hall : pairsR (l.take (2 * k)) = pairsR l := by rw [hkn, ← hlen]; exact pairsR_take_all l
      rw [hall]
      have hd : decide (2 * (k : Int) + 1 < (n : Int)) = false := by simp; omega
      have hSz : (⟨(pairsR l).toArray⟩ : ByteArray).size ≤ 1000000 := by
        show (pairsR l).toArray.size ≤ _
        have := pairsR_length l
        simp; omega
      generalize hSe : (⟨(pairsR l).toArray⟩ : ByteArray) = S at *
      have HSE := Lib.hid hSe
      clear hSe
      have hof := ofR_any S wr.drew hSz
      have hwr : Bs wr.drew A n l := h.below hb.drew
      have k0 := run_string_of_bs (P := Try.prog) Try.underlying22 Try.underlying5 Try.underlying9 hwr c
      clear hall hkn
      go_wp2
      go_region_with (go_at_call 18; refine hof.mono ?_; rintro e w1 ⟨v, rfl, hown1, hb1⟩; obtain ⟨A1, c1, rfl, _, hr1⟩ := rd_of_own hown1; have k1 := run_string_of_bs (P := Try.prog) Try.underlying22 Try.underlying5 Try.underlying9 hr1 c1; have k2 := run_string_of_bs (P := Try.prog) Try.underlying22 Try.underlying5 Try.underlying9 (Rd.below hwr hb1) c)
      all_goals
        have hb2 := hb.drew.trans (hb1.mono hb.size)
        clear hof hwr k0 k1 k2 hown1 hr1 hb hb1
        go_wp2
      all_goals
        go_ret2
        exact ⟨by first | exact keyR_no HSE.out (by assumption) | exact keyR_yes HSE.out (by assumption), hb2⟩

end Go.Proofs.Ytaamkdejediccaa
