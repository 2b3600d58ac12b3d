import Derived.Test.YtklcklflnkbccaaGreatDoorG02
import Derived.Test.YtklcklflnkbccaaGreatDoorG07
/- Walks of package node and of its reference: Words, Class, Right; slices.Index, slices.Contains. -/
namespace Go.Proofs.YtklcklflnkbccaaGreatDoor
open Go.RowKit

/-- Four cells in a new block: what a struct of four fields lies in. -/
theorem box4 (w : World) (t : TypeId) (a b c d : Value) : ∃ W, W = w.alloc (.cells #[a, b, c, d] t) ∧ W.cell? ⟨w.heap.size, 0, none⟩ = some a ∧ W.cell? ⟨w.heap.size, 1, none⟩ = some b ∧ W.cell? ⟨w.heap.size, 2, none⟩ = some c ∧
    W.cell? ⟨w.heap.size, 3, none⟩ = some d ∧ Below w.heap.size w W ∧ W.heap.size = w.heap.size + 1 := by
  refine ⟨_, rfl, ?_, ?_, ?_, ?_, (Below.refl _ _).alloc (Nat.le_refl _) _, by simp⟩ <;>
  · rw [cell_of_row _ w.heap.size _ _ t (0, 0) (heap_alloc_new w _)]; rfl

theorem lines_any (c : Int) (w : World) : Calls Tryz.prog 92 #[.int .i64 c] w fun e w' => e = .returned (.int .i64 (if c = 1 then 1 else if c = 2 then 4 else 0)) ∧ w = w' := by
  by_cases h1 : c = 1
  · subst h1
    go_enter Tryz.func92, Tryz.ntmps92
    go_wp2
    go_ret
    exact ⟨rfl, rfl⟩
  · by_cases h2 : c = 2
    · subst h2
      go_enter Tryz.func92, Tryz.ntmps92
      go_wp2
      go_ret
      exact ⟨rfl, rfl⟩
    · have t1 : (c == 1) = false := by simp [h1]
      have t2 : (c == 2) = false := by simp [h2]
      rw [if_neg h1, if_neg h2]
      go_enter Tryz.func92, Tryz.ntmps92
      go_wp2
      go_ret
      exact ⟨rfl, rfl⟩

def wordsN (c : Int) : Int := if c = 1 then 8 else if c = 2 then 32 else 0

theorem words_any (c : Int) (w : World) : Calls Tryz.prog 100 #[.int .i64 c] w fun e w' => e = .returned (.int .i64 (wordsN c)) ∧ w = w' := by
  have hl := lines_any c w
  have hv : (8 * (if c = 1 then 1 else if c = 2 then 4 else 0) : Int) = wordsN c := by unfold wordsN; split <;> (try split) <;> rfl
  have hb : (0 : Int) ≤ (if c = 1 then 1 else if c = 2 then 4 else 0) ∧ (if c = 1 then 1 else if c = 2 then 4 else 0 : Int) ≤ 4 := by split <;> (try split) <;> decide
  generalize (if c = 1 then 1 else if c = 2 then 4 else 0 : Int) = r at *
  obtain ⟨hb1, hb2⟩ := hb
  have HV := Lib.hid hv
  clear hv
  go_enter Tryz.func100, Tryz.ntmps100
  go_wp2_with (go_at_call 92; refine hl.mono ?_; rintro e w' ⟨rfl, rfl⟩)
  go_ret
  exact ⟨by rw [← HV.out]; rfl, rfl⟩

set_option maxHeartbeats 400000 in
theorem indexB_any (A : Option Addr) (n c : Nat) (l : List UInt8) (x : UInt8) (w : World) (hn : n ≤ 4294967296) (h : Bs w A n l) :
    Calls Tryz.prog 103 #[.slice A n c, .int .u8 (x.toNat : Int)] w fun e w' => e = .returned (.int .i64 (placeOf (fun y => y.toNat == x.toNat) l)) ∧ w = w' := by
  have hlen := h.len
  go_enter Tryz.func103, Tryz.ntmps103
  go_wp2
  go_loop [8] (fun i => ∃ k : Nat, k ≤ n ∧ i = .int .i64 k ∧ ∀ j (h : j < l.length), j < k → (l[j].toNat == x.toNat) = false) (fun i => n - (intOf i).toNat)
  case atStart => exact ⟨0, Nat.zero_le _, rfl, fun j _ hj => absurd hj (by omega)⟩
  case round =>
    obtain ⟨k, hk, rfl, hno⟩ := hrel
    by_cases hlt : k < n
    · obtain ⟨hl, b, off, rfl, hb, hc⟩ := h.at hlt
      by_cases he : l[k].toNat = x.toNat
      · have t1 : ((x.toNat : Int) == (l[k].toNat : Int)) = true := by simp [he]
        have HP := Lib.hid (placeOf_hit (fun y : UInt8 => y.toNat == x.toNat) l k hl (fun j hj => hno j (by omega) hj) (by simp [he]))
        clear hno he
        go_wp2
        go_ret
        exact ⟨by rw [HP.out]; rfl, rfl⟩
      · have t1 : ((x.toNat : Int) == (l[k].toNat : Int)) = false := by simp; omega
        have HN : Hid (∀ j (h : j < l.length), j < k + 1 → (l[j].toNat == x.toNat) = false) := Lib.hid fun j hj hjk => by
          by_cases e : j = k
          · subst e; simp [he]
          · exact hno j hj (by omega)
        clear hno he
        go_wp2
        go_round
        case rel => exact ⟨k + 1, by omega, by go_num, HN.out⟩
        case measure => simp [intOf]; omega
    · have hkn : k = n := by omega
      subst hkn
      have HP := Lib.hid (placeOf_miss (fun y : UInt8 => y.toNat == x.toNat) l (fun j hj => hno j hj (by omega)))
      clear hno
      go_wp2
      go_ret
      exact ⟨by rw [HP.out]; rfl, rfl⟩

end Go.Proofs.YtklcklflnkbccaaGreatDoor

/- Walks of package node and of its reference: slices.Index at words, slices.Contains, Class, Right. -/
namespace Go.Proofs.YtklcklflnkbccaaGreatDoor
open Go.RowKit

set_option maxHeartbeats 400000 in
theorem indexW_any (A : Option Addr) (n c : Nat) (l : List UInt64) (x : UInt64) (w : World) (hn : n ≤ 4294967296) (h : Ws w A n l) :
    Calls Tryz.prog 172 #[.slice A n c, .int .u64 (x.toNat : Int)] w fun e w' => e = .returned (.int .i64 (placeOf (fun y => y.toNat == x.toNat) l)) ∧ w = w' := by
  have hlen := h.len
  go_enter Tryz.func172, Tryz.ntmps172
  go_wp2
  go_loop [8] (fun i => ∃ k : Nat, k ≤ n ∧ i = .int .i64 k ∧ ∀ j (h : j < l.length), j < k → (l[j].toNat == x.toNat) = false) (fun i => n - (intOf i).toNat)
  case atStart => exact ⟨0, Nat.zero_le _, rfl, fun j _ hj => absurd hj (by omega)⟩
  case round =>
    obtain ⟨k, hk, rfl, hno⟩ := hrel
    by_cases hlt : k < n
    · obtain ⟨hl, b, off, rfl, hb, hc⟩ := h.at hlt
      by_cases he : l[k].toNat = x.toNat
      · have t1 : ((x.toNat : Int) == (l[k].toNat : Int)) = true := by simp [he]
        have HP := Lib.hid (placeOf_hit (fun y : UInt64 => y.toNat == x.toNat) l k hl (fun j hj => hno j (by omega) hj) (by simp [he]))
        clear hno he
        go_wp2
        go_ret
        exact ⟨by rw [HP.out]; rfl, rfl⟩
      · have t1 : ((x.toNat : Int) == (l[k].toNat : Int)) = false := by simp; omega
        have HN : Hid (∀ j (h : j < l.length), j < k + 1 → (l[j].toNat == x.toNat) = false) := Lib.hid fun j hj hjk => by
          by_cases e : j = k
          · subst e; simp [he]
          · exact hno j hj (by omega)
        clear hno he
        go_wp2
        go_round
        case rel => exact ⟨k + 1, by omega, by go_num, HN.out⟩
        case measure => simp [intOf]; omega
    · have hkn : k = n := by omega
      subst hkn
      have HP := Lib.hid (placeOf_miss (fun y : UInt64 => y.toNat == x.toNat) l (fun j hj => hno j hj (by omega)))
      clear hno
      go_wp2
      go_ret
      exact ⟨by rw [HP.out]; rfl, rfl⟩

theorem placeOf_pos {α : Type} (p : α → Bool) (l : List α) : (0 ≤ placeOf p l) ↔ l.any p = true := by
  unfold placeOf
  cases h : l.findIdx? p with
  | none =>
    rw [List.findIdx?_eq_none_iff] at h
    constructor
    · intro h0; simp at h0
    · intro ha
      obtain ⟨x, hx, hp⟩ := List.any_eq_true.1 ha
      rw [h x hx] at hp; cases hp
  | some i =>
    rw [List.findIdx?_eq_some_iff_getElem] at h
    obtain ⟨hi, hp, _⟩ := h
    constructor
    · intro _; exact List.any_eq_true.2 ⟨_, List.getElem_mem hi, hp⟩
    · intro _; exact Int.natCast_nonneg i

theorem placeOf_range {α : Type} (p : α → Bool) (l : List α) : -1 ≤ placeOf p l ∧ placeOf p l < max 1 l.length := by
  unfold placeOf
  cases h : l.findIdx? p with
  | none => simp; omega
  | some i =>
    rw [List.findIdx?_eq_some_iff_getElem] at h
    obtain ⟨hi, _⟩ := h
    simp; omega

/-- slices.Contains(l, 0). -/
theorem containsW_any (A : Option Addr) (n c : Nat) (l : List UInt64) (w : World) (hn : n ≤ 4294967296) (h : Ws w A n l) :
    Calls Tryz.prog 139 #[.slice A n c, .int .u64 0] w fun e w' => e = .returned (.bool (l.any fun y => y.toNat == 0)) ∧ w = w' := by
  have hi : Calls Tryz.prog 172 #[.slice A n c, .int .u64 0] w fun e w' => e = .returned (.int .i64 (placeOf (fun y => y.toNat == 0) l)) ∧ w = w' := indexW_any A n c l 0 w hn h
  have hp := placeOf_pos (fun y : UInt64 => y.toNat == 0) l
  have hr := placeOf_range (fun y : UInt64 => y.toNat == 0) l
  generalize placeOf (fun y : UInt64 => y.toNat == 0) l = r at *
  cases ha : l.any (fun y => y.toNat == 0) with
  | true =>
    have h0 : 0 ≤ r := hp.2 ha
    clear hp ha
    go_enter Tryz.func139, Tryz.ntmps139
    go_wp2_with (go_at_call 172; refine hi.mono ?_; rintro e w' ⟨rfl, rfl⟩)
    go_ret
    exact ⟨rfl, rfl⟩
  | false =>
    have h0 : r < 0 := by
      rcases Int.lt_or_le r 0 with h | h
      · exact h
      · rw [hp.1 h] at ha; cases ha
    clear hp ha
    go_enter Tryz.func139, Tryz.ntmps139
    go_wp2_with (go_at_call 172; refine hi.mono ?_; rintro e w' ⟨rfl, rfl⟩)
    go_ret
    exact ⟨by simp; omega, rfl⟩

end Go.Proofs.YtklcklflnkbccaaGreatDoor

/- Walks of package node and of its reference: Class, Right. -/
namespace Go.Proofs.YtklcklflnkbccaaGreatDoor
open Go.RowKit

/-- A node as it is handed over: its four fields. -/
def ndv (A1 : Option Addr) (n1 c1 : Nat) (v : UInt64) (A2 : Option Addr) (n2 c2 : Nat) (A3 : Option Addr) (n3 c3 : Nat) : Value :=
  .agg #[.slice A1 n1 c1, .int .u64 (v.toNat : Int), .slice A2 n2 c2, .slice A3 n3 c3]

theorem class_any (v1 v2 v3 : Value) (A3 : Option Addr) (n3 c3 : Nat) (w : World) (hn : n3 ≤ 4294967296) :
    Calls Tryz.prog 105 #[.agg #[v1, v2, v3, .slice A3 n3 c3]] w fun e w' => e = .returned (.int .i64 (if n3 ≤ 4 then 1 else 2)) ∧ Below w.heap.size w w' := by
  by_cases h4 : n3 ≤ 4
  · rw [if_pos h4]
    go_enter Tryz.func105, Tryz.ntmps105
    go_wp2
    go_ret
    exact ⟨rfl, (Below.refl _ _).alloc (Nat.le_refl _) _⟩
  · rw [if_neg h4]
    go_enter Tryz.func105, Tryz.ntmps105
    go_wp2
    go_ret
    exact ⟨rfl, (Below.refl _ _).alloc (Nat.le_refl _) _⟩

set_option maxHeartbeats 1000000 in
theorem right_node (A1 A2 A3 : Option Addr) (n1 c1 n2 c2 n3 c3 : Nat) (x : Nd) (w : World) (b1 : n1 ≤ 1000000) (b2 : n2 ≤ 1000000) (b3 : n3 ≤ 1000000) (h1 : Bs w A1 n1 x.pre) (h2 : Bs w A2 n2 x.labels) (h3 : Ws w A3 n3 x.kids) :
    Calls Tryz.prog 104 #[.agg #[.slice A1 n1 c1, .int .u64 (x.val.toNat : Int), .slice A2 n2 c2, .slice A3 n3 c3]] w fun e w' => e = .returned (.bool (rightB x)) ∧ Below w.heap.size w w' := by
  have hl1 := h1.len
  have hl2 := h2.len
  have hl3 := h3.len
  obtain ⟨W, hW, e0, e1, e2, e3, hb, hs⟩ := box4 w 96 (.slice A1 n1 c1) (.int .u64 (x.val.toNat : Int)) (.slice A2 n2 c2) (.slice A3 n3 c3)
  have g1 := h1.below hb
  have g2 := h2.below hb
  have g3 := h3.below hb
  have HW := Lib.hid hW
  clear hW
  have HR := Lib.hid (rightB_iff x)
  by_cases hp : n1 ≤ 15 ∧ x.pre.all isNib = true
  · have hpk := pack_any A1 n1 c1 x.pre W hp.1 g1 hp.2
    have HPK := Lib.hid hpk
    clear hpk
    by_cases hl : n2 = n3
    · subst hl
      have t1 : ((n2 : Int) != (n2 : Int)) = false := by simp
      go_enter Tryz.func104, Tryz.ntmps104
      go_wp2_with fail
      rw [← HW.out]
      refine HPK.out.mono ?_
      rintro e w' ⟨rfl, rfl⟩
      clear HPK h1 h2 h3
      go_wp2_with fail
      go_loop [27] (fun i => ∃ k : Nat, k ≤ n2 ∧ i = .int .i64 k ∧ (x.labels.take k).all isNib = true ∧ risingB (x.labels.take k) = true) (fun i => n2 - (intOf i).toNat)
      case atStart => exact ⟨0, Nat.zero_le _, rfl, by simp, by simp [risingB]⟩
      case round =>
        obtain ⟨k, hk, rfl, hall, hris⟩ := hrel
        by_cases hlt : k < n2
        · obtain ⟨hq, p, off, rfl, hp2, hc⟩ := g2.at hlt
          by_cases h16 : x.labels[k].toNat < 16
          · have t2 : decide (16 ≤ (x.labels[k].toNat : Int)) = false := by simp; omega
            have HA := Lib.hid (all_take_succ isNib x.labels k hq hall (isNib_yes h16))
            rcases k with _ | j
            · have HS := Lib.hid (rising_take_succ x.labels 0 hq hris (fun j hj => by omega))
              have t3 : decide ((0 : Int) < 0) = false := rfl
              clear hall hris
              rw [show ((0 : Nat) : Int) = 0 from rfl]
              simp only [Nat.add_zero] at hc
              go_wp2
              go_round
              case rel => exact ⟨1, by omega, by go_num, HA.out, HS.out⟩
              case measure => simp [intOf]; omega
            · obtain ⟨hq', p', off', e', hp2', hc'⟩ := g2.at (show j < n2 by omega)
              injection e' with e'
              injection e' with e1' e2' e3'
              subst e1' e2'
              by_cases hr : x.labels[j].toNat < x.labels[j + 1].toNat
              · have t3 : decide ((x.labels[j + 1].toNat : Int) ≤ (x.labels[j].toNat : Int)) = false := by simp; omega
                have HS := Lib.hid (rising_step x.labels j hq hris hr)
                clear hall hris e3'
                go_wp2
                go_round
                case rel => exact ⟨j + 1 + 1, by omega, by go_num, HA.out, HS.out⟩
                case measure => simp [intOf]; omega
              · have t3 : decide ((x.labels[j + 1].toNat : Int) ≤ (x.labels[j].toNat : Int)) = true := by simp; omega
                have HF := Lib.hid (right_no_rise x j hq hr)
                clear hall hris e3'
                go_wp2
                go_ret
                exact ⟨by rw [HF.out]; rfl, hb⟩
          · have t2 : decide (16 ≤ (x.labels[k].toNat : Int)) = true := by simp; omega
            have HF := Lib.hid (right_no_nib x k hq h16)
            clear hall hris
            go_wp2
            go_ret
            exact ⟨by rw [HF.out]; rfl, hb⟩
        · have hkn : k = n2 := by omega
          subst hkn
          rw [← hl2, List.take_length] at hall hris
          have HF := Lib.hid (right_rest x (by omega) hp.2 (by omega) hall hris)
          have hcn := containsW_any A3 k c3 x.kids W (by omega) g3
          clear hall hris hp
          go_wp2_with (go_at_call 139; refine hcn.mono ?_; rintro e w' ⟨rfl, rfl⟩)
          go_ret
          exact ⟨by rw [HF.out]; rfl, hb⟩
    · have HF := Lib.hid (right_no_len x (by omega))
      have t1 : ((n2 : Int) != (n3 : Int)) = true := by simp; omega
      go_enter Tryz.func104, Tryz.ntmps104
      go_wp2_with fail
      rw [← HW.out]
      refine HPK.out.mono ?_
      rintro e w' ⟨rfl, rfl⟩
      clear HPK h1 h2 h3
      go_wp2_with fail
      go_ret
      exact ⟨by rw [HF.out]; rfl, hb⟩
  · have HF := Lib.hid (right_no_pre x (by rw [hl1]; exact hp))
    have hpk : Calls Tryz.prog 138 #[.slice A1 n1 c1] W fun e w' => e = .returned (.tuple #[.int .u64 0, .bool false]) ∧ W = w' := by
      by_cases h15 : n1 ≤ 15
      · have hnib : x.pre.all isNib = false := by
          cases hh : x.pre.all isNib with
          | false => rfl
          | true => exact absurd ⟨h15, hh⟩ hp
        exact pack_no A1 n1 c1 x.pre W h15 g1 hnib
      · exact pack_big A1 n1 c1 W (by omega) (by omega)
    have HPK := Lib.hid hpk
    clear hpk hp
    go_enter Tryz.func104, Tryz.ntmps104
    go_wp2_with fail
    rw [← HW.out]
    refine HPK.out.mono ?_
    rintro e w' ⟨rfl, rfl⟩
    clear HPK h1 h2 h3
    go_wp2_with fail
    go_ret
    exact ⟨by rw [HF.out]; rfl, hb⟩

end Go.Proofs.YtklcklflnkbccaaGreatDoor
