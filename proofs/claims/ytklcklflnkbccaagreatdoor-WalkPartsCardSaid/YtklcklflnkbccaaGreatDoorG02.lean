import Derived.Test.YtklcklflnkbccaaGreatDoorRows
import Derived.Deep.AppendLies
import Derived.Deep.RegionLaw
import Derived.Outline
import Derived.Test.YtklcklflnkbccaaGreatDoorG01
/- Types of rows of bytes and of words. -/
namespace Go.Proofs.YtklcklflnkbccaaGreatDoor
open Go.RowKit

theorem Tryz.bytesTy : RowTy Tryz.prog 74 5 (.int .u8 0) 1 := ⟨Tryz.underlying74, by kernel_rfl, rfl⟩
theorem Tryz.infoByte : (Tryz.prog.info? 5).map (fun i => (i.zero, i.size, i.bytes)) = some (some (.int .u8 0), 1, 1) := by kernel_rfl
theorem Tryz.wordsTy : RowTy Tryz.prog 94 33 (.int .u64 0) 8 := ⟨Tryz.underlying94, by kernel_rfl, rfl⟩

end Go.Proofs.YtklcklflnkbccaaGreatDoor

/- Walks: slices.Clone at words and at bytes. -/
namespace Go.Proofs.YtklcklflnkbccaaGreatDoor
open Go.RowKit

set_option maxHeartbeats 400000 in
theorem cloneW_any (A : Option Addr) (n c : Nat) (l : List UInt64) (w : World) (hn : n ≤ 1000000) (h : Ws w A n l) :
    Calls Tryz.prog 153 #[.slice A n c] w fun e w' => ∃ v, e = .returned v ∧ w'.ownsRow w.heap.size 33 1 v n (l.map wv) ∧ Below w.heap.size w w' := by
  have hlen := h.len
  rcases A with _ | ad
  · have hn0 : n = 0 := by
      rcases Nat.eq_zero_or_pos n with h0 | h0
      · exact h0
      · obtain ⟨_, _, e, _⟩ := h.2 h0; cases e
    subst hn0
    have hl : l = [] := List.eq_nil_of_length_eq_zero hlen
    subst hl
    have q1 := fun W => Lib.run_eql_slice_nil (P := Tryz.prog) W 94 33 none 0 c 0 0 Tryz.underlying94
    go_enter Tryz.func153, Tryz.ntmps153
    go_wp2
    go_ret
    exact ⟨_, rfl, World.ownsRow_nil _ _ _ _, Below.refl _ _⟩
  · have q1 := fun W => Lib.run_eql_slice_nil (P := Tryz.prog) W 94 33 (some ad) n c 0 0 Tryz.underlying94
    go_enter Tryz.func153, Tryz.ntmps153
    go_wp2_with (at_builtin; refine wpList_app_rd rfl (.tmp 5) (.tmp 6) 94 rfl Tryz.wordsTy w.heap.size (.slice (some ⟨w.heap.size, 0, none⟩) 0 0) 0 [] (l.map wv) rfl (World.ownsRow_made w #[] 0 (Nat.le_refl _) (by decide) rfl) (some ad) n c rfl (h.below ((Below.refl _ _).alloc (Nat.le_refl _) _)) (oneCell_wv _) (by omega) (by decide) (by simp) ?_; intro v2 w2 hown2 hb2)
    go_ret
    exact ⟨v2, rfl, by simpa using hown2, ((Below.refl _ _).alloc (Nat.le_refl _) _).trans hb2⟩

set_option maxHeartbeats 400000 in
theorem cloneB_any (A : Option Addr) (n c : Nat) (l : List UInt8) (w : World) (hn : n ≤ 1000000) (h : Bs w A n l) :
    Calls Tryz.prog 120 #[.slice A n c] w fun e w' => ∃ v, e = .returned v ∧ w'.ownsRow w.heap.size 5 1 v n (l.map bv) ∧ Below w.heap.size w w' := by
  have hlen := h.len
  rcases A with _ | ad
  · have hn0 : n = 0 := by
      rcases Nat.eq_zero_or_pos n with h0 | h0
      · exact h0
      · obtain ⟨_, _, e, _⟩ := h.2 h0; cases e
    subst hn0
    have hl : l = [] := List.eq_nil_of_length_eq_zero hlen
    subst hl
    have q1 := fun W => Lib.run_eql_slice_nil (P := Tryz.prog) W 74 5 none 0 c 0 0 Tryz.underlying74
    go_enter Tryz.func120, Tryz.ntmps120
    go_wp2
    go_ret
    exact ⟨_, rfl, World.ownsRow_nil _ _ _ _, Below.refl _ _⟩
  · have q1 := fun W => Lib.run_eql_slice_nil (P := Tryz.prog) W 74 5 (some ad) n c 0 0 Tryz.underlying74
    go_enter Tryz.func120, Tryz.ntmps120
    go_wp2_with (at_builtin; refine wpList_app_rd rfl (.tmp 5) (.tmp 6) 74 rfl Tryz.bytesTy w.heap.size (.slice (some ⟨w.heap.size, 0, none⟩) 0 0) 0 [] (l.map bv) rfl (World.ownsRow_made w #[] 0 (Nat.le_refl _) (by decide) rfl) (some ad) n c rfl (h.below ((Below.refl _ _).alloc (Nat.le_refl _) _)) (oneCell_bv _) (by omega) (by decide) (by simp) ?_; intro v2 w2 hown2 hb2)
    go_ret
    exact ⟨v2, rfl, by simpa using hown2, ((Below.refl _ _).alloc (Nat.le_refl _) _).trans hb2⟩

end Go.Proofs.YtklcklflnkbccaaGreatDoor

/- Walks of package nib: what each function computes. -/
namespace Go.Proofs.YtklcklflnkbccaaGreatDoor
open Go.RowKit

set_option maxHeartbeats 400000 in
theorem right_any (A : Option Addr) (n c : Nat) (l : List UInt8) (w : World) (hn : n ≤ 4294967296) (h : Bs w A n l) :
    Calls Tryz.prog 159 #[.slice A n c] w fun e w' => e = .returned (.bool (l.all isNib)) ∧ w = w' := by
  have hlen := h.len
  go_enter Tryz.func159, Tryz.ntmps159
  go_wp2
  go_loop [7] (fun i => ∃ k : Nat, k ≤ n ∧ i = .int .i64 k ∧ (l.take k).all isNib = true) (fun i => n - (intOf i).toNat)
  case atStart => exact ⟨0, Nat.zero_le _, rfl, by simp⟩
  case round =>
    obtain ⟨k, hk, rfl, hall⟩ := hrel
    by_cases hlt : k < n
    · obtain ⟨hl, b, off, rfl, hb, hc⟩ := h.at hlt
      by_cases h16 : l[k].toNat < 16
      · have HS := Lib.hid (all_take_succ isNib l k hl hall (isNib_yes h16))
        clear hall
        go_wp2
        go_round
        case rel => exact ⟨k + 1, by omega, by go_num, HS.out⟩
        case measure => simp [intOf]; omega
      · have HS := Lib.hid (all_false_of_get isNib l k hl (isNib_no h16))
        clear hall
        go_wp2
        go_ret
        exact ⟨by rw [HS.out]; rfl, rfl⟩
    · have hkn : k = n := by omega
      subst hkn
      go_wp2
      go_ret
      exact ⟨ret_congr (by rw [← hlen] at hall; simpa using hall), rfl⟩

set_option maxHeartbeats 400000 in
theorem of_any (s : ByteArray) (w : World) (hs : s.size ≤ 1000000) :
    Calls Tryz.prog 68 #[.string s] w fun e w' => ∃ v, e = .returned v ∧ w'.ownsRow w.heap.size 5 1 v (2 * s.size) ((nibs s.data.toList).map bv) ∧ Below w.heap.size w w' := by
  obtain ⟨i0, hi, hz0, hz1, hz2⟩ := info_parts Tryz.infoByte
  go_enter Tryz.func68, Tryz.ntmps68
  go_wp2_with (at_make; refine wpList_make_own _ rfl _ _ 74 rfl w.heap.size 5 i0 (.int .u8 0) 1 Tryz.underlying74 hi hz0 hz1 .i64 .i64 _ (2 * s.size) rfl rfl (by simp) (by rw [hz2]; omega) (by unfold maxLen; omega) (Nat.le_refl _) ?_; intro w0 hown0 hgrow0)
  have hb0 : Below w.heap.size w w0 := (Below.refl _ _).grown hgrow0 (Nat.le_refl _) (by simp)
  clear hgrow0
  go_loopw [3, 11] (fun v i wr => ∃ k : Nat, k ≤ s.size ∧ i = .int .i64 k ∧ wr.ownsRow w.heap.size 5 1 v (2 * k) ((nibs (s.data.toList.take k)).map bv) ∧ Below w.heap.size w wr) (fun _ i _ => s.size - (intOf i).toNat)
  case atStart => exact ⟨0, Nat.zero_le _, rfl, by simpa [nibs] using hown0, hb0⟩
  case round =>
    obtain ⟨k, hk, rfl, hown, hb⟩ := hrel
    clear hown0
    have hsz := hb.size
    by_cases hlt : k < s.size
    · have hl : k < s.data.toList.length := by simpa using hlt
      have HS := Lib.hid (nibs_take_succ_str s k hlt)
      go_wp2
      go_region_law (refine step_app_new rfl (.tmp 14) (.tmp 23) 74 rfl Tryz.bytesTy wr w.heap.size u3 (2 * k) ((nibs (s.data.toList.take k)).map bv) [Value.int .u8 (IntKind.u8.wrap (↑s[k].toNat / 16)), Value.int .u8 ((↑s[k].toNat : Int).tmod 16)] (by simp [Act.eval]) hown rfl rfl rfl rfl 2 2 (by simp [Act.eval]) rfl (by simp [Value.oneCell']) (by simp; omega) (by decide) hsz ?_; intro v2 w2 hown2 hb')
      all_goals
        have hb2 := hb.trans hb'
        rw [bv_div', bv_mod'] at hown2
        clear hown hb hb'
        go_wp2
        go_roundw
        case rel => exact ⟨k + 1, by omega, by go_num, by rw [HS.out, List.map_append]; exact hown2, hb2⟩
        case measure => simp [intOf]; omega
    · have hkn : k = s.size := by omega
      subst hkn
      go_wp2
      go_ret
      exact ⟨_, rfl, by rw [List.take_of_length_le (by simp)] at hown; exact hown, hb⟩

end Go.Proofs.YtklcklflnkbccaaGreatDoor

/- Walks of package nib: Common, and the reference's. -/
namespace Go.Proofs.YtklcklflnkbccaaGreatDoor
open Go.RowKit

set_option maxHeartbeats 400000 in
theorem common_any (A B : Option Addr) (n m ca cb : Nat) (a b : List UInt8) (w : World) (hn : n ≤ 4294967296) (_hm : m ≤ 4294967296) (ha : Bs w A n a) (hb : Bs w B m b) :
    Calls Tryz.prog 71 #[.slice A n ca, .slice B m cb] w fun e w' => e = .returned (.int .i64 (common a b : Nat)) ∧ Dr w w' := by
  have hla := ha.len
  have hlb := hb.len
  go_enter Tryz.func71, Tryz.ntmps71
  go_wp2
  go_loopw [5] (fun i wr => ∃ k : Nat, k ≤ n ∧ i = .int .i64 k ∧ alike k a b ∧ Dr w wr) (fun i _ => n - (intOf i).toNat)
  case atStart => exact ⟨0, Nat.zero_le _, rfl, alike_zero _ _, Dr.refl _⟩
  case round =>
    obtain ⟨k, hk, rfl, hal, q, rfl⟩ := hrel
    have hkm := hal.2.1
    by_cases hlt : k < n
    · obtain ⟨hl, p, off, rfl, hp, hc⟩ := ha.at hlt
      by_cases hlt2 : k < m
      · obtain ⟨hl2, p2, off2, rfl, hp2, hc2⟩ := hb.at hlt2
        by_cases he : a[k] = b[k]
        · have HS := Lib.hid (alike_succ hal hl hl2 he)
          have hbq := u8_beq_true he
          clear hal he
          go_wp2
          go_quiet (fail)
          go_wp2
          go_roundw
          case rel => exact ⟨k + 1, by omega, by go_num, HS.out, by first | exact Dr.one _ _ | exact Dr.two _ _ _⟩
          case measure => simp [intOf]; omega
        · have HS := Lib.hid (common_eq_of_ne hal hl hl2 he)
          have hbq := u8_beq_false he
          clear hal he
          go_wp2
          go_quiet (fail)
          go_wp2
          go_ret
          exact ⟨by rw [HS.out]; rfl, by first | exact Dr.one _ _ | exact Dr.two _ _ _⟩
      · have HS := Lib.hid (common_eq_of_right hal (by omega))
        have hd : decide (k < m) = false := by simpa using hlt2
        clear hal
        go_wp2
        go_quiet (fail)
        go_wp2
        go_ret
        exact ⟨by rw [HS.out]; rfl, by first | exact Dr.one _ _ | exact Dr.two _ _ _⟩
    · have HS := Lib.hid (common_eq_of_left hal (by omega))
      have hd : decide (k < n) = false := by simpa using hlt
      clear hal
      go_wp2
      go_quiet (fail)
      go_wp2
      go_ret
      exact ⟨by rw [HS.out]; rfl, by first | exact Dr.one _ _ | exact Dr.two _ _ _⟩

end Go.Proofs.YtklcklflnkbccaaGreatDoor

/- Walks of package nib: Pack, Unpack. -/
namespace Go.Proofs.YtklcklflnkbccaaGreatDoor
open Go.RowKit

set_option maxHeartbeats 400000 in
theorem pack_any (A : Option Addr) (n c : Nat) (l : List UInt8) (w : World) (hn : n ≤ 15) (h : Bs w A n l) (hnib : l.all isNib = true) :
    Calls Tryz.prog 138 #[.slice A n c] w fun e w' => e = .returned (.tuple #[.int .u64 ((n + 16 * packN l : Nat) : Int), .bool true]) ∧ w = w' := by
  have hlen := h.len
  have hr := right_any A n c l w (by omega) h
  rw [hnib] at hr
  go_enter Tryz.func138, Tryz.ntmps138
  go_wp2_with (go_at_call 159; refine hr.mono ?_; rintro e w' ⟨rfl, rfl⟩)
  go_loop [4, 20] (fun v i => ∃ k : Nat, k ≤ n ∧ i = .int .i64 k ∧ v = .int .u64 ((n + 16 * packN (l.take k) : Nat) : Int)) (fun _ i => n - (intOf i).toNat)
  case atStart => exact ⟨0, Nat.zero_le _, rfl, by simp [packN]⟩
  case round =>
    obtain ⟨k, hk, rfl, rfl⟩ := hrel
    by_cases hlt : k < n
    · obtain ⟨hl, b, off, rfl, hb, hc⟩ := h.at hlt
      have HS := Lib.hid (pack_step l n k hn hlt hl hnib)
      clear hr hnib
      go_wp2
      go_round
      case rel => exact ⟨k + 1, by omega, by go_num, HS.out⟩
      case measure => simp [intOf]; omega
    · have hkn : k = n := by omega
      subst hkn
      go_wp2
      go_ret2
      exact ⟨by simp [← hlen], rfl⟩

theorem pack_big (A : Option Addr) (n c : Nat) (w : World) (hn : 15 < n) (hn2 : n ≤ 4294967296) :
    Calls Tryz.prog 138 #[.slice A n c] w fun e w' => e = .returned (.tuple #[.int .u64 0, .bool false]) ∧ w = w' := by
  go_enter Tryz.func138, Tryz.ntmps138
  go_wp2
  go_ret2
  exact ⟨rfl, rfl⟩

theorem pack_no (A : Option Addr) (n c : Nat) (l : List UInt8) (w : World) (hn : n ≤ 15) (h : Bs w A n l) (hnib : l.all isNib = false) :
    Calls Tryz.prog 138 #[.slice A n c] w fun e w' => e = .returned (.tuple #[.int .u64 0, .bool false]) ∧ w = w' := by
  have hr := right_any A n c l w (by omega) h
  rw [hnib] at hr
  go_enter Tryz.func138, Tryz.ntmps138
  go_wp2_with (go_at_call 159; refine hr.mono ?_; rintro e w' ⟨rfl, rfl⟩)
  go_ret2
  exact ⟨rfl, rfl⟩

def UnpackPost (x : Nat) (w : World) (e : Ending) (w' : World) : Prop :=
  Below w.heap.size w w' ∧ (if x / 16 / 16 ^ (x % 16) = 0 then ∃ v, e = .returned (.tuple #[v, .bool true]) ∧ w'.ownsRow w.heap.size 5 1 v (x % 16) ((digits (x % 16) (x / 16)).map bv)
    else e = .returned (.tuple #[.slice none 0 0, .bool false]))

set_option maxHeartbeats 400000 in
theorem unpack_any (x : Nat) (w : World) (hx : x < 18446744073709551616) :
    Calls Tryz.prog 137 #[.int .u64 (x : Int)] w (UnpackPost x w) := by
  obtain ⟨i0, hi, hz0, hz1, hz2⟩ := info_parts Tryz.infoByte
  have hm : x % 16 < 16 := Nat.mod_lt _ (by decide)
  go_enter Tryz.func137, Tryz.ntmps137
  go_wp2_with (at_make; refine wpList_make_full _ rfl _ _ 74 rfl w.heap.size 5 i0 (.int .u8 0) 1 Tryz.underlying74 hi hz0 hz1 .i64 .i64 _ _ (x % 16) rfl rfl (by simp) (by simp) (by rw [hz2]; omega) (by unfold maxLen; omega) (Nat.le_refl _) ?_; intro w0 hown0 hgrow0)
  rw [made_bytes] at hown0
  have hb0 : Below w.heap.size w w0 := (Below.refl _ _).grown hgrow0 (Nat.le_refl _) (by simp)
  clear hgrow0
  obtain ⟨m, hmm⟩ : ∃ m, m = x % 16 := ⟨_, rfl⟩
  obtain ⟨y, hyy⟩ : ∃ y, y = x / 16 := ⟨_, rfl⟩
  have em : ((x : Int) % 16) = (m : Int) := by omega
  have ey : ((x : Int) / 16) = (y : Int) := by omega
  have hy : y < 18446744073709551616 := by omega
  have HM := Lib.hid hmm
  have HY := Lib.hid hyy
  rw [em, ey, ← hmm]
  rw [← hmm] at hown0 hm
  clear em ey hmm hyy
  go_loopw [0, 16] (fun v i wr => ∃ k : Nat, k ≤ m ∧ i = .int .i64 k ∧ v = .int .u64 ((y / 16 ^ k : Nat) : Int) ∧ wr.ownsRow w.heap.size 5 1 (.slice (some ⟨w.heap.size, 0, none⟩) m m) m ((digits k y ++ List.replicate (m - k) (0 : UInt8)).map bv) ∧ Below w.heap.size w wr) (fun _ i _ => m - (intOf i).toNat)
  case atStart => exact ⟨0, Nat.zero_le _, rfl, by simp, by simpa [digits] using hown0, hb0⟩
  case round =>
    clear hown0 hb0
    obtain ⟨k, hk, rfl, rfl, hown, hb⟩ := hrel
    obtain ⟨z, hz⟩ : ∃ z, z = y / 16 ^ k := ⟨_, rfl⟩
    have hzl : z < 18446744073709551616 := by rw [hz]; exact Nat.lt_of_le_of_lt (Nat.div_le_self _ _) hy
    by_cases hlt : k < m
    · have hst := digits_store k m y hlt
      have hpw : ((z : Int) / 16) = ((y / 16 ^ (k + 1) : Nat) : Int) := by rw [Nat.pow_succ, ← Nat.div_div_eq_div_mul, ← hz]; simp
      rw [← hz] at hst ⊢
      have HS := Lib.hid hst
      have HP := Lib.hid hpw
      clear hst hpw hz
      obtain ⟨u, hu⟩ := own_cell hown hlt
      have hf := hown.frozenAt k
      have hown2 := (hown.stored k (bv (UInt8.ofNat (z % 16)))).1
      have hb2 := hb.setCell (p := ⟨w.heap.size, k, none⟩) (Nat.le_refl _) (bv (UInt8.ofNat (z % 16)))
      rw [HS.out, ← bv_of16] at hown2
      rw [← bv_of16] at hb2
      clear hown hb
      go_wp2
      go_roundw
      case rel => exact ⟨k + 1, by omega, by go_num, by rw [HP.out], hown2, hb2⟩
      case measure => simp [intOf]; omega
    · have hkn : k = m := by omega
      subst hkn
      rw [← hz]
      by_cases hz0 : z = 0
      · have ht : ((z : Int) != 0) = false := by simp [hz0]
        have HZ := Lib.hid hz
        have HZ0 := Lib.hid hz0
        clear hz hz0
        go_wp2
        go_ret2
        refine ⟨hb, ?_⟩
        rw [← HM.out, ← HY.out, ← HZ.out, if_pos HZ0.out]
        exact ⟨_, rfl, by simpa using hown⟩
      · have ht : ((z : Int) != 0) = true := by simp; omega
        have HZ := Lib.hid hz
        have HZ0 := Lib.hid hz0
        clear hz hz0
        go_wp2
        go_ret2
        refine ⟨hb, ?_⟩
        rw [← HM.out, ← HY.out, ← HZ.out, if_neg HZ0.out]
        rfl

end Go.Proofs.YtklcklflnkbccaaGreatDoor

/- Walks of package nib: Less, Key. -/
namespace Go.Proofs.YtklcklflnkbccaaGreatDoor
open Go.RowKit

def lessB (a b : List UInt8) : Bool := decide (Lib.compareBytes a b < 0)

theorem compareBytes_range : ∀ (a b : List UInt8), -1 ≤ Lib.compareBytes a b ∧ Lib.compareBytes a b ≤ 1
  | [], [] => by simp [Lib.compareBytes]
  | [], _ :: _ => by simp [Lib.compareBytes]
  | _ :: _, [] => by simp [Lib.compareBytes]
  | x :: xs, y :: ys => by
    have := compareBytes_range xs ys
    simp only [Lib.compareBytes]; split
    · simp
    · split
      · simp
      · exact this

end Go.Proofs.YtklcklflnkbccaaGreatDoor

/- Walks of package nib and of its reference: Key, Of, Pack, Unpack. -/
namespace Go.Proofs.YtklcklflnkbccaaGreatDoor
open Go.RowKit

/-- What Pack answers. -/
def packV (l : List UInt8) : Value := if l.all isNib then .tuple #[.int .u64 ((l.length + 16 * packN l : Nat) : Int), .bool true] else .tuple #[.int .u64 0, .bool false]

theorem packN_any (A : Option Addr) (n c : Nat) (l : List UInt8) (w : World) (hn : n ≤ 15) (h : Bs w A n l) :
    Calls Tryz.prog 138 #[.slice A n c] w fun e w' => e = .returned (packV l) ∧ w = w' := by
  have hlen := h.len
  cases hnib : l.all isNib with
  | true => rw [packV, if_pos hnib, hlen]; exact pack_any A n c l w hn h hnib
  | false => rw [packV, if_neg (by simp [hnib])]; exact pack_no A n c l w hn h hnib

end Go.Proofs.YtklcklflnkbccaaGreatDoor

/- Walks of package nib and of its reference: Unpack of the reference, Key. -/
namespace Go.Proofs.YtklcklflnkbccaaGreatDoor
open Go.RowKit

end Go.Proofs.YtklcklflnkbccaaGreatDoor

/- Walks of package nib and of its reference: Key. -/
namespace Go.Proofs.YtklcklflnkbccaaGreatDoor
open Go.RowKit

/-- What Key answers. -/
def keyV (l : List UInt8) : Value := if keyOk l then .tuple #[.string ⟨(pairs l).toArray⟩, .bool true] else .tuple #[.string ⟨#[]⟩, .bool false]

theorem key_no (A : Option Addr) (n c : Nat) (l : List UInt8) (w : World) (hn : n ≤ 1000000) (h : Bs w A n l) (hk : keyOk l = false) :
    Calls Tryz.prog 125 #[.slice A n c] w fun e w' => e = .returned (.tuple #[.string ⟨#[]⟩, .bool false]) ∧ w = w' := by
  have hlen := h.len
  have hr := right_any A n c l w (by omega) h
  by_cases h2 : n % 2 = 0
  · have hnib : l.all isNib = false := by
      simpa [keyOk, hlen, h2] using hk
    rw [hnib] at hr
    have t1 : ((n : Int) % 2 != 0) = false := by simp; omega
    clear hk hnib h2
    go_enter Tryz.func125, Tryz.ntmps125
    go_wp2_with (go_at_call 159; refine hr.mono ?_; rintro e w' ⟨rfl, rfl⟩)
    go_ret2
    exact ⟨rfl, rfl⟩
  · have t1 : ((n : Int) % 2 != 0) = true := by simp; omega
    clear hk h2 hr
    go_enter Tryz.func125, Tryz.ntmps125
    go_wp2
    go_ret2
    exact ⟨rfl, rfl⟩

set_option maxHeartbeats 400000 in
theorem key_yes (A : Option Addr) (n c : Nat) (l : List UInt8) (w : World) (hn : n ≤ 1000000) (h : Bs w A n l) (hk : keyOk l = true) :
    Calls Tryz.prog 125 #[.slice A n c] w fun e w' => e = .returned (.tuple #[.string ⟨(pairs l).toArray⟩, .bool true]) ∧ Below w.heap.size w w' := by
  obtain ⟨i0, hi, hz0, hz1, hz2⟩ := info_parts Tryz.infoByte
  have hlen := h.len
  have hr := right_any A n c l w (by omega) h
  simp only [keyOk, Bool.and_eq_true, decide_eq_true_eq] at hk
  rw [hk.2] at hr
  have h2 : n % 2 = 0 := by omega
  obtain ⟨m, hm⟩ : ∃ m, n = 2 * m := ⟨n / 2, by omega⟩
  have hmn : m = l.length / 2 := by omega
  have t1 : ((n : Int) % 2 != 0) = false := by simp; omega
  have em : ((n : Int) / 2) = (m : Int) := by omega
  have HM := Lib.hid hm
  have HMN := Lib.hid hmn
  have hm1 : m ≤ n := by omega
  clear hk h2 hm hmn
  go_enter Tryz.func125, Tryz.ntmps125
  go_wp2_with (first | (go_at_call 159; refine hr.mono ?_; rintro e w' ⟨rfl, rfl⟩) | (at_make; refine wpList_make_full _ rfl _ _ 74 rfl w.heap.size 5 i0 (.int .u8 0) 1 Tryz.underlying74 hi hz0 hz1 .i64 .i64 _ _ m rfl rfl (by rfl) (by rfl) (by rw [hz2]; omega) (by unfold maxLen; omega) (Nat.le_refl _) ?_; intro w0 hown0 hgrow0))
  rw [made_bytes] at hown0
  have hb0 : Below w.heap.size w w0 := (Below.refl _ _).grown hgrow0 (Nat.le_refl _) (by simp)
  clear hgrow0 hr
  go_loopw [21] (fun i wr => ∃ k : Nat, k ≤ m ∧ i = .int .i64 k ∧ wr.ownsRow w.heap.size 5 1 (.slice (some ⟨w.heap.size, 0, none⟩) m m) m ((pairs (l.take (2 * k)) ++ List.replicate (m - k) (0 : UInt8)).map bv) ∧ Below w.heap.size w wr) (fun i _ => m - (intOf i).toNat)
  case atStart => exact ⟨0, Nat.zero_le _, rfl, by simpa [pairs] using hown0, hb0⟩
  case round =>
    clear hown0 hb0
    obtain ⟨k, hk, rfl, hown, hb⟩ := hrel
    by_cases hlt : k < m
    · have hm := HM.out
      have hwr := h.below hb
      obtain ⟨hl1, b, off, rfl, hp, hc1⟩ := Bs.at hwr (show 2 * k < n by omega)
      obtain ⟨hl2, b', off', e', _, hc2⟩ := Bs.at hwr (show 2 * k + 1 < n by omega)
      injection e' with e'
      injection e' with e1 e2 e3
      subst e1 e2
      have hnn : 2 * k + 1 < n := by omega
      obtain ⟨u, hu⟩ := own_cell hown hlt
      have hf := hown.frozenAt k
      have hown2 := (hown.stored k (bv (l[2 * k] * 16 + l[2 * k + 1]))).1
      have hb2 := hb.setCell (p := ⟨w.heap.size, k, none⟩) (Nat.le_refl _) (bv (l[2 * k] * 16 + l[2 * k + 1]))
      rw [pairs_store l k m hlt hl2 HMN.out] at hown2
      have HO := Lib.hid hown2
      have HB := Lib.hid hb2
      clear hown hb hown2 hb2 hm hwr e3
      go_wp2
      go_region
      go_wp2
      go_roundw
      case rel =>
        refine ⟨k + 1, by omega, by go_num, ?_, ?_⟩
        · rw [bv_pair]; exact HO.out.drew
        · rw [bv_pair]; exact HB.out.drew
      case measure => simp [intOf]; omega
    · have hkn : k = m := by omega
      subst hkn
      simp only [Nat.sub_self, List.replicate_zero, List.append_nil] at hown
      have hall : pairs (l.take (2 * k)) = pairs l := by rw [HMN.out]; exact pairs_take_all l
      rw [hall] at hown
      obtain ⟨A', c', hv, _, hrd⟩ := rd_of_own hown
      injection hv with hv1 hv2 hv3
      subst hv1
      have hcv := run_string_of_bs (P := Tryz.prog) Tryz.underlying74 Tryz.underlying5 Tryz.underlying9 hrd k
      clear hall hown hv3 hrd hv2
      go_wp2
      go_ret2
      exact ⟨rfl, hb⟩

theorem key_any (A : Option Addr) (n c : Nat) (l : List UInt8) (w : World) (hn : n ≤ 1000000) (h : Bs w A n l) :
    Calls Tryz.prog 125 #[.slice A n c] w fun e w' => e = .returned (keyV l) ∧ Below w.heap.size w w' := by
  cases hk : keyOk l with
  | true => rw [keyV, if_pos hk]; exact key_yes A n c l w hn h hk
  | false =>
    rw [keyV, if_neg (by simp [hk])]
    exact (key_no A n c l w hn h hk).mono fun e w' ⟨h1, h2⟩ => ⟨h1, h2 ▸ Below.refl _ _⟩

/-- The reference's text so far, and its next byte. -/
theorem concat_step (l : List UInt8) (k : Nat) (h : 2 * k + 1 < l.length) :
    (⟨(pairsR (l.take (2 * (k + 1)))).toArray⟩ : ByteArray) = ⟨(pairsR (l.take (2 * k))).toArray⟩ ++ ⟨[l[2 * k] * 16 + l[2 * k + 1] % 16].toArray⟩ := by
  rw [pairsR_take k l h]
  apply ByteArray.ext
  simp

theorem bv_pairR (a b : UInt8) : Value.int .u8 ((a.toNat : Int) * 16 % 256 + (b.toNat : Int) % 16) = bv (a * 16 + b % 16) := by
  simp only [bv, UInt8.toNat_add, UInt8.toNat_mul, UInt8.toNat_mod]
  congr 1
  have h1 := a.toNat_lt
  have h2 := b.toNat_lt
  simp
  omega

/-- string([]byte{b}). -/
theorem run_string_one (x : Int) (b : UInt8) (hx : Value.int .u8 x = bv b) (wr : World) :
    (convert 74 9 (.slice (some ⟨wr.heap.size, 0, none⟩) 1 1)).run Tryz.prog (wr.alloc (.cells #[.int .u8 x] 5)).drew = .ok (.string ⟨[b].toArray⟩) (wr.alloc (.cells #[.int .u8 x] 5)).drew := by
  have hbs : Bs (wr.alloc (.cells #[.int .u8 x] 5)).drew (some ⟨wr.heap.size, 0, none⟩) 1 [b] := by
    refine ⟨rfl, fun _ => ⟨wr.heap.size, 0, rfl, by show wr.heap.size < (wr.heap.push _).size; simp, fun j hj => ?_⟩⟩
    rw [show j = 0 by omega, hx]
    show (wr.alloc (.cells #[bv b] 5)).cell? _ = _
    rw [cell_of_row _ wr.heap.size _ _ 5 (0, 0) (heap_alloc_new wr _)]
    rfl
  exact run_string_of_bs Tryz.underlying74 Tryz.underlying5 Tryz.underlying9 hbs 1

theorem keyR_no {l : List UInt8} {S : ByteArray} (hS : (⟨(pairsR l).toArray⟩ : ByteArray) = S) (h : (!nibs S.data.toList == l) = true) : Ending.returned (.tuple #[.string ⟨#[]⟩, .bool false]) = .returned (keyV l) := by
  subst hS
  have := keyR_ok l
  simp only [Bool.not_eq_true'] at h
  change (nibs (pairsR l) == l) = false at h
  rw [keyV, if_neg (by rw [← this, h]; simp)]
theorem keyR_yes {l : List UInt8} {S : ByteArray} (hS : (⟨(pairsR l).toArray⟩ : ByteArray) = S) (h : (!nibs S.data.toList == l) = false) : Ending.returned (.tuple #[.string S, .bool true]) = .returned (keyV l) := by
  subst hS
  have hk := keyR_ok l
  simp only [Bool.not_eq_false'] at h
  change (nibs (pairsR l) == l) = true at h
  have hk' : keyOk l = true := by rw [← hk, h]
  rw [keyV, if_pos hk', pairsR_eq l (by simp only [keyOk, Bool.and_eq_true] at hk'; exact hk'.2)]

end Go.Proofs.YtklcklflnkbccaaGreatDoor

/- The walk of layer 8's alive: true, and nothing that was there has turned. -/
namespace Go.Proofs.YtklcklflnkbccaaGreatDoor
open Go.RowKit

/-- Two cells in a new block are a slice of two bytes. -/
theorem bs_new2 (w : World) (a b : UInt8) (g : Nat) (hg : g = w.heap.size) : Bs (w.alloc (.cells #[bv a, bv b] 5)) (some ⟨g, 0, none⟩) 2 [a, b] := by
  subst hg
  refine ⟨rfl, fun _ => ⟨w.heap.size, 0, rfl, by show w.heap.size < (w.heap.push _).size; simp, fun j hj => ?_⟩⟩
  rw [cell_of_row _ w.heap.size _ _ 5 (0, 0) (heap_alloc_new w _)]
  simp
theorem bs_new1 (w : World) (a : UInt8) (g : Nat) (hg : g = w.heap.size) : Bs (w.alloc (.cells #[bv a] 5)) (some ⟨g, 0, none⟩) 1 [a] := by
  subst hg
  refine ⟨rfl, fun _ => ⟨w.heap.size, 0, rfl, by show w.heap.size < (w.heap.push _).size; simp, fun j hj => ?_⟩⟩
  rw [cell_of_row _ w.heap.size _ _ 5 (0, 0) (heap_alloc_new w _)]
  simp

/-- string(l) at the seat's own types. -/
theorem conv_bs {w : World} {A : Option Addr} {n : Nat} {l : List UInt8} (h : Bs w A n l) (c : Nat) : (convert 74 9 (.slice A n c)).run Tryz.prog w = .ok (.string ⟨l.toArray⟩) w :=
  run_string_of_bs Tryz.underlying74 Tryz.underlying5 Tryz.underlying9 h c

end Go.Proofs.YtklcklflnkbccaaGreatDoor
