/- Walks of package nib: Less, Key. -/
import Derived.Test.YtaamkdejediccaaNibC
namespace Go.Proofs.Ytaamkdejediccaa
open Go.RowKit

theorem Try.compare_enters (args : Array Value) (w : World) : (callFunc 59 args).run Try.prog w = ((Extern.BytealgCompare.compare args).run Try.prog w).andThen fun v w' => .ok (.value v) w' :=
  run_callFunc_extern Try.func59 (by kernel_rfl) (by kernel_rfl) (by kernel_rfl) (by kernel_rfl) args w

def lessB (a b : List UInt8) : Bool := decide (Lib.compareBytes a b < 0)

theorem bcompare_any (A B : Option Addr) (n m c d : Nat) (a b : List UInt8) (w : World) (ha : Bs w A n a) (hb : Bs w B m b) :
    Calls Try.prog 44 #[.slice A n c, .slice B m d] w fun e w' => e = .returned (.int .i64 (Lib.compareBytes a b)) ∧ w = w' := by
  have hcall : (callFunc 59 #[.slice A n c, .slice B m d]).run Try.prog w = .ok (.value (.int .i64 (Lib.compareBytes a b))) w := by
    rw [Try.compare_enters, run_compare_slices ha hb]; rfl
  go_enter Try.func44, Try.ntmps44
  go_wp2
  go_ret
  exact ⟨rfl, rfl⟩

theorem compareBytes_range : ∀ (a b : List UInt8), -1 ≤ Lib.compareBytes a b ∧ Lib.compareBytes a b ≤ 1
  | [], [] => by simp [Lib.compareBytes]
  | [], _ :: _ => by simp [Lib.compareBytes]
  | _ :: _, [] => by simp [Lib.compareBytes]
  | x :: xs, y :: ys => by
    have := compareBytes_range xs ys
    simp only [Lib.compareBytes]; split
    · simp
    · split
      · simp
      · exact this

theorem less_any (A B : Option Addr) (n m c d : Nat) (a b : List UInt8) (w : World) (ha : Bs w A n a) (hb : Bs w B m b) :
    Calls Try.prog 21 #[.slice A n c, .slice B m d] w fun e w' => e = .returned (.bool (lessB a b)) ∧ w = w' := by
  have hc := bcompare_any A B n m c d a b w ha hb
  obtain ⟨r, hr⟩ : ∃ r, r = Lib.compareBytes a b := ⟨_, rfl⟩
  have HR := Lib.hid hr
  rw [← hr] at hc
  clear hr
  go_enter Try.func21, Try.ntmps21
  go_wp2_with (go_at_call 44; refine hc.mono ?_; rintro e w' ⟨rfl, rfl⟩)
  go_ret
  exact ⟨by rw [HR.out]; rfl, rfl⟩

set_option maxHeartbeats 400000 in
theorem lessR_any (A B : Option Addr) (n m c d : Nat) (a b : List UInt8) (w : World) (hn : n ≤ 4294967296) (hm : m ≤ 4294967296) (ha : Bs w A n a) (hb : Bs w B m b) :
    Calls Try.prog 22 #[.slice A n c, .slice B m d] w fun e w' => e = .returned (.bool (lessB a b)) ∧ Dr w w' := by
  have hc := commonR_any A B n m c d a b w hn hm ha hb
  have hla := ha.len
  have hlb := hb.len
  have hL : lessB a b = _ := less_at a b
  have h1 := common_le_left a b
  have h2 := common_le_right a b
  generalize common a b = k at hc hL h1 h2
  rw [lessAt] at hL
  by_cases e1 : k = m
  · have t1 : ((k : Int) == (m : Int)) = true := by simp [e1]
    rw [if_pos (by omega)] at hL
    have HL := Lib.hid hL
    clear hL e1
    go_enter Try.func22, Try.ntmps22
    go_wp2_with (go_at_call 20; refine hc.mono ?_; rintro e w' ⟨rfl, q, rfl⟩)
    go_ret
    exact ⟨by rw [HL.out]; rfl, Dr.one _ _⟩
  · have t1 : ((k : Int) == (m : Int)) = false := by simp; omega
    rw [if_neg (by omega)] at hL
    by_cases e2 : k = n
    · have t2 : ((k : Int) == (n : Int)) = true := by simp [e2]
      rw [if_pos (by omega)] at hL
      have HL := Lib.hid hL
      clear hL e1 e2
      go_enter Try.func22, Try.ntmps22
      go_wp2_with (go_at_call 20; refine hc.mono ?_; rintro e w' ⟨rfl, q, rfl⟩)
      go_quiet (fail)
      go_wp2
      go_ret
      exact ⟨by rw [HL.out]; rfl, by first | exact Dr.one _ _ | exact Dr.two _ _ _⟩
    · have t2 : ((k : Int) == (n : Int)) = false := by simp; omega
      rw [if_neg (by omega)] at hL
      obtain ⟨q1, p, off, rfl, hp, hc1⟩ := ha.at (show k < n by omega)
      obtain ⟨q2, p2, off2, rfl, hp2, hc2⟩ := hb.at (show k < m by omega)
      rw [show a.getD k 0 = a[k] by simp [List.getD, q1], show b.getD k 0 = b[k] by simp [List.getD, q2]] at hL
      have hlt : k < n := by omega
      have hlt2 : k < m := by omega
      have HL := Lib.hid hL
      clear hL e1 e2
      go_enter Try.func22, Try.ntmps22
      go_wp2_with (go_at_call 20; refine hc.mono ?_; rintro e w' ⟨rfl, q, rfl⟩)
      go_quiet (fail)
      go_wp2
      go_ret
      exact ⟨by rw [HL.out]; simp [UInt8.lt_iff_toNat_lt], by first | exact Dr.one _ _ | exact Dr.two _ _ _⟩

end Go.Proofs.Ytaamkdejediccaa
