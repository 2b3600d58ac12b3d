/- Walks of package node: small, big. -/
import Derived.Test.YtaamkdejediccaaNodeF
namespace Go.Proofs.Ytaamkdejediccaa
open Go.RowKit

/-- Two slices that a call answers, and what they read as. -/
def TwoPost (lb : List UInt8) (ks : List UInt64) (w : World) (e : Ending) (w' : World) : Prop :=
  Below w.heap.size w w' ∧ ∃ A1 c1 A2 c2, e = .returned (.tuple #[.slice A1 lb.length c1, .slice A2 ks.length c2]) ∧ w'.ownsRow w.heap.size 5 1 (.slice A1 lb.length c1) lb.length (lb.map bv) ∧ w'.ownsRow w.heap.size 30 1 (.slice A2 ks.length c2) ks.length (ks.map wv)

theorem Ws.sub {w : World} {A : Option Addr} {n : Nat} {l : List UInt64} (h : Ws w A n l) {c lo hi : Nat} (h1 : lo ≤ hi) (h2 : hi ≤ n) (hc : n ≤ c) : Ws w (subA A c lo) (hi - lo) ((l.drop lo).take (hi - lo)) := by
  have := Rd.sub h h1 h2 hc
  rwa [← List.map_drop, ← List.map_take] at this

set_option maxHeartbeats 400000 in
theorem small_any (A : Option Addr) (c : Nat) (l : List UInt64) (w : World) (hc : 8 ≤ c) (h : Ws w A 8 l) (u : UInt64) (hu : l[3]? = some u) :
    Calls Try.prog 45 #[.slice A 8 c] w (TwoPost (candS u.toNat (l.drop 4)).1 (candS u.toNat (l.drop 4)).2 w) := by
  have hlen := h.len
  obtain ⟨hq, b, off, rfl, hb, hc3⟩ := h.at (show 3 < 8 by decide)
  have hu' : l[3] = u := by rw [List.getElem?_eq_getElem hq] at hu; injection hu
  rw [hu'] at hc3
  have hun := unpack_any u.toNat w (by have := u.toNat_lt; simpa [UInt64.size] using this)
  have HU := Lib.hid hun
  clear hun hu'
  go_enter Try.func45, Try.ntmps45
  go_wp2_with fail
  refine HU.out.mono ?_
  rintro e w1 ⟨hb1, hu1⟩
  clear HU hc3
  have hm := Nat.mod_lt u.toNat (show 0 < 16 by decide)
  by_cases hz : u.toNat / 16 / 16 ^ (u.toNat % 16) = 0
  · rw [if_pos hz] at hu1
    obtain ⟨v1, rfl, ho1⟩ := hu1
    obtain ⟨A1, c1, rfl, hc1, hr1⟩ := rd_of_own ho1
    by_cases h4 : u.toNat % 16 ≤ 4
    · have hcand : candS u.toNat (l.drop 4) = (digits (u.toNat % 16) (u.toNat / 16), (l.drop 4).take (u.toNat % 16)) := by rw [candS, if_pos ⟨hz, h4⟩]
      have HC := Lib.hid hcand
      have HR1 : Hid (w1.ownsRow w.heap.size 5 1 (.slice A1 (u.toNat % 16) c1) (u.toNat % 16) ((digits (u.toNat % 16) (u.toNat / 16)).map bv)) := Lib.hid ho1
      obtain ⟨m, hmm⟩ : ∃ m, m = u.toNat % 16 := ⟨_, rfl⟩
      have hw1 := h.below hb1
      have hsub := Ws.sub hw1 (c := c) (lo := 4) (hi := 4 + m) (by omega) (by omega) hc
      rw [← hmm] at hc1 h4 ⊢
      have HMM := Lib.hid hmm
      have hsl := run_sub Try.wordsTy (some ⟨b, off, none⟩) 8 c .i64 .i64 4 (4 + m) (by omega) (by omega)
      rw [show 4 + m - 4 = m by omega] at hsl hsub
      have hcl := cloneW_any (subA (some ⟨b, off, none⟩) c 4) m (c - 4) _ w1 (by omega) hsub
      have HCL := Lib.hid hcl
      have e4 : ((4 : Nat) : Int) = 4 := rfl
      have e4m : ((4 + m : Nat) : Int) = 4 + (m : Int) := by omega
      simp only [e4, e4m] at hsl
      have d4 : decide (4 < (m : Int)) = false := by simp; omega
      clear hz hcand ho1 hr1 hmm hcl hsub e4 e4m
      go_wp2_with fail
      refine HCL.out.mono ?_
      rintro e w2 ⟨v2, rfl, ho2, hb2⟩
      obtain ⟨A2, c2, rfl, hc2, hr2⟩ := rd_of_own ho2
      have HO2 := Lib.hid (own_mono ho2 hb1.size)
      clear HCL ho2 hr2 hc2
      go_wp2_with fail
      go_ret2
      have hl1 : ((l.drop 4).take m).length = m := by simp [hlen]; omega
      refine ⟨hb1.trans (hb2.mono hb1.size), ?_⟩
      rw [HC.out]
      dsimp only
      rw [← HMM.out, digits_length, hl1]
      refine ⟨A1, c1, A2, c2, rfl, ?_, HO2.out⟩
      have := own_below HR1.out hb2
      rw [← HMM.out] at this
      exact this
    · have hcand : candS u.toNat (l.drop 4) = ([], []) := by rw [candS, if_neg (fun e => h4 e.2)]
      have HC := Lib.hid hcand
      have d4 : decide (4 < ((u.toNat % 16 : Nat) : Int)) = true := by simp; omega
      generalize u.toNat % 16 = m at *
      clear hz hcand
      go_wp2_with fail
      go_ret2
      refine ⟨hb1, ?_⟩
      rw [HC.out]
      exact ⟨none, 0, none, 0, rfl, World.ownsRow_nil _ _ _ _, World.ownsRow_nil _ _ _ _⟩
  · rw [if_neg hz] at hu1
    subst hu1
    have hcand : candS u.toNat (l.drop 4) = ([], []) := by rw [candS, if_neg (fun e => hz e.1)]
    have HC := Lib.hid hcand
    clear hz hcand
    go_wp2_with fail
    go_ret2
    refine ⟨hb1, ?_⟩
    rw [HC.out]
    exact ⟨none, 0, none, 0, rfl, World.ownsRow_nil _ _ _ _, World.ownsRow_nil _ _ _ _⟩

end Go.Proofs.Ytaamkdejediccaa
