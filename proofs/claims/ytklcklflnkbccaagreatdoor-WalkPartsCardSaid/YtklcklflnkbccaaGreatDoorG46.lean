import Derived.Deep.SlicePairs
import Derived.ChangeOld
import Derived.Test.YtklcklflnkbccaaGreatDoorG25
import Derived.Test.YtklcklflnkbccaaGreatDoorG45
/- What the frames of layer 11's laws use: a slice of items that came in, opened. -/
namespace Go.Proofs.YtklcklflnkbccaaGreatDoor
open Go.ChangeShapes Go.WideShapes Go.ChangeAt Go.RowKit

theorem u64_of_wf'' {a : Int} (h : (Lit.int .u64 a).wf = true) : ∃ x : UInt64, a = (x.toNat : Int) := by
  obtain ⟨n, rfl, hn⟩ := u64_of_wf h
  exact ⟨UInt64.ofNat n, by rw [UInt64.toNat_ofNat_of_lt' (by simpa [UInt64.size] using hn)]⟩

/-- Items that came in. -/
theorem open_items {H : Type} {enc : TypeId × Value → H} {W : World} {v : Value} {d : DataW H} {p : List MemPlace} (h : DataW.Trod enc Tryz.prog W 0 (fun _ => true) true 26 v d p) (h1 : v.cells.toList = [v]) :
    ∃ A c l, v = .slice A l.length c ∧ l.length ≤ maxLen ∧ l.length ≤ c ∧ (A = none → c = 0) ∧ ItR W A l := by
  obtain ⟨m, hm⟩ := h
  rw [h1] at hm
  rcases Go.Deep.open_slice_pairs Tryz.underlying26 Tryz.underlying89 (by kernel_rfl) rfl rfl (by kernel_rfl) (by kernel_rfl) hm with ⟨hcs, _⟩ | ⟨a, len, cap, m', n, V0, V1, D0, D1, P0, P1, hcs, _, hl, hc, hmm, _, hi⟩
  · simp only [List.cons.injEq, and_true] at hcs
    exact ⟨none, 0, [], hcs, by simp, Nat.le_refl _, fun _ => rfl, by simp [itCs], fun h => absurd h (by simp)⟩
  · simp only [List.cons.injEq, and_true] at hcs
    have hlm : len ≤ m' := by rw [hmm]; simp; omega
    have each : ∀ i, i < len → ∃ it : It, W.cell? (a.add (i * 2)) = some (.string it.k) ∧ W.cell? (a.add (i * 2 + 1)) = some (.int .u64 (it.v.toNat : Int)) := fun i hil => by
      obtain ⟨g0, g1, k0, k1⟩ := hi i (by omega)
      obtain ⟨s, e0, _⟩ := DataW.trod_string Tryz.underlying9 k0
      obtain ⟨x, e1, _, wx⟩ := DataW.trod_int Tryz.underlying33 k1
      obtain ⟨y, rfl⟩ := u64_of_wf'' wx
      simp only [List.cons.injEq, and_true] at e0 e1
      exact ⟨⟨s, y⟩, by rw [g0, e0], by rw [g1, e1]⟩
    obtain ⟨l, hll, hle⟩ : ∃ l : List It, l.length = len ∧ ∀ i (h : i < l.length), W.cell? (a.add (i * 2)) = some (.string l[i].k) ∧ W.cell? (a.add (i * 2 + 1)) = some (.int .u64 (l[i].v.toNat : Int)) := by
      refine ⟨(List.range len).pmap (fun i hi => (each i hi).choose) (fun i hi => List.mem_range.1 hi), by simp, fun i hil => ?_⟩
      have hil' : i < len := by simpa using hil
      have := (each i hil').choose_spec
      simpa using this
    have hsp : 0 < len → a = ⟨a.block, a.off, none⟩ := fun h0 => by
      have h2 := World.cell?_spot (hle 0 (by omega)).1
      have h3 : a.spot = none := by simpa [Addr.add] using h2
      cases a
      simp only at h3
      subst h3
      rfl
    refine ⟨some a, cap, l, by rw [hcs, hll], by omega, by omega, (fun e => nomatch e), itCs_len l, fun h0 => ?_⟩
    have ha := hsp (by omega)
    have hlt : a.block < W.heap.size := by
      have := (hle 0 (by omega)).1
      rw [Nat.zero_mul] at this
      exact World.block_lt_of_cell? W _ (by simpa [Addr.add] using this)
    refine ⟨a.block, a.off, by rw [← ha], hlt, fun j hj => ?_⟩
    have hj2 : j / 2 < l.length := by omega
    obtain ⟨q0, q1⟩ := hle (j / 2) hj2
    obtain ⟨r0, r1⟩ := itCs_get l (j / 2) hj2
    rw [ha, Addr.add_lit] at q0 q1
    rcases Nat.mod_two_eq_zero_or_one j with e | e
    · have e2 : j = 2 * (j / 2) := by omega
      rw [e2, r0, ← q0, Nat.mul_comm]
    · have e2 : j = 2 * (j / 2) + 1 := by omega
      rw [e2, r1, ← q1, Nat.mul_comm 2]

end Go.Proofs.YtklcklflnkbccaaGreatDoor
