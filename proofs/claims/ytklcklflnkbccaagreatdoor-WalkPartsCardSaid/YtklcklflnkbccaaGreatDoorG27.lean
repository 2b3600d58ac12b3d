import Derived.Test.YtklcklflnkbccaaGreatDoorG25
/- Walks of package walk: Merge. -/
namespace Go.Proofs.YtklcklflnkbccaaGreatDoor
open Go.RowKit

theorem ItR.tail {w : World} {b off c : Nat} {P : Option Addr} {x : It} {t : List It} (h : ItR w (some ⟨b, off, none⟩) (x :: t)) (hc : (x :: t).length ≤ c) (hP : (c = 1 ∧ P = some ⟨b, off, none⟩) ∨ P = some ⟨b, off + 2, none⟩) : ItR w P t := by
  rw [List.length_cons] at hc
  have e : itCs (x :: t) = itC x ++ itCs t := rfl
  refine ⟨by rw [itCs_len], fun hn => ?_⟩
  rcases hP with ⟨h1, _⟩ | rfl
  · omega
  · obtain ⟨b', off', e', hb, hcc⟩ := h.2 (by simp)
    injection e' with e'
    injection e' with e1 e2
    subst e1 e2
    refine ⟨_, _, rfl, hb, fun j hj => ?_⟩
    rw [Nat.add_assoc, hcc (2 + j) (by simp only [List.length_cons]; omega), e, List.getElem?_append_right (by simp [itC])]
    simp [itC]

theorem own_mono2 {w : World} {base base' k n : Nat} {e : TypeId} {v : Value} {xs : List Value} (h : w.ownsRow base e k v n xs) (hb : base' ≤ base) : w.ownsRow base' e k v n xs :=
  ⟨h.1, h.2.imp id (fun ⟨g, cap, cur, h1, h2, h3⟩ => ⟨g, cap, cur, h1, Nat.le_trans hb h2, h3⟩)⟩

def MergeAt (a b : List It) (w : World) (u0 u1 u5 : Value) (wr : World) : Prop :=
  ∃ (A B : Option Addr) (ca cb : Nat) (a' b' out : List It), u0 = .slice A a'.length ca ∧ u1 = .slice B b'.length cb ∧ a'.length ≤ ca ∧ b'.length ≤ cb ∧ ItR w A a' ∧ ItR w B b' ∧ wr.ownsRow w.heap.size 35 2 u5 out.length (itCs out) ∧ out ++ mergeW a' b' = mergeW a b ∧ out.length + a'.length + b'.length ≤ a.length + b.length ∧ Below w.heap.size w wr


end Go.Proofs.YtklcklflnkbccaaGreatDoor
