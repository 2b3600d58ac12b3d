/- Plain laws of nodes, in the cells' own words: what Encode lays. -/
import Derived.Test.YtaamkdejediccaaNodeP
import Derived.Test.YtaamkdejediccaaBaseB
namespace Go.Proofs.Ytaamkdejediccaa

theorem wv_ofNat (n : Nat) (h : n < 18446744073709551616) : wv (UInt64.ofNat n) = .int .u64 (n : Int) := by
  rw [wv, UInt64.toNat_ofNat_of_lt' (by simpa [UInt64.size] using h)]

theorem encW_small (x : Nd) (h : x.kids.length ≤ 4) : (encW x).map wv = splice ((((((List.replicate 8 (0 : UInt64)).map wv).set 0 (.int .u64 (1 + 256 * (x.kids.length : Int)))).set 1 (.int .u64 ((packU x.pre).toNat : Int))).set 2 (.int .u64 (x.val.toNat : Int))).set 3 (.int .u64 ((packU x.labels).toNat : Int))) 4 (x.kids.map wv) := by
  rw [encW, if_pos h, encS]
  have e : wv (UInt64.ofNat (1 + 256 * x.kids.length)) = .int .u64 (1 + 256 * (x.kids.length : Int)) := by rw [wv_ofNat _ (by omega)]; simp
  simp only [splice, List.map_append, List.map_cons, List.map_nil, e, List.length_map, List.map_replicate]
  obtain ⟨r, hr⟩ : ∃ r, r = x.kids.length := ⟨_, rfl⟩
  rw [← hr] at h ⊢
  have : r = 0 ∨ r = 1 ∨ r = 2 ∨ r = 3 ∨ r = 4 := by omega
  rcases this with rfl | rfl | rfl | rfl | rfl <;> simp [List.replicate, wv]

theorem headB_row (x : Nd) (h : x.kids.length ≤ 1000000) : (putKids (headB x) (x.labels.take 0) (x.kids.take 0)).map wv = ((((List.replicate 32 (0 : UInt64)).map wv).set 0 (.int .u64 (2 + 256 * (x.kids.length : Int)))).set 1 (.int .u64 ((packU x.pre).toNat : Int))).set 2 (.int .u64 (x.val.toNat : Int)) := by
  have e : wv (UInt64.ofNat (2 + 256 * x.kids.length)) = .int .u64 (2 + 256 * (x.kids.length : Int)) := by rw [wv_ofNat _ (by omega)]; simp
  simp only [List.take_zero, putKids, headB, List.map_append, List.map_cons, List.map_nil, e]
  simp [List.replicate, wv]

theorem putKids_row (x : Nd) (k : Nat) (h1 : k < x.labels.length) (h2 : k < x.kids.length) :
    (putKids (headB x) (x.labels.take (k + 1)) (x.kids.take (k + 1))).map wv = ((putKids (headB x) (x.labels.take k) (x.kids.take k)).map wv).set (4 + x.labels[k].toNat) (.int .u64 (x.kids[k].toNat : Int)) := by
  rw [putKids_take_succ _ _ _ k h1 h2, List.map_set]; rfl

end Go.Proofs.Ytaamkdejediccaa
