/- Words for memory: a row of cells of which a stretch is written anew. No statement of the program. -/
import Derived.Test.YtaamkdejediccaaBaseB
import Derived.Laws.IdiomCopy
namespace Go.Proofs.Ytaamkdejediccaa
open Go.RowKit

/-- A block after a stretch of its cells is written. -/
theorem heap_setCells_at (g : Nat) (e : TypeId) (fz : Nat × Nat) : ∀ (vs : List Value) (o : Nat) (w : World) (cur : Array Value), w.heap[g]? = some (.cells cur e fz) → o + vs.length ≤ cur.size →
    ∃ cur' : Array Value, (w.setCells g o vs).heap[g]? = some (.cells cur' e fz) ∧ cur'.size = cur.size ∧ ∀ j : Nat, cur'[j]? = if o ≤ j ∧ j < o + vs.length then vs[j - o]? else cur[j]?
  | [], o, w, cur, h, _ => ⟨cur, h, rfl, fun j => by rw [if_neg (by simp only [List.length_nil]; omega)]⟩
  | v :: r, o, w, cur, h, hs => by
    have h1 : (w.setCell ⟨g, o, none⟩ v).heap[g]? = some (.cells (cur.setIfInBounds o v) e fz) := by
      simp [World.setCell, Array.getElem?_modify, h]
    obtain ⟨cur', h2, h3, h4⟩ := heap_setCells_at g e fz r (o + 1) (w.setCell ⟨g, o, none⟩ v) (cur.setIfInBounds o v) h1 (by simp at hs ⊢; omega)
    refine ⟨cur', h2, by rw [h3]; simp, fun j => ?_⟩
    rw [h4 j]
    simp only [List.length_cons] at hs ⊢
    by_cases hj : j = o
    · subst hj
      rw [if_neg (by omega), if_pos (by omega), Array.getElem?_setIfInBounds, if_pos rfl, if_pos (by omega)]
      simp
    · by_cases hin : o + 1 ≤ j ∧ j < o + 1 + r.length
      · rw [if_pos hin, if_pos (by omega)]
        rw [show j - o = (j - (o + 1)) + 1 by omega]
        simp
      · rw [if_neg hin, if_neg (by omega), Array.getElem?_setIfInBounds, if_neg (by omega)]

theorem setCells_size (w : World) (g o : Nat) (vs : List Value) : (w.setCells g o vs).heap.size = w.heap.size := by
  induction vs generalizing w o with
  | nil => rfl
  | cons v r ih => rw [World.setCells, ih]; simp [World.setCell]
theorem setCells_tape (w : World) (g o : Nat) (vs : List Value) : (w.setCells g o vs).tape = w.tape := by
  induction vs generalizing w o with
  | nil => rfl
  | cons v r ih => rw [World.setCells, ih]; rfl
theorem setCells_os (w : World) (g o : Nat) (vs : List Value) : (w.setCells g o vs).os = w.os := by
  induction vs generalizing w o with
  | nil => rfl
  | cons v r ih => rw [World.setCells, ih]; rfl
theorem setCells_output (w : World) (g o : Nat) (vs : List Value) : (w.setCells g o vs).output = w.output := by
  induction vs generalizing w o with
  | nil => rfl
  | cons v r ih => rw [World.setCells, ih]; rfl
theorem setCells_other (w : World) (g o : Nat) (vs : List Value) {k : Nat} (hk : k ≠ g) : (w.setCells g o vs).heap[k]? = w.heap[k]? := by
  induction vs generalizing w o with
  | nil => rfl
  | cons v r ih => rw [World.setCells, ih]; exact Below.heap_setCell w ⟨g, o, none⟩ v k (fun h => hk h)

/-- What is put in at i. -/
def insV (xs : List Value) (i : Nat) (u : Value) : List Value := xs.take i ++ u :: xs.drop i

theorem insV_get (xs : List Value) (i : Nat) (u : Value) (hi : i ≤ xs.length) (j : Nat) : (insV xs i u)[j]? = if j < i then xs[j]? else if j = i then some u else xs[j - 1]? := by
  unfold insV
  by_cases h1 : j < i
  · rw [if_pos h1, List.getElem?_append_left (by simp; omega), List.getElem?_take, if_pos h1]
  · rw [if_neg h1, List.getElem?_append_right (by simp; omega)]
    simp only [List.length_take, Nat.min_eq_left hi]
    by_cases h2 : j = i
    · subst h2; simp
    · rw [if_neg h2, show j - i = (j - 1 - i) + 1 by omega, List.getElem?_cons_succ, List.getElem?_drop]
      congr 1; omega

theorem insV_length (xs : List Value) (i : Nat) (u : Value) (hi : i ≤ xs.length) : (insV xs i u).length = xs.length + 1 := by
  unfold insV; simp; omega

/-- A row in which the cells from i on were moved by one and a new one was laid between. -/
theorem own_shift {w : World} {base g n c i : Nat} {e : TypeId} {xs : List Value} {u : Value} (h : w.ownsRow base e 1 (.slice (some ⟨g, 0, none⟩) n c) n xs) (hi : i ≤ n) (hc : n + 1 ≤ c) :
    ((w.setCells g (i + 1) (xs.drop i)).setCells g i [u]).ownsRow base e 1 (.slice (some ⟨g, 0, none⟩) (n + 1) c) (n + 1) (insV xs i u) := by
  obtain ⟨h1, h2⟩ := h
  have hlen : xs.length = n := by simpa using h1
  rcases h2 with ⟨h2, _⟩ | ⟨g', cap, cur, hv, hB, hg, hnc, hcm, hcs, ht⟩
  · cases h2
  simp only [Value.slice.injEq, Option.some.injEq, Addr.mk.injEq, and_true, true_and] at hv
  obtain ⟨rfl, rfl⟩ := hv
  obtain ⟨cur1, a1, a2, a3⟩ := heap_setCells_at g e (0, 0) (xs.drop i) (i + 1) w cur hg (by simp; omega)
  obtain ⟨cur2, b1, b2, b3⟩ := heap_setCells_at g e (0, 0) [u] i _ cur1 a1 (by simp; omega)
  refine ⟨by rw [insV_length xs i u (by omega)]; omega, .inr ⟨g, c, cur2, rfl, hB, b1, hc, hcm, by omega, ?_⟩⟩
  apply List.ext_getElem?
  intro j
  rw [insV_get xs i u (by omega) j, List.getElem?_take]
  have hcur : ∀ j, j < n → cur[j]? = xs[j]? := fun j hj => by rw [← ht, List.getElem?_take, if_pos (by omega)]; simp
  by_cases hj : j < (n + 1) * 1
  · rw [if_pos hj]
    have e2 : cur2.toList[j]? = cur2[j]? := by simp
    rw [e2, b3 j]
    simp only [List.length_cons, List.length_nil, Nat.zero_add]
    by_cases hji : j = i
    · subst hji
      rw [if_pos (by omega), if_neg (by omega), if_pos rfl]
      simp
    · rw [if_neg (by omega), a3 j]
      by_cases hlt : j < i
      · rw [if_neg (by omega), if_pos hlt, hcur j (by omega)]
      · rw [if_pos (by simp; omega), if_neg hlt, if_neg hji, List.getElem?_drop]
        congr 1; omega
  · rw [if_neg hj, if_neg (by omega), if_neg (by omega), List.getElem?_eq_none (by omega)]

/-- A row of the call's own, made anew out of a row and one cell. -/
theorem own_grown {w : World} {base G : Nat} {e : TypeId} {xs zs : List Value} {i : Nat} {u : Value} (ROW : Array Value) (hb : base ≤ w.heap.size) (hi : i ≤ xs.length) (hG : xs.length + 1 ≤ G) (hGm : G ≤ maxLen) (hR : ROW.size = G) (hz : ∀ j, j < i → ROW[j]? = xs[j]?) (hzs : zs = xs.drop i) :
    ((((w.alloc (.cells ROW e)).drew.setCells w.heap.size i [u]).drew).setCells w.heap.size (i + 1) zs).ownsRow base e 1 (.slice (some ⟨w.heap.size, 0, none⟩) (xs.length + 1) G) (xs.length + 1) (insV xs i u) := by
  subst hzs
  have hg : ((w.alloc (.cells ROW e)).drew).heap[w.heap.size]? = some (.cells ROW e (0, 0)) := by
    show (w.heap.push _)[w.heap.size]? = _
    simp
  obtain ⟨cur1, a1, a2, a3⟩ := heap_setCells_at w.heap.size e (0, 0) [u] i _ ROW hg (by simp; omega)
  have a1' : (((w.alloc (.cells ROW e)).drew.setCells w.heap.size i [u]).drew).heap[w.heap.size]? = some (.cells cur1 e (0, 0)) := a1
  obtain ⟨cur2, b1, b2, b3⟩ := heap_setCells_at w.heap.size e (0, 0) (xs.drop i) (i + 1) _ cur1 a1' (by simp; omega)
  refine ⟨by rw [insV_length xs i u hi]; omega, .inr ⟨w.heap.size, G, cur2, rfl, hb, b1, hG, hGm, by omega, ?_⟩⟩
  apply List.ext_getElem?
  intro j
  rw [insV_get xs i u hi j, List.getElem?_take]
  by_cases hj : j < (xs.length + 1) * 1
  · rw [if_pos hj]
    have e2 : cur2.toList[j]? = cur2[j]? := by simp
    rw [e2, b3 j, a3 j]
    simp only [List.length_cons, List.length_nil, Nat.zero_add, List.length_drop]
    by_cases hji : j = i
    · subst hji
      rw [if_neg (by omega), if_pos (by omega), if_neg (by omega), if_pos rfl]
      simp
    · by_cases hlt : j < i
      · rw [if_neg (by omega), if_neg (by omega), if_pos hlt, hz j hlt]
      · rw [if_pos (by omega), if_neg hlt, if_neg hji, List.getElem?_drop]
        congr 1; omega
  · rw [if_neg hj, if_neg (by omega), if_neg (by omega), List.getElem?_eq_none (by omega)]

/-- What is taken out at i. -/
def delV (xs : List Value) (i : Nat) : List Value := xs.take i ++ xs.drop (i + 1)
theorem delV_get (xs : List Value) (i : Nat) (hi : i < xs.length) (j : Nat) : (delV xs i)[j]? = if j < i then xs[j]? else xs[j + 1]? := by
  unfold delV
  by_cases h1 : j < i
  · rw [if_pos h1, List.getElem?_append_left (by simp; omega), List.getElem?_take, if_pos h1]
  · rw [if_neg h1, List.getElem?_append_right (by simp; omega)]
    simp only [List.length_take, Nat.min_eq_left (Nat.le_of_lt hi)]
    rw [List.getElem?_drop]
    congr 1; omega
theorem delV_length (xs : List Value) (i : Nat) (hi : i < xs.length) : (delV xs i).length = xs.length - 1 := by
  unfold delV; simp; omega

/-- A row in which the cells behind i were moved by one to the front, and something was written behind them. -/
theorem own_unshift {w : World} {base g n c i : Nat} {e : TypeId} {xs zs : List Value} (h : w.ownsRow base e 1 (.slice (some ⟨g, 0, none⟩) n c) n xs) (hi : i < n) (hz : zs.length = 1) :
    ((w.setCells g i (xs.drop (i + 1))).setCells g (n - 1) zs).ownsRow base e 1 (.slice (some ⟨g, 0, none⟩) (n - 1) c) (n - 1) (delV xs i) := by
  obtain ⟨h1, h2⟩ := h
  have hlen : xs.length = n := by simpa using h1
  rcases h2 with ⟨h2, _⟩ | ⟨g', cap, cur, hv, hB, hg, hnc, hcm, hcs, ht⟩
  · cases h2
  simp only [Value.slice.injEq, Option.some.injEq, Addr.mk.injEq, and_true, true_and] at hv
  obtain ⟨rfl, rfl⟩ := hv
  obtain ⟨cur1, a1, a2, a3⟩ := heap_setCells_at g e (0, 0) (xs.drop (i + 1)) i w cur hg (by simp; omega)
  obtain ⟨cur2, b1, b2, b3⟩ := heap_setCells_at g e (0, 0) zs (n - 1) _ cur1 a1 (by omega)
  refine ⟨by rw [delV_length xs i (by omega)]; omega, .inr ⟨g, c, cur2, rfl, hB, b1, by omega, hcm, by omega, ?_⟩⟩
  apply List.ext_getElem?
  intro j
  rw [delV_get xs i (by omega) j, List.getElem?_take]
  have hcur : ∀ j, j < n → cur[j]? = xs[j]? := fun j hj => by rw [← ht, List.getElem?_take, if_pos (by omega)]; simp
  by_cases hj : j < (n - 1) * 1
  · rw [if_pos hj]
    have e2 : cur2.toList[j]? = cur2[j]? := by simp
    rw [e2, b3 j, if_neg (by omega), a3 j]
    by_cases hlt : j < i
    · rw [if_neg (by omega), if_pos hlt, hcur j (by omega)]
    · rw [if_pos (by simp; omega), if_neg hlt, List.getElem?_drop]
      congr 1; omega
  · rw [if_neg hj, if_neg (by omega), List.getElem?_eq_none (by omega)]

theorem Kept.refl (w : World) (row : Option Nat) : Kept w w row := ⟨Nat.le_refl _, fun _ _ _ => rfl⟩
theorem Kept.setCells {w w' : World} {g : Nat} (h : Kept w w' (some g)) (o : Nat) (vs : List Value) : Kept w (w'.setCells g o vs) (some g) :=
  ⟨by rw [setCells_size]; exact h.1, fun k hk hne => by rw [setCells_other _ _ _ _ (fun e => hne (by rw [e]))]; exact h.2 k hk hne⟩
theorem Kept.drew {w w' : World} {row : Option Nat} (h : Kept w w' row) : Kept w w'.drew row := h
theorem Kept.below {w w' : World} {row : Option Nat} {B : Nat} (h : Kept w w' row) (hB : B ≤ w.heap.size) (ho : w'.os = w.os) (ht : w'.tape = w.tape) (hp : w'.output = w.output) (hr : ∀ g, row = some g → B ≤ g) : Below B w w' :=
  ⟨ho, ht, hp, h.1, fun k hk => h.2 k (by omega) (fun e => by have := hr k e.symm; omega)⟩

theorem shape_of_own {w : World} {base g n c : Nat} {e : TypeId} {xs : List Value} (h : w.ownsRow base e 1 (.slice (some ⟨g, 0, none⟩) n c) n xs) : w.shape? g = some (e, c) := by
  rcases h.2 with ⟨h2, _⟩ | ⟨g', cap, cur, hv, _, hg, _, _, hcs, _⟩
  · cases h2
  · simp only [Value.slice.injEq, Option.some.injEq, Addr.mk.injEq, and_true, true_and] at hv
    obtain ⟨rfl, rfl⟩ := hv
    unfold World.shape?
    rw [hg]
    simp [hcs]

/-- 'append(row, s...)', and which old block may have turned. -/
theorem append_rd2 {P : Program} {t e : TypeId} {z : Value} {bytes : Nat} (T : RowTy P t e z bytes) (ty : TypeId) {w : World} {base : Nat} {v : Value} {n : Nat} {xs news : List Value}
    (hown : w.ownsRow base e 1 v n xs) {A : Option Addr} {m : Nat} (hr : Rd w A m news)
    (h1 : ∀ u ∈ news, u.oneCell' = true) (hm : n + m ≤ 1000000000) (hby : bytes ≤ 64) (hbase : base ≤ w.heap.size) (c : Nat) :
    ∃ v' w', (Builtin.append_ #[t, t] ty #[v, .slice A m c]).run P w = .ok v' w' ∧ w'.ownsRow base e 1 v' (n + m) (xs ++ news) ∧ Below base w w' ∧ Kept w w' v.ownBlock := by
  obtain ⟨i, hi, hz0, hz1, hz2⟩ := info_parts T.hi
  rcases A with _ | ad
  · have h0 : m = 0 := by
      rcases Nat.eq_zero_or_pos m with h0 | h0
      · exact h0
      · obtain ⟨_, _, e, _⟩ := hr.2 h0; cases e
    subst h0
    have hn : news = [] := List.eq_nil_of_length_eq_zero hr.1
    subst hn
    refine ⟨v, w, ?_, by simpa using hown, Below.refl _ _, Kept.refl _ _⟩
    rcases hown.2 with ⟨rfl, rfl⟩ | ⟨g, cap, cur, rfl, _, _, hnc, _⟩
    · simp [Builtin.append_, run_underlying T.ht, sizeOf, typeInfo, hi, Builtin.lenOf, Builtin.firstCells]
    · simp [Builtin.append_, run_underlying T.ht, sizeOf, typeInfo, hi, Builtin.lenOf, Builtin.firstCells, hnc, storeCells]
  · have hcells : ∀ j u, news[j]? = some u → w.cell? (ad.add j) = some u := by
      intro j u hu
      have hj : j < m := by
        have := (List.getElem?_eq_some_iff.1 hu).1
        have := hr.1
        omega
      obtain ⟨b, off, e, _, hc⟩ := hr.2 (by omega)
      injection e with e
      subst e
      rw [Addr.add_lit, hc j hj, hu]
    have hmul : (n + m) * bytes ≤ 1000000000 * 64 := Nat.mul_le_mul hm hby
    obtain ⟨v', w', hrun, h2, h3, _⟩ := run_append_own (P := P) w base t ty e i z 1 bytes T.ht hi hz0 hz1 hz2 T.hz (by decide) v n xs hown ad m c news (by simp [hr.1]) hcells h1
      (by unfold maxLen; omega) (by omega) hbase
    exact ⟨v', w', hrun, h2, (Below.refl _ _).grown h3 hbase (fun k hk => (hown.lt k hk).1), h3.size, fun k hk hne => h3.block k hk (fun h => hne h)⟩

end Go.Proofs.Ytaamkdejediccaa
