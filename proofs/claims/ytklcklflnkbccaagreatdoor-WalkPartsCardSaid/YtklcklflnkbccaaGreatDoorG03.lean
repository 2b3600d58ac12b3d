import Derived.Laws.CopyOwn
import Derived.Test.YtklcklflnkbccaaGreatDoorG01
/- Words for memory, more: a block that is known whole. -/
namespace Go.Proofs.YtklcklflnkbccaaGreatDoor
open Go.RowKit

/-- Block g is just these cells, none frozen. -/
def Blk (w : World) (g : Nat) (e : TypeId) (xs : List Value) : Prop := w.heap[g]? = some (.cells xs.toArray e (0, 0))

theorem Blk.lt {w : World} {g : Nat} {e : TypeId} {xs : List Value} (h : Blk w g e xs) : g < w.heap.size := (Array.getElem?_eq_some_iff.1 h).1
theorem Blk.cell {w : World} {g : Nat} {e : TypeId} {xs : List Value} (h : Blk w g e xs) (i : Nat) : w.cell? ⟨g, i, none⟩ = xs[i]? := by
  rw [cell_of_row w g i _ e (0, 0) h]; simp
theorem Blk.has {w : World} {g : Nat} {e : TypeId} {xs : List Value} (h : Blk w g e xs) {i : Nat} (hi : i < xs.length) : w.cell? ⟨g, i, none⟩ = some xs[i] := by
  rw [h.cell, List.getElem?_eq_getElem hi]
theorem Blk.frozen {w : World} {g : Nat} {e : TypeId} {xs : List Value} (h : Blk w g e xs) (i : Nat) : w.frozen? ⟨g, i, none⟩ = false := by
  unfold Blk at h; simp [World.frozen?, h]
theorem Blk.set_ {w : World} {g : Nat} {e : TypeId} {xs : List Value} (h : Blk w g e xs) (i : Nat) (u : Value) : Blk (w.setCell ⟨g, i, none⟩ u) g e (xs.set i u) := by
  unfold Blk at h ⊢; simp [World.setCell, Array.getElem?_modify, h]
theorem Blk.drew {w : World} {g : Nat} {e : TypeId} {xs : List Value} (h : Blk w g e xs) : Blk w.drew g e xs := h
theorem Blk.below {w w' : World} {g B : Nat} {e : TypeId} {xs : List Value} (h : Blk w g e xs) (hb : Below B w w') (hg : g < B) : Blk w' g e xs := (hb.block g hg).trans h
theorem Blk.rd {w : World} {g : Nat} {e : TypeId} {xs : List Value} (h : Blk w g e xs) : Rd w (some ⟨g, 0, none⟩) xs.length xs :=
  ⟨rfl, fun _ => ⟨g, 0, rfl, h.lt, fun j _ => by rw [Nat.zero_add, h.cell]⟩⟩
theorem Blk.own {w : World} {g B : Nat} {e : TypeId} {xs : List Value} (h : Blk w g e xs) (hB : B ≤ g) (hm : xs.length ≤ maxLen) : w.ownsRow B e 1 (.slice (some ⟨g, 0, none⟩) xs.length xs.length) xs.length xs :=
  ⟨by simp, .inr ⟨g, xs.length, xs.toArray, rfl, hB, h, Nat.le_refl _, hm, by simp, by simp⟩⟩
theorem blk_of_own {w : World} {B g n : Nat} {e : TypeId} {xs : List Value} (h : w.ownsRow B e 1 (.slice (some ⟨g, 0, none⟩) n n) n xs) : Blk w g e xs := by
  rcases h.2 with ⟨h', _⟩ | ⟨g', cap, cur, hv, _, hg, _, _, hcs, htake⟩
  · cases h'
  · simp only [Value.slice.injEq, Option.some.injEq, Addr.mk.injEq, and_true, true_and] at hv
    obtain ⟨rfl, rfl⟩ := hv
    unfold Blk
    rw [hg]
    congr 2
    rw [← htake, List.take_of_length_le (by simp [hcs])]

/-- Four cells of an old block stay. -/
theorem box_keep {W W' : World} {g : Nat} {a b c d : Value} (e0 : W.cell? ⟨g, 0, none⟩ = some a) (e1 : W.cell? ⟨g, 1, none⟩ = some b) (e2 : W.cell? ⟨g, 2, none⟩ = some c) (e3 : W.cell? ⟨g, 3, none⟩ = some d)
    (hg : g < W.heap.size) (hb : Below W.heap.size W W') :
    W'.cell? ⟨g, 0, none⟩ = some a ∧ W'.cell? ⟨g, 1, none⟩ = some b ∧ W'.cell? ⟨g, 2, none⟩ = some c ∧ W'.cell? ⟨g, 3, none⟩ = some d ∧ g < W'.heap.size :=
  ⟨(hb.cell (p := ⟨g, 0, none⟩) hg).trans e0, (hb.cell (p := ⟨g, 1, none⟩) hg).trans e1, (hb.cell (p := ⟨g, 2, none⟩) hg).trans e2, (hb.cell (p := ⟨g, 3, none⟩) hg).trans e3, Nat.lt_of_lt_of_le hg hb.size⟩

theorem box_keepB {W W' : World} {g B : Nat} {a b c d : Value} (e0 : W.cell? ⟨g, 0, none⟩ = some a) (e1 : W.cell? ⟨g, 1, none⟩ = some b) (e2 : W.cell? ⟨g, 2, none⟩ = some c) (e3 : W.cell? ⟨g, 3, none⟩ = some d)
    (hB : g < B) (hb : Below B W W') :
    W'.cell? ⟨g, 0, none⟩ = some a ∧ W'.cell? ⟨g, 1, none⟩ = some b ∧ W'.cell? ⟨g, 2, none⟩ = some c ∧ W'.cell? ⟨g, 3, none⟩ = some d ∧ True :=
  ⟨(hb.cell (p := ⟨g, 0, none⟩) hB).trans e0, (hb.cell (p := ⟨g, 1, none⟩) hB).trans e1, (hb.cell (p := ⟨g, 2, none⟩) hB).trans e2, (hb.cell (p := ⟨g, 3, none⟩) hB).trans e3, trivial⟩

theorem box_set {W : World} {g g' : Nat} {a b c d : Value} (e0 : W.cell? ⟨g, 0, none⟩ = some a) (e1 : W.cell? ⟨g, 1, none⟩ = some b) (e2 : W.cell? ⟨g, 2, none⟩ = some c) (e3 : W.cell? ⟨g, 3, none⟩ = some d)
    (hg : g < W.heap.size) (hne : g ≠ g') (i : Nat) (u : Value) :
    (W.setCell ⟨g', i, none⟩ u).cell? ⟨g, 0, none⟩ = some a ∧ (W.setCell ⟨g', i, none⟩ u).cell? ⟨g, 1, none⟩ = some b ∧ (W.setCell ⟨g', i, none⟩ u).cell? ⟨g, 2, none⟩ = some c ∧ (W.setCell ⟨g', i, none⟩ u).cell? ⟨g, 3, none⟩ = some d ∧ g < (W.setCell ⟨g', i, none⟩ u).heap.size := by
  have key : ∀ j, (W.setCell ⟨g', i, none⟩ u).cell? ⟨g, j, none⟩ = W.cell? ⟨g, j, none⟩ := fun j =>
    World.cell?_of_block (w := W) (a := ⟨g, j, none⟩) (Below.heap_setCell W ⟨g', i, none⟩ u g hne)
  exact ⟨(key 0).trans e0, (key 1).trans e1, (key 2).trans e2, (key 3).trans e3, by simpa [World.setCell] using hg⟩

/-- What the law of copy asks of its source. -/
theorem src_of_ws {w : World} {A : Option Addr} {n : Nat} {l : List UInt64} (h : Ws w A n l) {dp : Option Addr} {g off : Nat} (hd : dp = some ⟨g, off, none⟩ := by rfl) :
    0 < (l.map wv).length → dp = some ⟨g, off, none⟩ ∧ ∃ ad, A = some ad ∧ ∀ j v, (l.map wv)[j]? = some v → w.cell? (ad.add j) = some v := by
  intro h0
  obtain ⟨b, o, rfl, _, hc⟩ := h.2 (by have := h.1; omega)
  refine ⟨hd, _, rfl, fun j v hv => ?_⟩
  rw [Addr.add_lit, hc j (by have := (List.getElem?_eq_some_iff.1 hv).1; have := h.1; omega), hv]
theorem src_of_bs {w : World} {A : Option Addr} {n : Nat} {l : List UInt8} (h : Bs w A n l) {dp : Option Addr} {g off : Nat} (hd : dp = some ⟨g, off, none⟩ := by rfl) :
    0 < (l.map bv).length → dp = some ⟨g, off, none⟩ ∧ ∃ ad, A = some ad ∧ ∀ j v, (l.map bv)[j]? = some v → w.cell? (ad.add j) = some v := by
  intro h0
  obtain ⟨b, o, rfl, _, hc⟩ := h.2 (by have := h.1; omega)
  refine ⟨hd, _, rfl, fun j v hv => ?_⟩
  rw [Addr.add_lit, hc j (by have := (List.getElem?_eq_some_iff.1 hv).1; have := h.1; omega), hv]

/-- No old block but the one named has turned. -/
def Kept (w w' : World) (row : Option Nat) : Prop := w.heap.size ≤ w'.heap.size ∧ ∀ k, k < w.heap.size → some k ≠ row → w'.heap[k]? = w.heap[k]?

theorem own_kept {w w' : World} {base : Nat} {e : TypeId} {v : Value} {n : Nat} {xs : List Value} {row : Option Nat} (h : w.ownsRow base e 1 v n xs) (hk : Kept w w' row) (hne : ∀ g, v.ownBlock = some g → row ≠ some g) : w'.ownsRow base e 1 v n xs := by
  refine ⟨h.1, ?_⟩
  rcases h.2 with h | ⟨g, cap, cur, h1, h2, h3, h4⟩
  · exact .inl h
  · exact .inr ⟨g, cap, cur, h1, h2, by
      rw [hk.2 g (Array.getElem?_eq_some_iff.1 h3).1 (fun e => hne g (by rw [h1]; rfl) e.symm)]; exact h3, h4⟩

/-- Rows of different types lie in different blocks. -/
theorem own_apart {w : World} {b1 b2 : Nat} {e1 e2 : TypeId} {v1 v2 : Value} {n1 n2 : Nat} {xs1 xs2 : List Value} (h1 : w.ownsRow b1 e1 1 v1 n1 xs1) (h2 : w.ownsRow b2 e2 1 v2 n2 xs2) (hne : e1 ≠ e2) :
    ∀ g, v1.ownBlock = some g → v2.ownBlock ≠ some g := by
  intro g hg hg2
  rcases h1.2 with ⟨rfl, _⟩ | ⟨g1, cap1, cur1, rfl, _, hh1, _⟩
  · simp [Value.ownBlock] at hg
  · rcases h2.2 with ⟨rfl, _⟩ | ⟨g2, cap2, cur2, rfl, _, hh2, _⟩
    · simp [Value.ownBlock] at hg2
    · simp [Value.ownBlock] at hg hg2
      subst hg hg2
      rw [hh1] at hh2
      injection hh2 with hh2
      injection hh2 with _ ht
      exact hne ht

theorem append_new2 {P : Program} {t e : TypeId} {z : Value} {bytes : Nat} (T : RowTy P t e z bytes) (ty : TypeId) {w wr : World} {base : Nat} {v : Value} {n : Nat} {xs news : List Value}
    (hown : wr.ownsRow base e 1 v n xs) (hw : w.heap = wr.heap.push (.cells news.toArray e)) (hos : w.os = wr.os) (htape : w.tape = wr.tape) (hout : w.output = wr.output)
    (h1 : ∀ u ∈ news, u.oneCell' = true) (hm : n + news.length ≤ 1000000000) (hby : bytes ≤ 64) (hbase : base ≤ wr.heap.size) (m c : Nat) (hmn : m = news.length) :
    ∃ v' w', (Builtin.append_ #[t, t] ty #[v, .slice (some ⟨wr.heap.size, 0, none⟩) m c]).run P w = .ok v' w' ∧ w'.ownsRow base e 1 v' (n + m) (xs ++ news) ∧ Below base wr w' ∧ Kept wr w' v.ownBlock := by
  subst hmn
  obtain ⟨i, hi, hz0, hz1, hz2⟩ := info_parts T.hi
  have hb1 : Below wr.heap.size wr w := ⟨hos, htape, hout, by rw [hw]; simp, fun k hk => by rw [hw, Array.getElem?_push, if_neg (by omega)]⟩
  have hown' : w.ownsRow base e 1 v n xs := by
    refine ⟨hown.1, ?_⟩
    rcases hown.2 with h | ⟨g, cap, cur, h1, h2, h3, h4⟩
    · exact .inl h
    · exact .inr ⟨g, cap, cur, h1, h2, by rw [hb1.block g (Array.getElem?_eq_some_iff.1 h3).1]; exact h3, h4⟩
  have hcells : ∀ j u, news[j]? = some u → w.cell? ((⟨wr.heap.size, 0, none⟩ : Addr).add j) = some u := by
    intro j u hu
    rw [show (⟨wr.heap.size, 0, none⟩ : Addr).add j = ⟨wr.heap.size, 0 + j, none⟩ from Addr.add_lit _ _ _]
    rw [cell_of_row w wr.heap.size (0 + j) news.toArray e (0, 0) (by rw [hw, Array.getElem?_push, if_pos rfl])]
    simpa using hu
  have hmul : (n + news.length) * bytes ≤ 1000000000 * 64 := Nat.mul_le_mul hm hby
  obtain ⟨v', w', hrun, h2, h3, _⟩ := run_append_own (P := P) w base t ty e i z 1 bytes T.ht hi hz0 hz1 hz2 T.hz (by decide) v n xs hown' _ news.length c news (by simp) hcells h1
    (by unfold maxLen; omega) (by omega) (by rw [hw]; simp; omega)
  refine ⟨v', w', hrun, h2, (hb1.mono hbase).trans ?_, ?_, ?_⟩
  · exact (Below.refl _ _).grown h3 (by rw [hw]; simp; omega) (fun k hk => (hown'.lt k hk).1)
  · have := h3.size; rw [hw] at this; simp at this; omega
  · intro k hk hkr
    rw [h3.block k (by rw [hw]; simp; omega) hkr, hb1.block k hk]

theorem wpList_app_new2 {P : Program} {ops : Array Oper} {rest : List Oper} {o : Oper} {a : Act} {w : World} {Q : Exit → Act → World → Prop} (hgd : o.guard = none) (s x : Operand) (t : TypeId)
    (ho : o.op = .call { callee := .builtin .append, args := #[s, x], argTypes := #[t, t] }) {e : TypeId} {z : Value} {bytes : Nat} (T : RowTy P t e z bytes)
    (wr : World) (base : Nat) (v : Value) (n : Nat) (xs news : List Value) (hs : a.eval s = v) (hown : wr.ownsRow base e 1 v n xs) (hw : w.heap = wr.heap.push (.cells news.toArray e))
    (hos : w.os = wr.os) (htape : w.tape = wr.tape) (hout : w.output = wr.output)
    (m c : Nat) (hx : a.eval x = .slice (some ⟨wr.heap.size, 0, none⟩) m c) (hmn : m = news.length)
    (h1 : ∀ u ∈ news, u.oneCell' = true) (hm : n + news.length ≤ 1000000000) (hby : bytes ≤ 64) (hbase : base ≤ wr.heap.size)
    (h : ∀ v' w', w'.ownsRow base e 1 v' (n + m) (xs ++ news) → Below base wr w' → Kept wr w' v.ownBlock → wpList P ops Q rest (a.put o.dst v') w') : wpList P ops Q (o :: rest) a w := by
  refine wpList_plain hgd fun K hK => ?_
  obtain ⟨v', w', hrun, h2, h3, h4⟩ := append_new2 T o.type hown hw hos htape hout h1 hm hby hbase m c hmn
  unfold Oper.wp execOp
  simp only [ho, resolve, invoke, builtin, Sem.run_bind, Sem.run_pure, Result.andThen_ok, List.map_toArray, List.map_cons, List.map_nil, hs, hx, hrun]
  exact hK _ _ (h v' w' h2 h3 h4)

theorem own_below {w w' : World} {base : Nat} {e : TypeId} {v : Value} {n : Nat} {xs : List Value} (h : w.ownsRow base e 1 v n xs) (hb : Below w.heap.size w w') : w'.ownsRow base e 1 v n xs :=
  own_kept h (row := none) ⟨hb.size, fun k hk _ => hb.block k hk⟩ (by simp)
theorem own_mono {w : World} {base base' : Nat} {e : TypeId} {v : Value} {n : Nat} {xs : List Value} (h : w.ownsRow base e 1 v n xs) (hb : base' ≤ base) : w.ownsRow base' e 1 v n xs := by
  refine ⟨h.1, ?_⟩
  rcases h.2 with h | ⟨g, cap, cur, h1, h2, h3⟩
  · exact .inl h
  · exact .inr ⟨g, cap, cur, h1, by omega, h3⟩
theorem rd_own {w : World} {base : Nat} {e : TypeId} {A : Option Addr} {c : Nat} {n : Nat} {xs : List Value} (h : w.ownsRow base e 1 (.slice A n c) n xs) : n ≤ c ∧ Rd w A n xs := by
  obtain ⟨A', c', e, hc, hr⟩ := rd_of_own h
  injection e with e1 e2 e3
  subst e1 e3
  exact ⟨hc, hr⟩
theorem own_far {w : World} {base : Nat} {e : TypeId} {v : Value} {n : Nat} {xs : List Value} (h : w.ownsRow base e 1 v n xs) {g : Nat} (hg : g < base) (i : Nat) (u : Value) : (w.setCell ⟨g, i, none⟩ u).ownsRow base e 1 v n xs :=
  ownsRow_setCell_below h (a := ⟨g, i, none⟩) hg u

theorem Ws.cellAt {w : World} {b off n : Nat} {l : List UInt64} (h : Ws w (some ⟨b, off, none⟩) n l) {k : Nat} (hk : k < n) (hl : k < l.length) : w.cell? ⟨b, off + k, none⟩ = some (.int .u64 (l[k].toNat : Int)) := by
  obtain ⟨b', off', e, _, hc⟩ := h.2 (by omega)
  injection e with e
  injection e with e1 e2 e3
  subst e1 e2
  rw [hc k hk]
  simp [hl, wv]

theorem World.heap_drewEq (w : World) : w.drew.heap = w.heap := rfl

end Go.Proofs.YtklcklflnkbccaaGreatDoor
