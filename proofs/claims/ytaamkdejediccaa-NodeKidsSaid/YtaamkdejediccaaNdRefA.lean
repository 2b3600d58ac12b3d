/- Plain words for the reference's With and Without, and steps of the walk. -/
import Derived.Test.YtaamkdejediccaaNdRef
import Derived.Test.YtaamkdejediccaaSlcK
import Derived.Deep.DeepCutAuto
import Derived.Deep.LoopGhost
namespace Go.Proofs.Ytaamkdejediccaa
open Go.RowKit

/-- What has been laid of a list, with u put in at p, behind k rounds. -/
def outW {α : Type} (l : List α) (p : Nat) (u : α) (k : Nat) : List α := if k ≤ p then l.take k else ins (l.take k) p u
theorem outW_zero {α : Type} (l : List α) (p : Nat) (u : α) : outW l p u 0 = [] := by simp [outW]
theorem outW_lo {α : Type} (l : List α) (p : Nat) (u : α) (k : Nat) (hk : k < l.length) (h : k < p) : outW l p u k ++ [l[k]] = outW l p u (k + 1) := by
  unfold outW
  rw [if_pos (by omega), if_pos (by omega), List.take_succ_eq_append_getElem hk]
theorem outW_at {α : Type} (l : List α) (p : Nat) (u : α) (hk : p < l.length) : (outW l p u p ++ [u]) ++ [l[p]] = outW l p u (p + 1) := by
  unfold outW
  rw [if_pos (Nat.le_refl _), if_neg (by omega)]
  unfold ins
  rw [List.take_take, Nat.min_eq_left (by omega), List.take_succ_eq_append_getElem hk, List.drop_append, List.drop_of_length_le (by simp; omega)]
  have : (List.take p l).length = p := by simp; omega
  rw [this]
  simp
theorem outW_hi {α : Type} (l : List α) (p : Nat) (u : α) (k : Nat) (hk : k < l.length) (h : p < k) : outW l p u k ++ [l[k]] = outW l p u (k + 1) := by
  unfold outW
  rw [if_neg (by omega), if_neg (by omega)]
  unfold ins
  rw [List.take_take, List.take_take, Nat.min_eq_left (by omega), Nat.min_eq_left (by omega), List.take_succ_eq_append_getElem hk, List.drop_append]
  have : p - (List.take k l).length = 0 := by simp; omega
  rw [this]
  simp
theorem outW_end {α : Type} (l : List α) (p : Nat) (u : α) (h : p < l.length) : outW l p u l.length = ins l p u := by
  unfold outW
  rw [if_neg (by omega), List.take_length]
theorem outW_last {α : Type} (l : List α) (u : α) : outW l l.length u l.length ++ [u] = ins l l.length u := by
  unfold outW ins
  rw [if_pos (Nat.le_refl _)]
  simp

def outD {α : Type} (l : List α) (p : Nat) (k : Nat) : List α := if k ≤ p then l.take k else del (l.take k) p
theorem outD_zero {α : Type} (l : List α) (p : Nat) : outD l p 0 = [] := by simp [outD]
theorem outD_lo {α : Type} (l : List α) (p : Nat) (k : Nat) (hk : k < l.length) (h : k < p) : outD l p k ++ [l[k]] = outD l p (k + 1) := by
  unfold outD
  rw [if_pos (by omega), if_pos (by omega), List.take_succ_eq_append_getElem hk]
theorem outD_at {α : Type} (l : List α) (p : Nat) (hk : p < l.length) : outD l p p = outD l p (p + 1) := by
  unfold outD
  rw [if_pos (Nat.le_refl _), if_neg (by omega)]
  unfold del
  rw [List.take_take, Nat.min_eq_left (by omega), List.drop_of_length_le (by simp; omega)]
  simp
theorem outD_hi {α : Type} (l : List α) (p : Nat) (k : Nat) (hk : k < l.length) (h : p < k) : outD l p k ++ [l[k]] = outD l p (k + 1) := by
  unfold outD
  rw [if_neg (by omega), if_neg (by omega)]
  unfold del
  rw [List.take_take, List.take_take, Nat.min_eq_left (by omega), Nat.min_eq_left (by omega), List.take_succ_eq_append_getElem hk, List.drop_append]
  have : p + 1 - (List.take k l).length = 0 := by simp; omega
  rw [this]
  simp
theorem outD_end {α : Type} (l : List α) (p : Nat) (h : p < l.length) : outD l p l.length = del l p := by
  unfold outD
  rw [if_neg (by omega), List.take_length]

theorem step_app_new2 {P : Program} {ops : Array Oper} {o : Oper} {a : Act} {w : World} {K : Act → World → Prop} {Q : Exit → Act → World → Prop} {E : Prop} (hgd : o.guard = none) (s x : Operand) (t : TypeId)
    (ho : o.op = .call { callee := .builtin .append, args := #[s, x], argTypes := #[t, t] }) {e : TypeId} {z : Value} {bytes : Nat} (T : RowTy P t e z bytes)
    (wr : World) (base : Nat) (v : Value) (n : Nat) (xs news : List Value) (hs : a.eval s = v) (hown : wr.ownsRow base e 1 v n xs) (hw : w.heap = wr.heap.push (.cells news.toArray e))
    (hos : w.os = wr.os) (htape : w.tape = wr.tape) (hout : w.output = wr.output)
    (m c : Nat) (hx : a.eval x = .slice (some ⟨wr.heap.size, 0, none⟩) m c) (hmn : m = news.length)
    (h1 : ∀ u ∈ news, u.oneCell' = true) (hm : n + news.length ≤ 1000000000) (hby : bytes ≤ 64) (hbase : base ≤ wr.heap.size)
    (h : ∀ v' w', w'.ownsRow base e 1 v' (n + m) (xs ++ news) → Below base wr w' → Kept wr w' v.ownBlock → K (a.put o.dst v') w') :
    if Region.wanted o (yielded ops a.tmps) = true then Oper.wp P o a w K Q else E := by
  have hwt : Region.wanted o (yielded ops a.tmps) = true := by simp [Region.wanted, hgd]
  rw [if_pos hwt]
  obtain ⟨v', w', hrun, h2, h3, h4⟩ := append_new2 T o.type hown hw hos htape hout h1 hm hby hbase m c hmn
  unfold Oper.wp execOp
  simp only [ho, resolve, invoke, builtin, Sem.run_bind, Sem.run_pure, Result.andThen_ok, List.map_toArray, List.map_cons, List.map_nil, hs, hx, hrun]
  exact h v' w' h2 h3 h4

theorem wpList_app_new3 {P : Program} {ops : Array Oper} {rest : List Oper} {o : Oper} {a : Act} {w : World} {Q : Exit → Act → World → Prop} (hgd : o.guard = none) (s x : Operand) (t : TypeId)
    (ho : o.op = .call { callee := .builtin .append, args := #[s, x], argTypes := #[t, t] }) {e : TypeId} {z : Value} {bytes : Nat} (T : RowTy P t e z bytes)
    (wr : World) (gx : Nat) (hgx : wr.heap.size = gx) (base : Nat) (v : Value) (n : Nat) (xs news : List Value) (hs : a.eval s = v) (hown : wr.ownsRow base e 1 v n xs) (hw : w.heap = wr.heap.push (.cells news.toArray e))
    (hos : w.os = wr.os) (htape : w.tape = wr.tape) (hout : w.output = wr.output)
    (m c : Nat) (hx : a.eval x = .slice (some ⟨gx, 0, none⟩) m c) (hmn : m = news.length)
    (h1 : ∀ u ∈ news, u.oneCell' = true) (hm : n + news.length ≤ 1000000000) (hby : bytes ≤ 64) (hbase : base ≤ wr.heap.size)
    (h : ∀ v' w', w'.ownsRow base e 1 v' (n + m) (xs ++ news) → Below base wr w' → Kept wr w' v.ownBlock → wpList P ops Q rest (a.put o.dst v') w') : wpList P ops Q (o :: rest) a w := by
  subst hgx
  exact wpList_app_new2 hgd s x t ho T wr base v n xs news hs hown hw hos htape hout m c hx hmn h1 hm hby hbase h

theorem step_app_new3 {P : Program} {ops : Array Oper} {o : Oper} {a : Act} {w : World} {K : Act → World → Prop} {Q : Exit → Act → World → Prop} {E : Prop} (hgd : o.guard = none) (s x : Operand) (t : TypeId)
    (ho : o.op = .call { callee := .builtin .append, args := #[s, x], argTypes := #[t, t] }) {e : TypeId} {z : Value} {bytes : Nat} (T : RowTy P t e z bytes)
    (wr : World) (gx : Nat) (hgx : wr.heap.size = gx) (base : Nat) (v : Value) (n : Nat) (xs news : List Value) (hs : a.eval s = v) (hown : wr.ownsRow base e 1 v n xs) (hw : w.heap = wr.heap.push (.cells news.toArray e))
    (hos : w.os = wr.os) (htape : w.tape = wr.tape) (hout : w.output = wr.output)
    (m c : Nat) (hx : a.eval x = .slice (some ⟨gx, 0, none⟩) m c) (hmn : m = news.length)
    (h1 : ∀ u ∈ news, u.oneCell' = true) (hm : n + news.length ≤ 1000000000) (hby : bytes ≤ 64) (hbase : base ≤ wr.heap.size)
    (h : ∀ v' w', w'.ownsRow base e 1 v' (n + m) (xs ++ news) → Below base wr w' → Kept wr w' v.ownBlock → K (a.put o.dst v') w') :
    if Region.wanted o (yielded ops a.tmps) = true then Oper.wp P o a w K Q else E := by
  subst hgx
  exact step_app_new2 hgd s x t ho T wr base v n xs news hs hown hw hos htape hout m c hx hmn h1 hm hby hbase h

/-- Where the reference's new node stands ahead of the last two appends of a round. -/
def PackR (w2 wa : World) (g2 : Nat) (A1 : Option Addr) (n1 c1 : Nat) (val : UInt64) (a : UInt8) (b : UInt64) (L' : List UInt8) (K' : List UInt64) (k : Nat) : Prop :=
  ∃ A5 c5 A6 c6 m La Ka, m ≤ k + 1 ∧ wa.ownsRow (g2 + 1) 5 1 (.slice A5 m c5) m (List.map bv La) ∧ wa.ownsRow (g2 + 1) 30 1 (.slice A6 m c6) m (List.map wv Ka) ∧
    Blk wa g2 40 [.slice A1 n1 c1, .int .u64 (val.toNat : Int), .slice A5 m c5, .slice A6 m c6] ∧ g2 < wa.heap.size ∧ Below g2 w2 wa ∧ La ++ [a] = L' ∧ Ka ++ [b] = K'

/-- Where the reference's new node stands at its end. -/
def EndR (w2 wa : World) (g2 : Nat) (A1 : Option Addr) (n1 c1 : Nat) (val : UInt64) (L : List UInt8) (K : List UInt64) (A5 : Option Addr) (c5 : Nat) (A6 : Option Addr) (c6 m : Nat) : Prop :=
  wa.ownsRow (g2 + 1) 5 1 (.slice A5 m c5) m (List.map bv L) ∧ wa.ownsRow (g2 + 1) 30 1 (.slice A6 m c6) m (List.map wv K) ∧
    Blk wa g2 40 [.slice A1 n1 c1, .int .u64 (val.toNat : Int), .slice A5 m c5, .slice A6 m c6] ∧ g2 < wa.heap.size ∧ Below g2 w2 wa

/-- A block ahead of the rows, and the other row, behind an append to a row. -/
theorem app_frame {wr w' : World} {B g : Nat} {t e1 e2 : TypeId} {ws : List Value} {v1 v2 v1' : Value} {n1 n2 n1' : Nat} {xs1 xs2 xs1' : List Value} (hb : Below B wr w') (hk : Kept wr w' v1.ownBlock) (hg : Blk wr g t ws) (hgB : g < B)
    (o1 : wr.ownsRow B e1 1 v1 n1 xs1) (o2 : wr.ownsRow B e2 1 v2 n2 xs2) (hne : e1 ≠ e2) (_o1' : w'.ownsRow B e1 1 v1' n1' xs1') : Blk w' g t ws ∧ w'.ownsRow B e2 1 v2 n2 xs2 :=
  ⟨hg.below hb hgB, own_kept o2 hk (fun g hg e => own_apart o1 o2 hne g e hg)⟩

end Go.Proofs.Ytaamkdejediccaa
