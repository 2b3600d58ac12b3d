/- Walks of package node: clone. -/
import Derived.Test.YtaamkdejediccaaNodeK
import Derived.Test.YtaamkdejediccaaSlcK
import Derived.Test.YtaamkdejediccaaSlcD
import Derived.Test.YtaamkdejediccaaSlcB
namespace Go.Proofs.Ytaamkdejediccaa
open Go.RowKit

def ins {α : Type} (xs : List α) (i : Nat) (u : α) : List α := xs.take i ++ u :: xs.drop i
def del {α : Type} (xs : List α) (i : Nat) : List α := xs.take i ++ xs.drop (i + 1)
theorem insV_map {α : Type} (f : α → Value) (xs : List α) (i : Nat) (u : α) : insV (xs.map f) i (f u) = (ins xs i u).map f := by
  simp [insV, ins, List.map_take, List.map_drop]
theorem delV_map {α : Type} (f : α → Value) (xs : List α) (i : Nat) : delV (xs.map f) i = (del xs i).map f := by
  simp [delV, del, List.map_take, List.map_drop]
theorem ins_length {α : Type} (xs : List α) (i : Nat) (u : α) (h : i ≤ xs.length) : (ins xs i u).length = xs.length + 1 := by simp [ins]; omega
theorem del_length {α : Type} (xs : List α) (i : Nat) (h : i < xs.length) : (del xs i).length = xs.length - 1 := by simp [del]; omega

theorem own_block_lt {w : World} {base : Nat} {e : TypeId} {A : Option Addr} {c n : Nat} {xs : List Value} (h : w.ownsRow base e 1 (.slice A n c) n xs) : ∀ a, A = some a → base ≤ a.block ∧ a.block < w.heap.size := by
  intro a ha
  subst ha
  rcases h.2 with ⟨h2, _⟩ | ⟨g', cap, cur, hv, hB, hg, _⟩
  · cases h2
  · simp only [Value.slice.injEq, Option.some.injEq] at hv
    obtain ⟨rfl, _⟩ := hv
    exact ⟨hB, (Array.getElem?_eq_some_iff.1 hg).1⟩

/-- A row whose block lies below B is there as long as nothing below B turns. -/
theorem bs_under {w : World} {base B : Nat} {A : Option Addr} {c n : Nat} {l : List UInt8} (h : w.ownsRow base 5 1 (.slice A n c) n (l.map bv)) (hB : ∀ a, A = some a → a.block < B) : ∀ w', Below B w w' → Bs w' A n l := by
  intro w' hw'
  have hr := (rd_own h).2
  refine ⟨hr.1, fun hn => ?_⟩
  obtain ⟨b, off, e, hb, hc⟩ := hr.2 hn
  have hbB := hB _ e
  exact ⟨b, off, e, Nat.lt_of_lt_of_le hb hw'.size, fun j hj => (World.cell?_of_block (w := w) (hw'.block b hbB)).trans (hc j hj)⟩

theorem own_under {w w' : World} {base B : Nat} {e : TypeId} {A : Option Addr} {c n : Nat} {xs : List Value} (h : w.ownsRow base e 1 (.slice A n c) n xs) (hB : ∀ a, A = some a → a.block < B) (hb : Below B w w') : w'.ownsRow base e 1 (.slice A n c) n xs := by
  refine ⟨h.1, ?_⟩
  rcases h.2 with h | ⟨g, cap, cur, h1, h2, h3, h4⟩
  · exact .inl h
  · refine .inr ⟨g, cap, cur, h1, h2, ?_, h4⟩
    injection h1 with h1
    exact (hb.block g (hB _ h1)).trans h3

def ClonePost (x : Nd) (w : World) (e : Ending) (w' : World) : Prop :=
  ∃ B A1 c1 A2 c2 A3 c3, e = .returned (.agg #[.slice A1 x.pre.length c1, .int .u64 (x.val.toNat : Int), .slice A2 x.labels.length c2, .slice A3 x.kids.length c3]) ∧ w.heap.size ≤ B ∧ B ≤ w'.heap.size ∧
    (w'.ownsRow w.heap.size 5 1 (.slice A1 x.pre.length c1) x.pre.length (x.pre.map bv) ∧ ∀ a, A1 = some a → a.block < B) ∧
    w'.ownsRow B 5 1 (.slice A2 x.labels.length c2) x.labels.length (x.labels.map bv) ∧ w'.ownsRow B 30 1 (.slice A3 x.kids.length c3) x.kids.length (x.kids.map wv) ∧ Below w.heap.size w w'

theorem box_and_zero (w : World) (t : TypeId) (a b c d z0 z1 z2 z3 : Value) : ∃ W, W = (w.alloc (.cells #[a, b, c, d] t)).alloc (.cells #[z0, z1, z2, z3] t) ∧ Blk W w.heap.size t [a, b, c, d] ∧ Blk W (w.heap.size + 1) t [z0, z1, z2, z3] ∧
    Below w.heap.size w W ∧ W.heap.size = w.heap.size + 2 := by
  refine ⟨_, rfl, ?_, ?_, ((Below.refl _ _).alloc (Nat.le_refl _) _).alloc (by simp) _, by simp⟩
  · have : Blk (w.alloc (.cells #[a, b, c, d] t)) w.heap.size t [a, b, c, d] := heap_alloc_new w _
    exact (Below.heap_alloc _ _ _ (by simp)).trans this
  · have : Blk ((w.alloc (.cells #[a, b, c, d] t)).alloc (.cells #[z0, z1, z2, z3] t)) (w.alloc (.cells #[a, b, c, d] t)).heap.size t [z0, z1, z2, z3] := heap_alloc_new _ _
    simpa using this

set_option maxHeartbeats 1000000 in
theorem clone_node (A1 A2 A3 : Option Addr) (n1 c1 n2 c2 n3 c3 : Nat) (x : Nd) (w : World) (b1 : n1 ≤ 1000000) (b2 : n2 ≤ 1000000) (b3 : n3 ≤ 1000000) (h1 : Bs w A1 n1 x.pre) (h2 : Bs w A2 n2 x.labels) (h3 : Ws w A3 n3 x.kids) :
    Calls Try.prog 54 #[.agg #[.slice A1 n1 c1, .int .u64 (x.val.toNat : Int), .slice A2 n2 c2, .slice A3 n3 c3]] w (ClonePost x w) := by
  have hl1 := h1.len
  have hl2 := h2.len
  have hl3 := h3.len
  obtain ⟨W, hW, B1, B2, hbW, hsW⟩ := box_and_zero w 44 (.slice A1 n1 c1) (.int .u64 (x.val.toNat : Int)) (.slice A2 n2 c2) (.slice A3 n3 c3) (.slice none 0 0) (.int .u64 0) (.slice none 0 0) (.slice none 0 0)
  have HW := Lib.hid hW
  clear hW
  obtain ⟨y0, y1, y2, y3, f0, f1, f2, f3⟩ := blk4 B1
  have hgw : w.heap.size < W.heap.size := by omega
  go_enter Try.func54, Try.ntmps54
  go_wp2_with fail
  rw [← HW.out]
  clear HW y0 y1 y2 y3 f0 f1 f2 f3
  refine (cloneB_any A1 n1 c1 x.pre W b1 (h1.below hbW)).mono ?_
  rintro e w1 ⟨v1, rfl, o1, hb1⟩
  obtain ⟨A4, c4, rfl, _, _⟩ := rd_of_own o1
  have q1 := own_block_lt o1
  have hs1 := hb1.size
  replace B1 := B1.below hb1 (by omega)
  replace B2 := B2.below hb1 (by omega)
  have hb01 := hbW.trans (hb1.mono hbW.size)
  obtain ⟨y0, y1, y2, y3, f0, f1, f2, f3⟩ := blk4 B1
  clear hb1 hbW
  go_wp2_with fail
  clear y0 y1 y2 y3 f0 f1 f2 f3
  replace B1 := B1.set_ 0 (.slice A4 n1 c4)
  replace B2 := B2.far (g' := w.heap.size) (by omega) 0 (.slice A4 n1 c4)
  replace o1 := own_far o1 (g := w.heap.size) (by omega) 0 (.slice A4 n1 c4)
  replace hb01 := hb01.setCell (p := ⟨w.heap.size, 0, none⟩) (Nat.le_refl _) (.slice A4 n1 c4)
  have HQ : Hid (∀ a, A4 = some a → a.block < (w1.setCell ⟨w.heap.size, 0, none⟩ (.slice A4 n1 c4)).heap.size) := Lib.hid (fun a ha => by have := (q1 a ha).2; simpa [World.setCell] using this)
  replace hs1 : W.heap.size ≤ (w1.setCell ⟨w.heap.size, 0, none⟩ (.slice A4 n1 c4)).heap.size := by simpa [World.setCell] using hs1
  clear q1
  generalize w1.setCell ⟨w.heap.size, 0, none⟩ (.slice A4 n1 c4) = W1 at *
  -- the labels
  refine (cloneB_any A2 n2 c2 x.labels W1 b2 (h2.below hb01)).mono ?_
  rintro e w2 ⟨v2, rfl, o2, hb2⟩
  obtain ⟨A5, c5, rfl, _, _⟩ := rd_of_own o2
  have hs2 := hb2.size
  replace B1 := B1.below hb2 (by omega)
  replace B2 := B2.below hb2 (by omega)
  replace o1 := own_below o1 hb2
  have hb02 := hb01.trans (hb2.mono hb01.size)
  obtain ⟨y0, y1, y2, y3, f0, f1, f2, f3⟩ := blk4 B1
  clear hb2 hb01
  go_wp2_with fail
  clear y0 y1 y2 y3 f0 f1 f2 f3
  replace B1 := B1.set_ 2 (.slice A5 n2 c5)
  replace B2 := B2.far (g' := w.heap.size) (by omega) 2 (.slice A5 n2 c5)
  replace o1 := own_far o1 (g := w.heap.size) (by omega) 2 (.slice A5 n2 c5)
  replace o2 := own_far o2 (g := w.heap.size) (by omega) 2 (.slice A5 n2 c5)
  replace hb02 := hb02.setCell (p := ⟨w.heap.size, 2, none⟩) (Nat.le_refl _) (.slice A5 n2 c5)
  replace hs2 : W1.heap.size ≤ (w2.setCell ⟨w.heap.size, 2, none⟩ (.slice A5 n2 c5)).heap.size := by simpa [World.setCell] using hs2
  generalize w2.setCell ⟨w.heap.size, 2, none⟩ (.slice A5 n2 c5) = W2 at *
  -- the kids
  refine (cloneW_any A3 n3 c3 x.kids W2 b3 (h3.below hb02)).mono ?_
  rintro e w3 ⟨v3, rfl, o3, hb3⟩
  obtain ⟨A6, c6, rfl, _, _⟩ := rd_of_own o3
  have hs3 := hb3.size
  replace B1 := B1.below hb3 (by omega)
  replace B2 := B2.below hb3 (by omega)
  replace o1 := own_below o1 hb3
  replace o2 := own_below o2 hb3
  have hb03 := hb02.trans (hb3.mono hb02.size)
  obtain ⟨y0, y1, y2, y3, f0, f1, f2, f3⟩ := blk4 B1
  obtain ⟨z0, z1, z2, z3, k0, k1, k2, k3⟩ := blk4 B2
  clear hb3 hb02
  go_wp2_with fail
  clear y0 y1 y2 y3 f0 f1 f2 f3 z0 z1 z2 z3 k0 k1 k2 k3
  have BF := (((((B2.far (g' := w.heap.size) (by omega) 3 (Value.slice A6 n3 c6)).set_ 0 (Value.slice A4 n1 c4)).set_ 1 (Value.int .u64 (x.val.toNat : Int))).set_ 2 (Value.slice A5 n2 c5)).set_ 3 (Value.slice A6 n3 c6))
  have hbF := (((((hb03.setCell (p := ⟨w.heap.size, 3, none⟩) (by simp) (Value.slice A6 n3 c6)).setCell (p := ⟨w.heap.size + 1, 0, none⟩) (by simp) (Value.slice A4 n1 c4)).setCell (p := ⟨w.heap.size + 1, 1, none⟩) (by simp) (Value.int .u64 (x.val.toNat : Int))).setCell (p := ⟨w.heap.size + 1, 2, none⟩) (by simp) (Value.slice A5 n2 c5)).setCell (p := ⟨w.heap.size + 1, 3, none⟩) (by simp) (Value.slice A6 n3 c6))
  have S1 := (own_far (own_far (own_far (own_far (own_far o1 (g := w.heap.size) (by omega) 3 (Value.slice A6 n3 c6)) (g := w.heap.size + 1) (by omega) 0 (Value.slice A4 n1 c4)) (g := w.heap.size + 1) (by omega) 1 (Value.int .u64 (x.val.toNat : Int))) (g := w.heap.size + 1) (by omega) 2 (Value.slice A5 n2 c5)) (g := w.heap.size + 1) (by omega) 3 (Value.slice A6 n3 c6))
  have S2 := (own_far (own_far (own_far (own_far (own_far o2 (g := w.heap.size) (by omega) 3 (Value.slice A6 n3 c6)) (g := w.heap.size + 1) (by omega) 0 (Value.slice A4 n1 c4)) (g := w.heap.size + 1) (by omega) 1 (Value.int .u64 (x.val.toNat : Int))) (g := w.heap.size + 1) (by omega) 2 (Value.slice A5 n2 c5)) (g := w.heap.size + 1) (by omega) 3 (Value.slice A6 n3 c6))
  have S3 := (own_far (own_far (own_far (own_far (own_far o3 (g := w.heap.size) (by omega) 3 (Value.slice A6 n3 c6)) (g := w.heap.size + 1) (by omega) 0 (Value.slice A4 n1 c4)) (g := w.heap.size + 1) (by omega) 1 (Value.int .u64 (x.val.toNat : Int))) (g := w.heap.size + 1) (by omega) 2 (Value.slice A5 n2 c5)) (g := w.heap.size + 1) (by omega) 3 (Value.slice A6 n3 c6))
  have hsz : w3.heap.size = (((((w3.setCell ⟨w.heap.size, 3, none⟩ (Value.slice A6 n3 c6)).setCell ⟨w.heap.size + 1, 0, none⟩ (Value.slice A4 n1 c4)).setCell ⟨w.heap.size + 1, 1, none⟩ (Value.int .u64 (x.val.toNat : Int))).setCell ⟨w.heap.size + 1, 2, none⟩ (Value.slice A5 n2 c5)).setCell ⟨w.heap.size + 1, 3, none⟩ (Value.slice A6 n3 c6)).heap.size := by simp [World.setCell]
  rw [hsz] at hs3
  generalize (((((w3.setCell ⟨w.heap.size, 3, none⟩ (Value.slice A6 n3 c6)).setCell ⟨w.heap.size + 1, 0, none⟩ (Value.slice A4 n1 c4)).setCell ⟨w.heap.size + 1, 1, none⟩ (Value.int .u64 (x.val.toNat : Int))).setCell ⟨w.heap.size + 1, 2, none⟩ (Value.slice A5 n2 c5)).setCell ⟨w.heap.size + 1, 3, none⟩ (Value.slice A6 n3 c6)) = WF at *
  obtain ⟨p0, p1, p2, p3, _⟩ := blk4 BF
  subst hl1 hl2 hl3
  refine bodyPost_ret (v := .agg #[(Value.slice A4 x.pre.length c4), (Value.int .u64 (x.val.toNat : Int)), (Value.slice A5 x.labels.length c5), (Value.slice A6 x.kids.length c6)]) (by simp [results, Try.results54, go_sem, p0, p1, p2, p3]) rfl ?_
  exact ⟨W1.heap.size, A4, c4, A5, c5, A6, c6, rfl, by omega, by omega, ⟨own_mono S1 (by omega), HQ.out⟩, S2, own_mono S3 (by omega), hbF⟩

end Go.Proofs.Ytaamkdejediccaa
