import Derived.Test.YtklcklflnkbccaaGreatDoorG05
import Derived.Test.YtklcklflnkbccaaGreatDoorG07
import Derived.Test.YtklcklflnkbccaaGreatDoorG08
import Derived.Test.YtklcklflnkbccaaGreatDoorG09
import Derived.Test.YtklcklflnkbccaaGreatDoorG11
import Derived.Test.YtklcklflnkbccaaGreatDoorG15
/- Walks of package pool: fits, first, sorted, Reserve. -/
namespace Go.Proofs.YtklcklflnkbccaaGreatDoor
open Go.RowKit

theorem TabB.below {w w' : World} (h : TabB w) (k : Below w.heap.size w w') : TabB w' := fun j hj => (k.cell (p := ⟨1, j, none⟩) (World.block_lt_of_cell? w _ (h j hj))).trans (h j hj)

section
variable {w : World} {d p L : Nat} {s : St} {tb hb n cT cH : Nat}

theorem PoolAt.below {w' : World} (h : PoolAt w d p L s tb hb n cT cH) (k : Below w.heap.size w w') : PoolAt w' d p L s tb hb n cT cH := by
  have key : ∀ {a : Addr} {v : Value}, w.cell? a = some v → w'.cell? a = some v := fun {a v} hc => (k.cell (p := a) (World.block_lt_of_cell? w a hc)).trans hc
  exact ⟨key h.y0, key h.y1, key h.y2, key h.y3, key h.y4, key h.y5, key h.y6, fun i hi => key (h.tk i hi), fun i hi => key (h.hd i hi), h.ok, h.L1, h.nsh, h.ntk⟩

/-- A slab has room for a block of a class. -/
def fitsN (s : St) (c i : Nat) : Bool := (nextW (bothN s i) c).isSome

set_option maxHeartbeats 1000000 in
theorem fits_pool (h : PoolAt w d p L s tb hb n cT cH) (hT : TabB w) (c i : Nat) (hi : i < n) (hc : c < 4) :
    Calls Tryz.prog 145 #[.agg #[.pointer (some ⟨p, 0, none⟩), .int .i64 (c : Int)], .int .i64 (i : Int)] w fun e w' => e = .returned (.bool (fitsN s c i)) ∧ Below w.heap.size w w' := by
  have hb0 : Below w.heap.size w (w.alloc (.cells #[.pointer (some ⟨p, 0, none⟩), .int .i64 (c : Int)] 226)) := (Below.refl _ _).alloc (Nat.le_refl _) _
  have h1 := h.below hb0
  have hT1 := hT.below hb0
  have HB := Lib.hid (fun W (k : Dr _ W) => both_pool (h1.dr k) i hi)
  have HN := Lib.hid (fun W (k : Dr _ W) => nextS_any (bothN s i) c W (bothN_lt s i) (by omega) (hT1.dr k))
  have HR : Hid (decide ((0 : Int) ≤ optI (nextW (bothN s i) c)) = fitsN s c i) := Lib.hid (by
    unfold fitsN optI
    cases nextW (bothN s i) c <;> simp)
  clear h h1 hT hT1
  go_enter Tryz.func145, Tryz.ntmps145
  go_wp2_with fail
  go_quiet (first
    | (go_at_call 148; exact q_dr (HB.out _ (Dr.one _ _)))
    | (go_at_call 147; exact q_dr (HN.out _ (Dr.one _ _))))
  go_wp2_with fail
  trace_state
  go_ret
  exact ⟨by rw [← HR.out]; rfl, hb0.trans ((Dr.one _ _).below _)⟩

end

end Go.Proofs.YtklcklflnkbccaaGreatDoor

/- Walks of package pool: first. -/
namespace Go.Proofs.YtklcklflnkbccaaGreatDoor
open Go.RowKit

/-- What first tells of a list. -/
def FirstOut (F : Nat → Bool) (l : List Nat) : Option Nat → Prop
  | some i => i ∈ l ∧ F i = true ∧ ∀ x ∈ l, F x = true → i ≤ x
  | none => ∀ x ∈ l, F x = false
def firstV : Option Nat → Value
  | some i => .tuple #[.int .i64 (i : Int), .bool true]
  | none => .tuple #[.int .i64 0, .bool false]

/-- How long the order at o is. -/
def lenAt (w : World) (o : Nat) : Nat := match w.cell? ⟨o, 0, none⟩ with
  | some (.slice _ n _) => n
  | _ => 0
theorem OrdAt.lenAt {w : World} {B o g c : Nat} {l : List Nat} (h : OrdAt w B o g c l) : lenAt w o = l.length := by
  have := h.box.cell 0
  unfold Go.Proofs.YtklcklflnkbccaaGreatDoor.lenAt
  rw [this]; rfl

set_option maxHeartbeats 4000000 in
set_option maxRecDepth 100000 in
theorem first_pool {w0 w : World} {d p L : Nat} {s : St} {tb hb n cT cH : Nat} (h : PoolAt w0 d p L s tb hb n cT cH) (hT : TabB w0) (c : Nat) (hc : c < 4) (hB : Below w0.heap.size w0 w)
    {o g cc : Nat} {l : List Nat} (ho : OrdAt w w0.heap.size o g cc l) (hl : ∀ x ∈ l, x < n) (hH : HeapTo (keyF id l) l.length) :
    Calls Tryz.prog 146 #[.pointer (some ⟨o, 0, none⟩), .func (.func 145) #[.agg #[.pointer (some ⟨p, 0, none⟩), .int .i64 (c : Int)]] #[]] w fun e w' => ∃ r, e = .returned (firstV r) ∧ FirstOut (fitsN s c) l r ∧ Touch (fun b => b = o ∨ b = g) w w' := by
  have HP := Lib.hid h
  have HTB := Lib.hid hT
  have HL := Lib.hid hl
  have hob := ho.hB
  have hgb := ho.glt.1
  have hws := hB.size
  clear h hT hl
  go_enter Tryz.func146, Tryz.ntmps146
  go_wp2_with fail
  go_loopw [] (fun wr => ∃ l1 P, (P ++ l1).Perm l ∧ (∀ x ∈ P, fitsN s c x = false) ∧ HeapTo (keyF id l1) l1.length ∧ OrdAt wr w0.heap.size o g cc l1 ∧ Touch (fun b => b = o ∨ b = g) w wr) (fun wr => lenAt wr o)
  case atStart => exact ⟨l, [], List.Perm.refl _, by simp, hH, ho, Touch.refl _ _⟩
  case round =>
    obtain ⟨l1, P, hp, hP, hh, ho1, ht1⟩ := hrel
    have hb1 : Below w0.heap.size w0 wr := hB.trans (ht1.below hws (fun k hk => by rcases hk with rfl | rfl <;> assumption))
    have HPm := Lib.hid hp
    have HPf := Lib.hid hP
    have HH := Lib.hid hh
    have HO := Lib.hid ho1
    have HT1 := Lib.hid ht1
    have HB1 := Lib.hid hb1
    have y0 := ho1.box.cell 0
    simp only [List.getElem?_cons_zero] at y0
    have hln := ho1.len
    have HLA := Lib.hid ho1.lenAt
    obtain ⟨m, hm⟩ : ∃ m, l1.length = m := ⟨_, rfl⟩
    rw [hm] at y0 hln
    have HM := Lib.hid hm
    have HLen := Lib.hid (ordLen (some ⟨g, 0, none⟩) m cc wr (by omega))
    clear hp hP hh ho1 ht1 hb1 hm ho hH hB
    rcases m with _ | m
    · go_wp2_with fail
      refine HLen.out.mono ?_
      rintro e w' ⟨rfl, rfl⟩
      go_wp2_with fail
      go_ret2
      have hnil : l1 = [] := List.eq_nil_of_length_eq_zero HM.out
      refine ⟨none, rfl, fun x hx => ?_, HT1.out⟩
      have := HPm.out.mem_iff.2 hx
      rw [hnil, List.append_nil] at this
      exact HPf.out x this
    · have t1 : decide ((0 : Int) < ((m + 1 : Nat) : Int)) = true := decide_eq_true (by omega)
      have HPop := Lib.hid (heapPop HO.out HM.out (by have := HH.out; rw [HM.out] at this; exact this))
      generalize hmm : m + 1 = m1 at y0 HLen t1
      go_wp2_with fail
      refine HLen.out.mono ?_
      rintro e w' ⟨rfl, rfl⟩
      go_wp2_with fail
      refine HPop.out.mono ?_
      rintro e w2 ⟨x, l2, rfl, hp2, hx2, hh2, ho2, ht2⟩
      have hxl : x ∈ l := HPm.out.mem_iff.1 (List.mem_append_right _ (hp2.mem_iff.1 (List.mem_cons_self)))
      have hxn := HL.out x hxl
      have ht3 := HT1.out.trans ht2 (fun b h => .inl h)
      have hb2 : Below w0.heap.size w0 w2 := HB1.out.trans (ht2.below (by have := HB1.out.size; omega) (fun k hk => by rcases hk with rfl | rfl <;> assumption))
      have HF := fits_pool (HP.out.below hb2) (HTB.out.below hb2) c x hxn hc
      have HP2 := Lib.hid hp2
      have HX2 := Lib.hid hx2
      have HH2 := Lib.hid hh2
      have HO2 := Lib.hid ho2
      have HT3 := Lib.hid ht3
      have ta := assert_int (x : Int)
      clear hp2 hx2 hh2 ho2 ht3 ht2 hb2 HPop HLen
      have hl2 : l2.length = m := by have := HP2.out.length_eq; simp only [List.length_cons, HM.out] at this; omega
      have HL2 := Lib.hid hl2
      clear hl2
      cases hf : fitsN s c x
      · rw [hf] at HF
        have HF := Lib.hid HF
        have HFx := Lib.hid hf
        clear hf
        go_wp2_with fail
        refine HF.out.mono ?_
        rintro e w3 ⟨rfl, hb3⟩
        have ho3 := HO2.out.below hb3
        have ht3 := HT3.out.trans (Touch.of_below (F := fun b => b = o ∨ b = g) hb3) (fun b h => .inl h)
        have HLA3 := Lib.hid ho3.lenAt
        have HO3 := Lib.hid ho3
        have HT4 := Lib.hid ht3
        clear ho3 ht3 hb3 ta
        go_wp2_with fail
        go_roundw
        case rel =>
          refine ⟨l2, P ++ [x], ?_, ?_, by rw [HL2.out]; exact HH2.out, HO3.out, HT4.out⟩
          · rw [List.append_assoc]
            exact (List.Perm.append_left P HP2.out).trans HPm.out
          · intro y hy
            rcases List.mem_append.1 hy with h | h
            · exact HPf.out y h
            · rw [List.mem_singleton.1 h]; exact HFx.out
        case measure => show lenAt w3 o < lenAt wr o; rw [HLA3.out, HLA.out, HL2.out, HM.out]; omega
      · rw [hf] at HF
        have HF := Lib.hid HF
        have HFx := Lib.hid hf
        clear hf
        go_wp2_with fail
        refine HF.out.mono ?_
        rintro e w3 ⟨rfl, hb3⟩
        go_wp2_with fail
        go_ret2
        refine ⟨some x, rfl, ⟨hxl, HFx.out, fun y hy hfy => ?_⟩, HT3.out.trans (Touch.of_below (F := fun b => b = o ∨ b = g) hb3) (fun b h => .inl h)⟩
        rcases List.mem_append.1 (HPm.out.mem_iff.2 hy) with h | h
        · rw [HPf.out y h] at hfy; cases hfy
        · exact HX2.out y h

end Go.Proofs.YtklcklflnkbccaaGreatDoor

/- Walks of package pool: sorted. -/
namespace Go.Proofs.YtklcklflnkbccaaGreatDoor
open Go.RowKit

def ent3 (B : Nat) : Array MapEntry := #[{ key := .int .i64 0, val := .pointer (some ⟨B + 2, 0, none⟩), born := 0 }, { key := .int .i64 1, val := .pointer (some ⟨B + 4, 0, none⟩), born := 1 }, { key := .int .i64 2, val := .pointer (some ⟨B + 6, 0, none⟩), born := 2 }]

/-- Three heaps by class, in a map at block B. -/
structure Tri (w0 W : World) (g cc : Nat → Nat) (Ls : Nat → List Nat) : Prop where
  map : W.heap[w0.heap.size]? = some (.map (ent3 w0.heap.size) 3)
  ord : ∀ c, c < 3 → OrdAt W w0.heap.size (w0.heap.size + 2 + 2 * c) (g c) (cc c) (Ls c)
  heap : ∀ c, c < 3 → HeapTo (keyF id (Ls c)) (Ls c).length
  apart : ∀ c c', c < 3 → c' < 3 → c ≠ c' → g c ≠ g c' ∧ g c ≠ w0.heap.size + 2 + 2 * c'
  low : Below w0.heap.size w0 W

theorem Tri.keep {w0 W W' : World} {g cc : Nat → Nat} {Ls : Nat → List Nat} (h : Tri w0 W g cc Ls) (k : Below W.heap.size W W') : Tri w0 W' g cc Ls :=
  ⟨(k.block _ (Array.getElem?_eq_some_iff.1 h.map).1).trans h.map, fun c hc => (h.ord c hc).below k, h.heap, h.apart, h.low.trans (k.mono h.low.size)⟩

/-- One order's row may have turned: the others stay. -/
theorem Tri.push {w0 W W' : World} {g cc : Nat → Nat} {Ls : Nat → List Nat} (h : Tri w0 W g cc Ls) (c : Nat) (hc : c < 3) {g' c' : Nat} {l' : List Nat} (ho : OrdAt W' w0.heap.size (w0.heap.size + 2 + 2 * c) g' c' l') (hh : HeapTo (keyF id l') l'.length)
    (hg : g' = g c ∨ W.heap.size ≤ g') (t : Touch (fun b => b = w0.heap.size + 2 + 2 * c ∨ b = g c) W W') :
    Tri w0 W' (fun x => if x = c then g' else g x) (fun x => if x = c then c' else cc x) (fun x => if x = c then l' else Ls x) := by
  have hgc := (h.ord c hc).glt
  have hmb : w0.heap.size ≠ g c := fun e => by
    rcases (h.ord c hc).row.2 with ⟨h', _⟩ | ⟨g2, cap, cur, hv, hB, hg2, _⟩
    · cases h'
    · simp only [Value.slice.injEq, Option.some.injEq, Addr.mk.injEq, and_true, true_and] at hv
      obtain ⟨rfl, rfl⟩ := hv
      have := h.map
      rw [e, hg2] at this
      cases this
  have hmlt := (Array.getElem?_eq_some_iff.1 h.map).1
  refine ⟨(t.block _ hmlt (fun e => by rcases e with e | e; omega; exact hmb e)).trans h.map, fun x hx => ?_, fun x hx => ?_, fun x y hx hy hxy => ?_, h.low.trans (t.below h.low.size (fun k hk => by rcases hk with rfl | rfl; omega; exact hgc.1))⟩
  · by_cases e : x = c
    · subst e; simp only [if_true]; exact ho
    · simp only [if_neg e]
      have := h.apart c x hc hx (fun e' => e e'.symm)
      have h2 := h.apart x c hx hc e
      exact (h.ord x hx).touch t (fun e' => by rcases e' with e' | e'; omega; exact this.2 e'.symm) (fun e' => by rcases e' with e' | e'; exact h2.2 e'; exact this.1 e'.symm)
  · by_cases e : x = c
    · simp only [if_pos e]; exact hh
    · simp only [if_neg e]; exact h.heap x hx
  · have hol : ∀ z, z < 3 → w0.heap.size + 2 + 2 * z < W.heap.size := fun z hz => (h.ord z hz).box.lt
    have hgl : ∀ z, z < 3 → g z < W.heap.size := fun z hz => (h.ord z hz).glt.2
    by_cases ex : x = c
    · have ey : ¬ y = c := fun e => hxy (by rw [ex, e])
      simp only [if_pos ex, if_neg ey]
      rcases hg with e | e
      · rw [e, ← ex]; exact h.apart x y hx hy hxy
      · have := hol y hy; have := hgl y hy; omega
    · by_cases ey : y = c
      · simp only [if_neg ex, if_pos ey]
        have hxc := h.apart x c hx hc ex
        refine ⟨?_, by rw [ey]; exact hxc.2⟩
        rcases hg with e | e
        · rw [e]; exact hxc.1
        · have := hgl x hx; omega
      · simp only [if_neg ex, if_neg ey]
        exact h.apart x y hx hy hxy

/-- An empty order is laid. -/
theorem ord_new (W : World) (B : Nat) (hB : B ≤ W.heap.size) : OrdAt ((W.alloc (.cells #[] 3)).alloc (.cells #[.slice (some ⟨W.heap.size, 0, none⟩) 0 0] 253)) B (W.heap.size + 1) W.heap.size 0 [] := by
  have h1 : (W.alloc (.cells #[] 3)).heap.size = W.heap.size + 1 := by simp
  refine ⟨?_, ?_, by omega, by omega, by simp⟩
  · rw [← h1]; exact heap_alloc_new _ _
  · exact own_below (World.ownsRow_made W #[] 0 hB (by decide) rfl) ((Below.refl _ _).alloc (Nat.le_refl _) _)

theorem Tryz.boxMap : Tryz.prog.underlying 223 = some (.map 3 228) := Tryz.underlying223

/-- The three empty orders, and the map of them. -/
theorem tri_start (w W1 W2 W3 : World) (h1 : W1 = putMap (((w.alloc (.map #[] 0)).alloc (.cells #[] 3)).alloc (.cells #[.slice (some ⟨w.heap.size + 1, 0, none⟩) 0 0] 253)) w.heap.size #[{ key := .int .i64 0, val := .pointer (some ⟨w.heap.size + 1 + 1, 0, none⟩), born := 0 }] 1)
    (h2 : W2 = putMap ((W1.alloc (.cells #[] 3)).alloc (.cells #[.slice (some ⟨W1.heap.size, 0, none⟩) 0 0] 253)) w.heap.size #[{ key := .int .i64 0, val := .pointer (some ⟨w.heap.size + 2, 0, none⟩), born := 0 }, { key := .int .i64 1, val := .pointer (some ⟨W1.heap.size + 1, 0, none⟩), born := 1 }] 2)
    (h3 : W3 = putMap ((W2.alloc (.cells #[] 3)).alloc (.cells #[.slice (some ⟨W2.heap.size, 0, none⟩) 0 0] 253)) w.heap.size (ent3 w.heap.size) 3) :
    W1.heap.size = w.heap.size + 3 ∧ W2.heap.size = w.heap.size + 5 ∧ W1.heap[w.heap.size]? = some (.map #[{ key := .int .i64 0, val := .pointer (some ⟨w.heap.size + 1 + 1, 0, none⟩), born := 0 }] 1) ∧ Tri w W3 (fun c => w.heap.size + 1 + 2 * c) (fun _ => 0) (fun _ => []) := by
  have s1 : W1.heap.size = w.heap.size + 3 := by rw [h1, putMap_size]; simp
  have s2 : W2.heap.size = w.heap.size + 5 := by rw [h2, putMap_size]; simp [s1]
  have hs0 : (w.alloc (.map #[] 0)).heap.size = w.heap.size + 1 := by simp
  have b0 : Below w.heap.size w (w.alloc (.map #[] 0)) := (Below.refl _ _).alloc (Nat.le_refl _) _
  have o1 := ord_new (w.alloc (.map #[] 0)) w.heap.size (by omega)
  rw [hs0] at o1
  have t1 := putMap_touch (((w.alloc (.map #[] 0)).alloc (.cells #[] 3)).alloc (.cells #[.slice (some ⟨w.heap.size + 1, 0, none⟩) 0 0] 253)) w.heap.size #[{ key := .int .i64 0, val := .pointer (some ⟨w.heap.size + 1 + 1, 0, none⟩), born := 0 }] 1
  rw [← h1] at t1
  have o1' := o1.touch t1 (by omega) (by omega)
  have l1 : Below w.heap.size w W1 := ((b0.alloc (by simp) _).alloc (by simp; omega) _).trans (t1.below (by simp; omega) (fun k hk => by rw [hk]; exact Nat.le_refl _))
  have m1 : W1.heap[w.heap.size]? = some (.map #[{ key := .int .i64 0, val := .pointer (some ⟨w.heap.size + 1 + 1, 0, none⟩), born := 0 }] 1) := by rw [h1]; exact putMap_at _ _ _ _ (by simp; omega)
  have o2 := ord_new W1 w.heap.size (by omega)
  have b1 : Below W1.heap.size W1 ((W1.alloc (.cells #[] 3)).alloc (.cells #[.slice (some ⟨W1.heap.size, 0, none⟩) 0 0] 253)) := ((Below.refl _ _).alloc (Nat.le_refl _) _).alloc (by simp) _
  have t2 : Touch (fun b => b = w.heap.size) ((W1.alloc (.cells #[] 3)).alloc (.cells #[.slice (some ⟨W1.heap.size, 0, none⟩) 0 0] 253)) W2 := by rw [h2]; exact putMap_touch _ _ _ _
  have o12 := (o1'.below b1).touch t2 (by omega) (by omega)
  have o2' := o2.touch t2 (by omega) (by omega)
  have l2 : Below w.heap.size w W2 := l1.trans ((b1.mono (by omega)).trans (t2.below (by simp; omega) (fun k hk => by rw [hk]; exact Nat.le_refl _)))
  have o3 := ord_new W2 w.heap.size (by omega)
  have b2 : Below W2.heap.size W2 ((W2.alloc (.cells #[] 3)).alloc (.cells #[.slice (some ⟨W2.heap.size, 0, none⟩) 0 0] 253)) := ((Below.refl _ _).alloc (Nat.le_refl _) _).alloc (by simp) _
  have t3 : Touch (fun b => b = w.heap.size) ((W2.alloc (.cells #[] 3)).alloc (.cells #[.slice (some ⟨W2.heap.size, 0, none⟩) 0 0] 253)) W3 := by rw [h3]; exact putMap_touch _ _ _ _
  have o13 := (o12.below b2).touch t3 (by omega) (by omega)
  have o23 := (o2'.below b2).touch t3 (by omega) (by omega)
  have o33 := o3.touch t3 (by omega) (by omega)
  have l3 : Below w.heap.size w W3 := l2.trans ((b2.mono (by omega)).trans (t3.below (by simp; omega) (fun k hk => by rw [hk]; exact Nat.le_refl _)))
  refine ⟨s1, s2, m1, ⟨by rw [h3]; exact putMap_at _ _ _ _ (by simp; omega), fun c hc => ?_, fun c hc k h0 hk => by simp at hk, fun c c' hc hc' hne => by constructor <;> omega, l3⟩⟩
  rw [s1] at o23
  rw [s2] at o33
  match c, hc with
  | 0, _ => exact o13
  | 1, _ => exact o23
  | 2, _ => exact o33

/-- The slabs of a class, of the first k. -/
def candN (s : St) (c k : Nat) : List Nat := (List.range k).filter fun i => decide (classW (bothN s i) = c)
theorem candN_succ (s : St) (c k : Nat) : candN s c (k + 1) = candN s c k ++ if classW (bothN s k) = c then [k] else [] := by
  unfold candN
  rw [List.range_succ, List.filter_append]
  by_cases h : classW (bothN s k) = c <;> simp [h]
theorem candN_le (s : St) (c k : Nat) : (candN s c k).length ≤ k := by
  have := List.length_filter_le (fun i => decide (classW (bothN s i) = c)) (List.range k)
  simpa [candN] using this

theorem classW_lt3 (x : Nat) : classW x < 3 := by
  have h4 := classW_lt x
  by_cases h : classW x = 3
  · exfalso
    unfold classW at h
    split at h
    · rename_i hr
      unfold rightW at hr
      rw [h] at hr
      by_cases h0 : x = 0
      · subst h0; revert h; decide
      · simp [h0, blocksN, fieldN, Nat.mod_one] at hr
    · cases h
  · omega

end Go.Proofs.YtklcklflnkbccaaGreatDoor

/- Walks of package pool: sorted. -/
namespace Go.Proofs.YtklcklflnkbccaaGreatDoor
open Go.RowKit

set_option maxHeartbeats 4000000 in
set_option maxRecDepth 100000 in
theorem sorted_pool {w : World} {d p L : Nat} {s : St} {tb hb n cT cH : Nat} (h : PoolAt w d p L s tb hb n cT cH) :
    Calls Tryz.prog 144 #[.pointer (some ⟨p, 0, none⟩)] w fun e w' => e = .returned (.map (some w.heap.size)) ∧
      ∃ g cc Ls, Tri w w' g cc Ls ∧ ∀ c, c < 3 → (Ls c).Perm (candN s c n) := by
  have HP := Lib.hid h
  have hplt := World.block_lt_of_cell? w _ h.y5
  have y5 := h.y5
  have hn : n ≤ 64 := by have := h.ok.fits; have := h.L1; have := h.nsh; omega
  have mm := fun W => run_makeMap (P := Tryz.prog) 223 W
  clear h
  go_enter Tryz.func144, Tryz.ntmps144
  go_wp2_with fail
  rw [run_ins Tryz.boxMap Tryz.underlying3 _ _ #[] 0 _ _ ?h1 ?f1]
  case h1 => exact (heap_alloc_old _ _ (by simp; omega)).trans ((heap_alloc_old _ _ (by simp)).trans (heap_alloc_new _ _))
  case f1 => rfl
  obtain ⟨W1, hW1⟩ : ∃ W1, W1 = putMap (((w.alloc (.map #[] 0)).alloc (.cells #[] 3)).alloc (.cells #[.slice (some ⟨w.heap.size + 1, 0, none⟩) 0 0] 253)) w.heap.size #[{ key := .int .i64 0, val := .pointer (some ⟨w.heap.size + 1 + 1, 0, none⟩), born := 0 }] 1 := ⟨_, rfl⟩
  rw [show putMap (((w.alloc (.map #[] 0)).alloc (.cells #[] 3)).alloc (.cells #[.slice (some ⟨w.heap.size + 1, 0, none⟩) 0 0] 253)) w.heap.size (#[].push { key := .int .i64 0, val := .pointer (some ⟨w.heap.size + 1 + 1, 0, none⟩), born := 0 }) (0 + 1) = W1 from hW1.symm]
  have HW1 := Lib.hid hW1
  obtain ⟨s1, -, m1, -⟩ := tri_start w W1 _ _ hW1 rfl rfl
  clear hW1
  go_wp2_with fail
  rw [run_ins Tryz.boxMap Tryz.underlying3 _ _ _ 1 _ _ ?h2 ?f2]
  case h2 => exact (heap_alloc_old _ _ (by simp; omega)).trans ((heap_alloc_old _ _ (by omega)).trans m1)
  case f2 => rfl
  obtain ⟨W2, hW2⟩ : ∃ W2, W2 = putMap ((W1.alloc (.cells #[] 3)).alloc (.cells #[.slice (some ⟨w.heap.size + 3, 0, none⟩) 0 0] 253)) w.heap.size #[{ key := .int .i64 0, val := .pointer (some ⟨w.heap.size + 1 + 1, 0, none⟩), born := 0 }, { key := .int .i64 1, val := .pointer (some ⟨w.heap.size + 3 + 1, 0, none⟩), born := 1 }] 2 := ⟨_, rfl⟩
  rw [show putMap ((W1.alloc (.cells #[] 3)).alloc (.cells #[.slice (some ⟨w.heap.size + 3, 0, none⟩) 0 0] 253)) w.heap.size (#[{ key := .int .i64 0, val := .pointer (some ⟨w.heap.size + 1 + 1, 0, none⟩), born := 0 }].push { key := .int .i64 1, val := .pointer (some ⟨w.heap.size + 3 + 1, 0, none⟩), born := 1 }) (1 + 1) = W2 from hW2.symm]
  have hW2' : W2 = putMap ((W1.alloc (.cells #[] 3)).alloc (.cells #[.slice (some ⟨W1.heap.size, 0, none⟩) 0 0] 253)) w.heap.size #[{ key := .int .i64 0, val := .pointer (some ⟨w.heap.size + 2, 0, none⟩), born := 0 }, { key := .int .i64 1, val := .pointer (some ⟨W1.heap.size + 1, 0, none⟩), born := 1 }] 2 := by rw [hW2, s1]
  have m2 : W2.heap[w.heap.size]? = some (.map #[{ key := .int .i64 0, val := .pointer (some ⟨w.heap.size + 1 + 1, 0, none⟩), born := 0 }, { key := .int .i64 1, val := .pointer (some ⟨w.heap.size + 3 + 1, 0, none⟩), born := 1 }] 2) := by rw [hW2]; exact putMap_at _ _ _ _ (by simp; omega)
  obtain ⟨-, s2, -, -⟩ := tri_start w W1 W2 _ HW1.out hW2' rfl
  have HW2 := Lib.hid hW2'
  clear hW2 hW2' m1
  go_wp2_with fail
  rw [run_ins Tryz.boxMap Tryz.underlying3 _ _ _ 2 _ _ ?h3 ?f3]
  case h3 => exact (heap_alloc_old _ _ (by simp; omega)).trans ((heap_alloc_old _ _ (by omega)).trans m2)
  case f3 => rfl
  obtain ⟨W3, hW3⟩ : ∃ W3, W3 = putMap ((W2.alloc (.cells #[] 3)).alloc (.cells #[.slice (some ⟨w.heap.size + 5, 0, none⟩) 0 0] 253)) w.heap.size (ent3 w.heap.size) 3 := ⟨_, rfl⟩
  rw [show putMap ((W2.alloc (.cells #[] 3)).alloc (.cells #[.slice (some ⟨w.heap.size + 5, 0, none⟩) 0 0] 253)) w.heap.size (#[{ key := .int .i64 0, val := .pointer (some ⟨w.heap.size + 1 + 1, 0, none⟩), born := 0 }, { key := .int .i64 1, val := .pointer (some ⟨w.heap.size + 3 + 1, 0, none⟩), born := 1 }].push { key := .int .i64 2, val := .pointer (some ⟨w.heap.size + 5 + 1, 0, none⟩), born := 2 }) (2 + 1) = W3 from hW3.symm]
  have hW3' : W3 = putMap ((W2.alloc (.cells #[] 3)).alloc (.cells #[.slice (some ⟨W2.heap.size, 0, none⟩) 0 0] 253)) w.heap.size (ent3 w.heap.size) 3 := by rw [hW3, s2]
  obtain ⟨-, -, -, tri0⟩ := tri_start w W1 W2 W3 HW1.out HW2.out hW3'
  have y53 : W3.cell? ⟨p, 5, none⟩ = some (.slice (some ⟨tb, 0, none⟩) n cT) := (HP.out.below tri0.low).y5
  clear hW3 hW3' HW1 HW2 m2 s1 s2 y5 mm
  have HT0 := Lib.hid tri0
  clear tri0
  go_wp2_with fail
  go_loopw [18] (fun i wr => ∃ k g cc Ls, k ≤ n ∧ i = .int .i64 (k : Nat) ∧ Tri w wr g cc Ls ∧ ∀ c, c < 3 → (Ls c).Perm (candN s c k)) (fun i _ => n - (intOf i).toNat)
  case atStart => exact ⟨0, _, _, _, Nat.zero_le _, rfl, HT0.out, fun c _ => List.Perm.refl _⟩
  case round =>
    obtain ⟨k, g, cc, Ls, hk, rfl, htri, hperm⟩ := hrel
    have HTr := Lib.hid htri
    have HPm := Lib.hid hperm
    clear htri hperm HT0 y53
    by_cases hlt : k < n
    · have hcl := classW_lt3 (bothN s k)
      obtain ⟨c, hc⟩ : ∃ c, classW (bothN s k) = c := ⟨_, rfl⟩
      rw [hc] at hcl
      have HC := Lib.hid (classS_any (bothN s k) · (bothN_lt s k))
      rw [hc] at HC
      have HCl := Lib.hid hc
      clear hc
      go_wp2_with fail
      refine (both_pool (HP.out.below HTr.out.low) k hlt).mono ?_
      rintro e w2 ⟨rfl, hd2⟩
      go_wp2_with fail
      refine (HC.out _).mono ?_
      rintro e w3 ⟨rfl, hd3⟩
      have hd := hd2.trans hd3
      have htr3 := HTr.out.keep (hd.below _)
      have HT3 := Lib.hid htr3
      clear htr3 hd2 hd3 hd
      go_wp2_with fail
      rw [run_look Tryz.boxMap Tryz.underlying3 _ _ (ent3 w.heap.size) 3 _ c (.pointer (some ⟨w.heap.size + 2 + 2 * c, 0, none⟩)) ?h4 ?f4]
      case h4 => exact HT3.out.map
      case f4 =>
        match c, hcl with
        | 0, _ => rfl
        | 1, _ => rfl
        | 2, _ => rfl
      have hlen : (Ls c).length < 1000 := by
        have := (HPm.out c hcl).length_eq
        have := candN_le s c k
        omega
      have HPu := Lib.hid (heapPush k (HT3.out.ord c hcl) hlen (HT3.out.heap c hcl))
      go_wp2_with fail
      refine HPu.out.mono ?_
      rintro e w4 ⟨rfl, g', c', l', hp', hh', ho', hg', ht'⟩
      have HT4 := Lib.hid (HT3.out.push c hcl ho' hh' hg' ht')
      have HPm2 : Hid (∀ x, x < 3 → ((fun x => if x = c then l' else Ls x) x).Perm (candN s x (k + 1))) := Lib.hid (fun x hx => by
        rw [candN_succ, HCl.out]
        by_cases e : x = c
        · subst e
          simp only [if_true]
          exact hp'.trans (List.Perm.append_right _ (HPm.out x hx))
        · rw [if_neg (show ¬ c = x from fun h => e h.symm), List.append_nil]
          simp only [if_neg e]
          exact HPm.out x hx)
      clear hp' hh' ho' hg' ht' HPu
      go_wp2_with fail
      go_roundw
      case rel => exact ⟨k + 1, _, _, _, by omega, by go_num, HT4.out, HPm2.out⟩
      case measure => simp [intOf]; omega
    · have hkn : k = n := by omega
      subst hkn
      go_wp2_with fail
      go_ret
      exact ⟨rfl, g, cc, Ls, HTr.out, HPm.out⟩

end Go.Proofs.YtklcklflnkbccaaGreatDoor

/- Walks of package pool: Reserve. -/
namespace Go.Proofs.YtklcklflnkbccaaGreatDoor
open Go.RowKit

/-- What first tells of the slabs of a class is the first of them in order. -/
theorem first_is {s : St} {c k n : Nat} {l : List Nat} {r : Option Nat} (hn : s.tk.length = n) (hl : l.Perm (candN s k n)) (h : FirstOut (fitsN s c) l r) : firstP s k c = r := by
  have hmem : ∀ x, x ∈ l ↔ x < n ∧ classW (bothN s x) = k := fun x => by rw [hl.mem_iff]; simp [candN]
  unfold firstP
  rw [hn]
  cases r with
  | none =>
    rw [List.find?_eq_none]
    intro x hx
    have hxn : x < n := List.mem_range.1 hx
    by_cases e : classW (bothN s x) = k
    · have := h x ((hmem x).2 ⟨hxn, e⟩)
      unfold fitsN at this
      simp [e, this]
    · simp [e]
  | some i =>
    obtain ⟨h1, h2, h3⟩ := h
    obtain ⟨hin, hik⟩ := (hmem i).1 h1
    rw [List.find?_range_eq_some]
    refine ⟨by unfold fitsN at h2; simp [hik, h2], List.mem_range.2 hin, fun j hj => ?_⟩
    by_cases e : classW (bothN s j) = k
    · by_cases f : fitsN s c j = true
      · have := h3 j ((hmem j).2 ⟨by omega, e⟩) f
        omega
      · unfold fitsN at f
        simp only [Bool.not_eq_true] at f
        simp [e, f]
    · simp [e]

theorem slabFor_some {s : St} {c i : Nat} (h : slabFor s c = some i) : i < s.tk.length ∧ (nextW (bothN s i) c).isSome = true := by
  have key : ∀ k, firstP s k c = some i → i < s.tk.length ∧ (nextW (bothN s i) c).isSome = true := fun k hk => by
    unfold firstP at hk
    have h1 := List.mem_range.1 (List.mem_of_find?_eq_some hk)
    have h2 := List.find?_some hk
    simp only [Bool.and_eq_true] at h2
    exact ⟨h1, h2.2⟩
  unfold slabFor at h
  split at h
  · rename_i j hj
    injection h with h
    subst h
    exact key c hj
  · exact key 0 h

theorem nextW_lt {x c k : Nat} (h : nextW x c = some k) : k < 16 := by
  unfold nextW at h
  split at h
  · have := lowN_lt h
    have := blocksN_le c
    omega
  · cases h

set_option maxHeartbeats 4000000 in
set_option maxRecDepth 100000 in
/-- The slab that is found. -/
theorem reserve_find {w : World} {d p L : Nat} {s : St} {tb hb n cT cH : Nat} (h : PoolAt w d p L s tb hb n cT cH) (hT : TabB w) (c : Nat) (hc1 : 1 ≤ c) (hc2 : c ≤ 2) {W : World} {g cc : Nat → Nat} {Ls : Nat → List Nat} (ht : Tri w W g cc Ls) (hp : ∀ x, x < 3 → (Ls x).Perm (candN s x n)) (k : Nat) (hk : k < 3) :
    Calls Tryz.prog 146 #[.pointer (some ⟨w.heap.size + 2 + 2 * k, 0, none⟩), .func (.func 145) #[.agg #[.pointer (some ⟨p, 0, none⟩), .int .i64 (c : Int)]] #[]] W fun e w' =>
      e = .returned (firstV (firstP s k c)) ∧ Below w.heap.size w w' ∧ (∀ k', k' < 3 → k' ≠ k → OrdAt w' w.heap.size (w.heap.size + 2 + 2 * k') (g k') (cc k') (Ls k')) ∧ w'.heap[w.heap.size]? = some (.map (ent3 w.heap.size) 3) := by
  refine (first_pool h hT c (by omega) ht.low (ht.ord k hk) (fun x hx => ?_) (ht.heap k hk)).mono ?_
  · have := (hp k hk).mem_iff.1 hx
    simp [candN] at this
    exact this.1
  rintro e w' ⟨r, rfl, hr, htc⟩
  have hgk := (ht.ord k hk).glt
  have hmlt := (Array.getElem?_eq_some_iff.1 ht.map).1
  refine ⟨by rw [first_is h.ntk (hp k hk) hr], ht.low.trans (htc.below ht.low.size (fun b hb => by rcases hb with rfl | rfl; omega; exact hgk.1)), fun k' hk' hne => ?_, ?_⟩
  · have a1 := ht.apart k k' hk hk' (fun e => hne e.symm)
    have a2 := ht.apart k' k hk' hk hne
    exact (ht.ord k' hk').touch htc (fun e => by rcases e with e | e; omega; exact a1.2 e.symm) (fun e => by rcases e with e | e; exact a2.2 e; exact a2.1 e)
  · refine (htc.block _ hmlt (fun e => ?_)).trans ht.map
    rcases e with e | e
    · omega
    · rcases (ht.ord k hk).row.2 with ⟨h', _⟩ | ⟨g2, cap, cur, hv, hB, hg2, _⟩
      · cases h'
      · simp only [Value.slice.injEq, Option.some.injEq, Addr.mk.injEq, and_true, true_and] at hv
        obtain ⟨rfl, rfl⟩ := hv
        have := ht.map
        rw [e, hg2] at this
        cases this

end Go.Proofs.YtklcklflnkbccaaGreatDoor

/- The pool: blocks that are taken, and held. Plain words alone, no program in sight. -/
namespace Go.Proofs.YtklcklflnkbccaaGreatDoor

theorem lowN_no {n many k : Nat} (h : lowN n many = some k) : n.testBit k = false := by
  unfold lowN at h
  have := List.find?_some h
  simpa using this
theorem lowN_all {n many : Nat} (h : lowN n many = none) : ∀ i, i < many → n.testBit i = true := by
  unfold lowN at h
  rw [List.find?_eq_none] at h
  intro i hi
  simpa using h i (List.mem_range.2 hi)

theorem OkW.class_ne {w : Nat} (h : OkW w) (hw : w ≠ 0) : ∃ c, SW w c := h.resolve_left hw
theorem OkW.zero {w : Nat} (h : OkW w) (hc : classW w = 0) : w = 0 := by
  rcases h with h | ⟨c, h⟩
  · exact h
  · rw [h.class] at hc; have := h.cls; omega
theorem OkW.cls {w c : Nat} (h : OkW w) (hc : classW w = c) (h0 : c ≠ 0) : SW w c := by
  rcases h with rfl | ⟨d, h⟩
  · rw [class_zero] at hc; exact absurd hc.symm h0
  · rw [h.class] at hc; subst hc; exact h
theorem SW.has_cls {w c a : Nat} (h : SW w c) (ha : hasW w a = true) : a < blocksN c := by
  rw [h.has, Bool.and_eq_true, decide_eq_true_eq] at ha; exact ha.1

/-- What is so of a pool between its calls. -/
structure PoolOk (L : Nat) (s : St) : Prop where
  sh : ShOk L s.sh
  L1 : L ≤ 1024
  ntk : s.tk.length = s.sh.slabs
  nhd : s.hd.length = s.sh.slabs
  tk : ∀ i, i < s.sh.slabs → OkW (tkN s i)
  hd : ∀ i, i < s.sh.slabs → OkW (hdN s i)
  cls : ∀ i, i < s.sh.slabs → tkN s i = 0 ∨ hdN s i = 0 ∨ classW (tkN s i) = classW (hdN s i)
  dis : ∀ i a, i < s.sh.slabs → hasW (tkN s i) a = true → hasW (hdN s i) a = false
  tab : ∀ i, i < s.sh.slabs → s.ws (16 + i) = s.tk.getD i 0

/-- A block of class c at off: taken, held. -/
def TakenAt (s : St) (off c : Nat) : Prop := ∃ i a, i < s.sh.slabs ∧ hasW (tkN s i) a = true ∧ classW (tkN s i) = c ∧ off = placeN s.sh i c a
def HeldAt (s : St) (off c : Nat) : Prop := ∃ i a, i < s.sh.slabs ∧ hasW (hdN s i) a = true ∧ classW (hdN s i) = c ∧ off = placeN s.sh i c a

theorem lines_blocks {c : Nat} (h : c = 1 ∨ c = 2) : linesN c * blocksN c = 16 ∧ 0 < linesN c ∧ 0 < blocksN c ∧ linesN c ≤ 4 := by
  rcases h with rfl | rfl <;> decide

theorem place_in {sh : Sh} {i c a : Nat} (hc : c = 1 ∨ c = 2) (ha : a < blocksN c) : sh.data + 1024 * i ≤ placeN sh i c a ∧ placeN sh i c a + 64 * linesN c ≤ sh.data + 1024 * (i + 1) := by
  obtain ⟨h1, h2, h3, _⟩ := lines_blocks hc
  unfold placeN
  have h4 : linesN c * (a + 1) ≤ 16 := by rw [← h1]; exact Nat.mul_le_mul_left _ ha
  rw [Nat.mul_add, Nat.mul_one] at h4
  rw [Nat.mul_assoc]
  omega
theorem place_inj {sh : Sh} {i j c d a b : Nat} (hc : c = 1 ∨ c = 2) (hd : d = 1 ∨ d = 2) (ha : a < blocksN c) (hb : b < blocksN d) (h : placeN sh i c a = placeN sh j d b) : i = j := by
  have h1 := place_in (sh := sh) (i := i) hc ha
  have h2 := place_in (sh := sh) (i := j) hd hb
  have h3 := (lines_blocks hc).2.1
  have h4 := (lines_blocks hd).2.1
  rcases Nat.lt_trichotomy i j with h5 | h5 | h5
  · omega
  · exact h5
  · omega
theorem place_inj' {sh : Sh} {i c a b : Nat} (hc : c = 1 ∨ c = 2) (h : placeN sh i c a = placeN sh i c b) : a = b := by
  unfold placeN at h
  have h2 := (lines_blocks hc).2.1
  have : 64 * linesN c * a = 64 * linesN c * b := by omega
  exact Nat.eq_of_mul_eq_mul_left (by omega) this
/-- Two blocks of one slab's class, or of two slabs, have nothing in common. -/
theorem place_apart {sh : Sh} {i j c d a b : Nat} (hc : c = 1 ∨ c = 2) (hd : d = 1 ∨ d = 2) (ha : a < blocksN c) (hb : b < blocksN d) (hcd : i = j → c = d) (h : placeN sh i c a ≠ placeN sh j d b) :
    placeN sh i c a + 64 * linesN c ≤ placeN sh j d b ∨ placeN sh j d b + 64 * linesN d ≤ placeN sh i c a := by
  have h1 := place_in (sh := sh) (i := i) hc ha
  have h2 := place_in (sh := sh) (i := j) hd hb
  rcases Nat.lt_trichotomy i j with h5 | h5 | h5
  · omega
  · subst h5
    obtain rfl := hcd rfl
    have hab : a ≠ b := fun e => h (by rw [e])
    unfold placeN
    rcases Nat.lt_or_gt_of_ne hab with h6 | h6
    · have := Nat.mul_le_mul_left (64 * linesN c) h6
      rw [Nat.succ_eq_add_one, Nat.mul_add, Nat.mul_one] at this
      omega
    · have := Nat.mul_le_mul_left (64 * linesN c) h6
      rw [Nat.succ_eq_add_one, Nat.mul_add, Nat.mul_one] at this
      omega
  · omega

section
variable {L : Nat} {s : St}

theorem PoolOk.both (ok : PoolOk L s) {i : Nat} (hi : i < s.sh.slabs) : OkW (tkN s i ||| hdN s i) ∧ (∀ a, hasW (tkN s i ||| hdN s i) a = (hasW (tkN s i) a || hasW (hdN s i) a)) ∧ (tkN s i ≠ 0 → classW (tkN s i ||| hdN s i) = classW (tkN s i)) ∧ (hdN s i ≠ 0 → classW (tkN s i ||| hdN s i) = classW (hdN s i)) := both_word (ok.tk i hi) (ok.hd i hi) (ok.cls i hi)
theorem PoolOk.tk_cls (ok : PoolOk L s) {i a : Nat} (hi : i < s.sh.slabs) (ha : hasW (tkN s i) a = true) : ∃ c, SW (tkN s i) c ∧ classW (bothN s i) = c ∧ a < blocksN c := by
  obtain ⟨c, hS, hb, _⟩ := (ok.tk i hi).has_lt ha
  exact ⟨c, hS, by unfold bothN; rw [(ok.both hi).2.2.1 hS.ne, hS.class], hb⟩
theorem PoolOk.hd_cls (ok : PoolOk L s) {i a : Nat} (hi : i < s.sh.slabs) (ha : hasW (hdN s i) a = true) : ∃ c, SW (hdN s i) c ∧ classW (bothN s i) = c ∧ a < blocksN c := by
  obtain ⟨c, hS, hb, _⟩ := (ok.hd i hi).has_lt ha
  exact ⟨c, hS, by unfold bothN; rw [(ok.both hi).2.2.2 hS.ne, hS.class], hb⟩

theorem find_place (ok : PoolOk L s) {i c a : Nat} (hi : i < s.sh.slabs) (hc : classW (bothN s i) = c) (h12 : c = 1 ∨ c = 2) (ha : a < blocksN c) : findP s (placeN s.sh i c a : Nat) = some (i, a) := by
  have h1 := place_in (sh := s.sh) (i := i) h12 ha
  obtain ⟨h2, h3, h4, h5⟩ := lines_blocks h12
  have hlen := ok.ntk
  have e1 : (placeN s.sh i c a - s.sh.data) / 1024 = i := by omega
  have e2 : (placeN s.sh i c a - s.sh.data) % 1024 = 64 * linesN c * a := by
    have : placeN s.sh i c a - s.sh.data = 1024 * i + 64 * linesN c * a := by unfold placeN; omega
    omega
  unfold findP
  rw [if_neg (by omega)]
  simp only [Int.toNat_natCast, e1, e2, hc]
  rw [if_neg (by rw [Nat.mul_mod_right]; omega), Nat.mul_div_cancel_left _ (by omega)]
theorem find_inv (ok : PoolOk L s) {off : Int} {i a : Nat} (h : findP s off = some (i, a)) : i < s.sh.slabs ∧ (classW (bothN s i) = 1 ∨ classW (bothN s i) = 2) ∧ a < blocksN (classW (bothN s i)) ∧ off = (placeN s.sh i (classW (bothN s i)) a : Nat) := by
  have hlen := ok.ntk
  unfold findP at h
  split at h
  · cases h
  · rename_i h1
    split at h
    · cases h
    · rename_i h2
      simp only [Option.some.injEq, Prod.mk.injEq] at h
      obtain ⟨rfl, rfl⟩ := h
      have hi : (off.toNat - s.sh.data) / 1024 < s.sh.slabs := by omega
      generalize hc : classW (bothN s ((off.toNat - s.sh.data) / 1024)) = c at h2 ⊢
      have h12 : c = 1 ∨ c = 2 := by
        unfold linesN at h2
        split at h2
        · exact .inl rfl
        · exact .inr rfl
        · simp at h2
      obtain ⟨h3, h4, h5, h6⟩ := lines_blocks h12
      have hdm := Nat.div_add_mod ((off.toNat - s.sh.data) % 1024) (64 * linesN c)
      have hmod : (off.toNat - s.sh.data) % 1024 % (64 * linesN c) = 0 := by omega
      have hlt : (off.toNat - s.sh.data) % 1024 < 1024 := Nat.mod_lt _ (by decide)
      refine ⟨hi, h12, ?_, ?_⟩
      · refine Nat.div_lt_of_lt_mul ?_
        rw [Nat.mul_assoc, h3]; exact hlt
      · unfold placeN
        rw [hmod, Nat.add_zero] at hdm
        rw [hdm]
        omega

theorem TakenAt.cls (ok : PoolOk L s) {off c : Nat} (h : TakenAt s off c) : c = 1 ∨ c = 2 := by
  obtain ⟨i, a, hi, ha, rfl, _⟩ := h
  obtain ⟨c, hS, _, _⟩ := ok.tk_cls hi ha
  rw [hS.class]; exact hS.cls
theorem TakenAt.class (ok : PoolOk L s) {off c : Nat} (h : TakenAt s off c) : classP s off = c := by
  have h12 := h.cls ok
  obtain ⟨i, a, hi, ha, hc, rfl⟩ := h
  obtain ⟨d, hS, hb, hlt⟩ := ok.tk_cls hi ha
  have e : c = d := by rw [← hc, hS.class]
  subst e
  unfold classP
  rw [find_place ok hi hb h12 hlt]
  simp only [ha, if_true, hc]
theorem taken_of_class (ok : PoolOk L s) {off : Int} {c : Nat} (h : classP s off = c) (h0 : c ≠ 0) : ∃ o : Nat, off = o ∧ TakenAt s o c := by
  unfold classP at h
  split at h
  · exact absurd h.symm h0
  · rename_i i a hf
    obtain ⟨hi, h12, hlt, he⟩ := find_inv ok hf
    split at h
    · rename_i ha
      obtain ⟨d, hS, hb, _⟩ := ok.tk_cls hi ha
      refine ⟨_, he, i, a, hi, ha, h, ?_⟩
      rw [hb, ← h, hS.class]
    · exact absurd h.symm h0
theorem TakenAt.uniq (ok : PoolOk L s) {off c d : Nat} (h : TakenAt s off c) (k : TakenAt s off d) : c = d := by rw [← h.class ok, ← k.class ok]
theorem TakenAt.bounds (ok : PoolOk L s) {off c : Nat} (h : TakenAt s off c) : s.sh.data ≤ off ∧ off + 64 * linesN c ≤ 64 * L ∧ off % 64 = 0 := by
  have h12 := h.cls ok
  obtain ⟨i, a, hi, ha, hc, rfl⟩ := h
  obtain ⟨d, hS, hb, hlt⟩ := ok.tk_cls hi ha
  have e : c = d := by rw [← hc, hS.class]
  subst e
  have h1 := place_in (sh := s.sh) (i := i) h12 hlt
  have := ok.sh.fits
  have := ok.sh.data
  refine ⟨by omega, by omega, ?_⟩
  unfold placeN
  rw [Nat.mul_assoc]
  omega
theorem HeldAt.cls (ok : PoolOk L s) {off c : Nat} (h : HeldAt s off c) : c = 1 ∨ c = 2 := by
  obtain ⟨i, a, hi, ha, rfl, _⟩ := h
  obtain ⟨c, hS, _, _⟩ := ok.hd_cls hi ha
  rw [hS.class]; exact hS.cls
theorem HeldAt.bounds (ok : PoolOk L s) {off c : Nat} (h : HeldAt s off c) : s.sh.data ≤ off ∧ off + 64 * linesN c ≤ 64 * L ∧ off % 64 = 0 := by
  have h12 := h.cls ok
  obtain ⟨i, a, hi, ha, hc, rfl⟩ := h
  obtain ⟨d, hS, hb, hlt⟩ := ok.hd_cls hi ha
  have e : c = d := by rw [← hc, hS.class]
  subst e
  have h1 := place_in (sh := s.sh) (i := i) h12 hlt
  have := ok.sh.fits
  have := ok.sh.data
  refine ⟨by omega, by omega, ?_⟩
  unfold placeN
  rw [Nat.mul_assoc]
  omega
theorem taken_apart (ok : PoolOk L s) {o p c d : Nat} (h : TakenAt s o c) (k : TakenAt s p d) (hne : o ≠ p) : o + 64 * linesN c ≤ p ∨ p + 64 * linesN d ≤ o := by
  have h12 := h.cls ok
  have k12 := k.cls ok
  obtain ⟨i, a, hi, ha, hc, rfl⟩ := h
  obtain ⟨j, b, hj, hb, hd, rfl⟩ := k
  obtain ⟨c', hS, _, hlt⟩ := ok.tk_cls hi ha
  obtain ⟨d', hS', _, hlt'⟩ := ok.tk_cls hj hb
  rw [hS.class] at hc
  rw [hS'.class] at hd
  subst hc hd
  refine place_apart h12 k12 hlt hlt' (fun e => ?_) hne
  subst e
  rw [← hS.class, ← hS'.class]
theorem held_apart (ok : PoolOk L s) {o p c d : Nat} (h : HeldAt s o c) (k : TakenAt s p d) : o ≠ p ∧ (o + 64 * linesN c ≤ p ∨ p + 64 * linesN d ≤ o) := by
  have h12 := h.cls ok
  have k12 := k.cls ok
  obtain ⟨i, a, hi, ha, hc, rfl⟩ := h
  obtain ⟨j, b, hj, hb, hd, rfl⟩ := k
  obtain ⟨c', hS, hbo, hlt⟩ := ok.hd_cls hi ha
  obtain ⟨d', hS', hbo', hlt'⟩ := ok.tk_cls hj hb
  rw [hS.class] at hc
  rw [hS'.class] at hd
  subst hc hd
  have hcd : i = j → c' = d' := fun e => by subst e; rw [← hbo, ← hbo']
  have hne : placeN s.sh i c' a ≠ placeN s.sh j d' b := fun e => by
    obtain rfl := place_inj h12 k12 hlt hlt' e
    obtain rfl := hcd rfl
    obtain rfl := place_inj' h12 e
    rw [ok.dis i a hi hb] at ha; cases ha
  exact ⟨hne, place_apart h12 k12 hlt hlt' hcd hne⟩
end

end Go.Proofs.YtklcklflnkbccaaGreatDoor

/- The pool: what Reserve, Take and Drop do to its blocks. Plain words alone, no program in sight. -/
namespace Go.Proofs.YtklcklflnkbccaaGreatDoor

theorem ofNat_toNat_lt {n : Nat} (h : n < 2 ^ 64) : (UInt64.ofNat n).toNat = n := by
  rw [UInt64.toNat_ofNat']; exact Nat.mod_eq_of_lt h

theorem getD_set {α : Type} (l : List α) (i j : Nat) (x z : α) (hi : i < l.length) : (l.set i x).getD j z = if j = i then x else l.getD j z := by
  rw [List.getD_eq_getElem?_getD, List.getD_eq_getElem?_getD, List.getElem?_set]
  by_cases h : i = j
  · subst h; simp [hi]
  · rw [if_neg h, if_neg (fun e => h e.symm)]

section
variable {L : Nat} {s : St}

theorem PoolOk.table (ok : PoolOk L s) : s.sh.table = 128 := ok.sh.table
/-- Other words of the device, ahead of the data not turned. -/
theorem PoolOk.words (ok : PoolOk L s) {ws' : Nat → UInt64} (h : ∀ i, i < s.sh.slabs → ws' (16 + i) = s.ws (16 + i)) : PoolOk L { s with ws := ws' } :=
  ⟨ok.sh, ok.L1, ok.ntk, ok.nhd, ok.tk, ok.hd, ok.cls, ok.dis, fun i hi => (h i hi).trans (ok.tab i hi)⟩

/-- The words of a block. -/
def inBlk (off c j : Nat) : Prop := off / 8 ≤ j ∧ j < off / 8 + 8 * linesN c
theorem apart_words {o p c d j : Nat} (h : o + 64 * linesN c ≤ p ∨ p + 64 * linesN d ≤ o) (ho : o % 64 = 0) (hp : p % 64 = 0) (k : inBlk o c j) : ¬ inBlk p d j := by
  unfold inBlk at *
  omega
theorem PoolOk.table_words (ok : PoolOk L s) {off c j : Nat} (h1 : s.sh.data ≤ off) (h2 : inBlk off c j) : 16 + s.sh.slabs ≤ j := by
  have := ok.sh.tfits
  unfold inBlk at h2
  omega

theorem slabFor_pick {c i a : Nat} (h : slabFor s c = some i) (h2 : nextW (bothN s i) c = some a) : i < s.tk.length ∧ (classW (bothN s i) = c ∨ classW (bothN s i) = 0) := by
  unfold slabFor at h
  split at h
  · rename_i j hj
    injection h with h; subst h
    unfold firstP at hj
    have h3 := List.find?_some hj
    have h4 := List.mem_of_find?_eq_some hj
    rw [Bool.and_eq_true, decide_eq_true_eq] at h3
    exact ⟨List.mem_range.1 h4, .inl h3.1⟩
  · unfold firstP at h
    have h3 := List.find?_some h
    have h4 := List.mem_of_find?_eq_some h
    rw [Bool.and_eq_true, decide_eq_true_eq] at h3
    exact ⟨List.mem_range.1 h4, .inr h3.1⟩

/-- What Reserve does. -/
theorem reserve_ok (ok : PoolOk L s) {c off : Nat} {s1 : St} (hc : c = 1 ∨ c = 2) (h : reserveP s c = some (off, s1)) :
    PoolOk L s1 ∧ s1.ws = s.ws ∧ s1.sh = s.sh ∧ s1.tk = s.tk ∧ HeldAt s1 off c ∧ (∀ o d, HeldAt s o d → HeldAt s1 o d) ∧ (∀ o d, HeldAt s1 o d → HeldAt s o d ∨ o = off) ∧ ∀ o d, TakenAt s1 o d ↔ TakenAt s o d := by
  unfold reserveP at h
  split at h
  · cases h
  · rename_i i hi
    split at h
    · cases h
    · rename_i a ha
      simp only [Option.some.injEq, Prod.mk.injEq] at h
      obtain ⟨rfl, rfl⟩ := h
      obtain ⟨hilt, hcl⟩ := slabFor_pick hi ha
      have hil : i < s.sh.slabs := by rw [← ok.ntk]; exact hilt
      obtain ⟨hbo, hbh, hbt, hbh2⟩ := ok.both hil
      have hab : a < blocksN c ∧ (takenN (bothN s i)).testBit a = false := by
        unfold nextW at ha
        split at ha
        · exact ⟨lowN_lt ha, lowN_no ha⟩
        · cases ha
      have hb16 : blocksN c ≤ 16 := by rcases hc with rfl | rfl <;> decide
      have hbit : (bothN s i).testBit a = false := by
        have := hab.2
        unfold takenN at this
        rw [tb_fieldN, Nat.zero_add, Bool.and_eq_false_iff, decide_eq_false_iff_not] at this
        rcases this with h | h
        · omega
        · exact h
      have hnb : hasW (bothN s i) a = false := by
        unfold hasW
        rw [field1, hbit, Bool.and_false]
      have hnn := hbh a
      rw [show tkN s i ||| hdN s i = bothN s i from rfl, hnb] at hnn
      obtain ⟨hnt, hnh⟩ : hasW (tkN s i) a = false ∧ hasW (hdN s i) a = false := by
        cases h1 : hasW (tkN s i) a <;> cases h2 : hasW (hdN s i) a <;> rw [h1, h2] at hnn <;> first | exact ⟨rfl, rfl⟩ | cases hnn
      have hdc : hdN s i = 0 ∨ SW (hdN s i) c := by
        rcases ok.hd i hil with h1 | ⟨d, h1⟩
        · exact .inl h1
        · have e := hbh2 h1.ne
          rw [show tkN s i ||| hdN s i = bothN s i from rfl, h1.class] at e
          have := h1.cls
          rcases hcl with h2 | h2
          · rw [e] at h2; subst h2; exact .inr h1
          · omega
      have htc : tkN s i = 0 ∨ classW (tkN s i) = c := by
        rcases ok.tk i hil with h1 | ⟨d, h1⟩
        · exact .inl h1
        · have e := hbt h1.ne
          rw [show tkN s i ||| hdN s i = bothN s i from rfl, h1.class] at e
          have := h1.cls
          rcases hcl with h2 | h2
          · rw [e] at h2; subst h2; exact .inr h1.class
          · omega
      obtain ⟨_, hS, hhas⟩ := take_word (ok.hd i hil) hc hdc hab.1 hnh
      have hu := ofNat_toNat_lt hS.lt
      have hhd : ∀ j, hdN { s with hd := s.hd.set i (UInt64.ofNat (takeW (hdN s i) c a).1) } j = if j = i then (takeW (hdN s i) c a).1 else hdN s j := fun j => by
        show ((s.hd.set i _).getD j 0).toNat = _
        rw [getD_set _ _ _ _ _ (by rw [ok.nhd]; exact hil)]
        split
        · exact hu
        · rfl
      have htk : ∀ j, tkN { s with hd := s.hd.set i (UInt64.ofNat (takeW (hdN s i) c a).1) } j = tkN s j := fun j => rfl
      refine ⟨⟨ok.sh, ok.L1, ok.ntk, by simp [ok.nhd], ok.tk, fun j hj => ?_, fun j hj => ?_, fun j b hj hb => ?_, ok.tab⟩, rfl, rfl, rfl, ⟨i, a, hil, ?_, ?_, rfl⟩, ?_, ?_, fun o d => Iff.rfl⟩
      · rw [hhd]; split
        · exact .inr ⟨c, hS⟩
        · exact ok.hd j hj
      · rw [hhd, htk]
        by_cases e : j = i
        · subst e
          rw [if_pos rfl, hS.class]
          exact htc.imp id .inr
        · rw [if_neg e]; exact ok.cls j hj
      · rw [hhd]
        rw [htk] at hb
        by_cases e : j = i
        · subst e
          rw [if_pos rfl, hhas b, ok.dis j b hj hb, Bool.false_or, decide_eq_false_iff_not]
          intro e2
          subst e2
          rw [hnt] at hb; cases hb
        · rw [if_neg e]; exact ok.dis j b hj hb
      · rw [hhd, if_pos rfl, hhas a]; simp
      · rw [hhd, if_pos rfl, hS.class]
      · rintro o d ⟨j, b, hj, hb, hd, ho⟩
        refine ⟨j, b, hj, ?_, ?_, ho⟩
        · rw [hhd]
          by_cases e : j = i
          · subst e; rw [if_pos rfl, hhas b, hb]; rfl
          · rw [if_neg e]; exact hb
        · rw [hhd]
          by_cases e : j = i
          · subst e
            obtain ⟨d', hS', _, _⟩ := (ok.hd j hj).has_lt hb
            rw [if_pos rfl, hS.class, ← hd]
            rcases hdc with h0 | h0
            · exact absurd h0 hS'.ne
            · exact h0.class.symm
          · rw [if_neg e]; exact hd
      · rintro o d ⟨j, b, hj, hb, hd, ho⟩
        rw [hhd] at hb hd
        by_cases e : j = i
        · subst e
          rw [if_pos rfl] at hb hd
          rw [hhas b, Bool.or_eq_true, decide_eq_true_eq] at hb
          rw [hS.class] at hd
          subst hd
          rcases hb with hb | rfl
          · obtain ⟨d', hS', _, _⟩ := (ok.hd j hj).has_lt hb
            refine .inl ⟨j, b, hj, hb, ?_, ho⟩
            rcases hdc with h0 | h0
            · exact absurd h0 hS'.ne
            · exact h0.class
          · exact .inr ho
        · rw [if_neg e] at hb hd
          exact .inl ⟨j, b, hj, hb, hd, ho⟩

/-- What Take does to a block that is held. -/
theorem take_ok (ok : PoolOk L s) {c off : Nat} (h : HeldAt s off c) :
    ∃ s1, takeP s off = (s1, 0) ∧ PoolOk L s1 ∧ s1.sh = s.sh ∧ (∀ j, (j < 16 ∨ 16 + s.sh.slabs ≤ j) → s1.ws j = s.ws j) ∧
      (∀ o d, TakenAt s1 o d ↔ TakenAt s o d ∨ (o = off ∧ d = c)) ∧ (∀ o d, HeldAt s1 o d ↔ HeldAt s o d ∧ o ≠ off) := by
  have h12 := h.cls ok
  have h' := h
  obtain ⟨i, a, hi, ha, hc, rfl⟩ := h'
  obtain ⟨c', hS, hbo, hlt⟩ := ok.hd_cls hi ha
  have e : c' = c := by rw [← hc, hS.class]
  subst e
  have hnt : hasW (tkN s i) a = false := by
    cases hb : hasW (tkN s i) a
    · rfl
    · rw [ok.dis i a hi hb] at ha; cases ha
  have htc : tkN s i = 0 ∨ SW (tkN s i) c' := by
    rcases ok.tk i hi with h1 | ⟨d, h1⟩
    · exact .inl h1
    · rcases ok.cls i hi with h2 | h2 | h2
      · exact absurd h2 h1.ne
      · exact absurd h2 hS.ne
      · rw [h1.class, hS.class] at h2; subst h2; exact .inr h1
  obtain ⟨_, hT, hThas⟩ := take_word (ok.tk i hi) h12 htc hlt hnt
  obtain ⟨_, hD, hDhas, hDcl⟩ := drop_word (ok.hd i hi) ha
  have hu1 := ofNat_toNat_lt hT.lt
  have hu2 := ofNat_toNat_lt hD.lt
  have hil1 : i < s.tk.length := by rw [ok.ntk]; exact hi
  have hil2 : i < s.hd.length := by rw [ok.nhd]; exact hi
  obtain ⟨s1, hs1⟩ : ∃ s1, s1 = ({ putP s i (UInt64.ofNat (takeW (tkN s i) (classW (hdN s i)) a).1) with hd := s.hd.set i (UInt64.ofNat (dropW (hdN s i) a).1) } : St) := ⟨_, rfl⟩
  have htk : ∀ j, tkN s1 j = if j = i then (takeW (tkN s i) c' a).1 else tkN s j := fun j => by
    rw [hs1]
    show ((s.tk.set i _).getD j 0).toNat = _
    rw [getD_set _ _ _ _ _ hil1, hc]
    split
    · exact hu1
    · rfl
  have hhd : ∀ j, hdN s1 j = if j = i then (dropW (hdN s i) a).1 else hdN s j := fun j => by
    rw [hs1]
    show ((s.hd.set i _).getD j 0).toNat = _
    rw [getD_set _ _ _ _ _ hil2]
    split
    · exact hu2
    · rfl
  have hsh : s1.sh = s.sh := by rw [hs1]; rfl
  have hws : ∀ j, s1.ws j = if j = 16 + i then UInt64.ofNat (takeW (tkN s i) c' a).1 else s.ws j := fun j => by
    rw [hs1]
    show put1 s.ws (s.sh.table / 8 + i) _ j = _
    rw [ok.table, hc]; rfl
  refine ⟨s1, ?_, ⟨by rw [hsh]; exact ok.sh, ok.L1, by rw [hs1]; show (s.tk.set i _).length = _; rw [List.length_set]; exact ok.ntk, by rw [hs1]; show (s.hd.set i _).length = _; rw [List.length_set]; exact ok.nhd, fun j hj => ?_, fun j hj => ?_, fun j hj => ?_, fun j b hj hb => ?_, fun j hj => ?_⟩, hsh, fun j hj => ?_, fun o d => ?_, fun o d => ?_⟩
  · unfold takeP
    rw [find_place ok hi hbo h12 hlt]
    simp only [ha, if_true]
    rw [hs1]
  · rw [htk]; split
    · exact .inr ⟨_, hT⟩
    · exact ok.tk j (by rw [← hsh]; exact hj)
  · rw [hhd]; split
    · exact hD
    · exact ok.hd j (by rw [← hsh]; exact hj)
  · rw [htk, hhd]
    by_cases e : j = i
    · rw [if_pos e, if_pos e, hT.class]
      rcases hDcl with h1 | h1
      · exact .inr (.inr (by rw [h1, hS.class]))
      · exact .inr (.inl h1)
    · rw [if_neg e, if_neg e]; exact ok.cls j (by rw [← hsh]; exact hj)
  · rw [htk] at hb
    rw [hhd]
    by_cases e : j = i
    · subst e
      rw [if_pos rfl] at hb ⊢
      rw [hThas, Bool.or_eq_true, decide_eq_true_eq] at hb
      rw [hDhas]
      rcases hb with hb | rfl
      · rw [ok.dis j b hi hb]; rfl
      · simp
    · rw [if_neg e] at hb ⊢
      exact ok.dis j b (by rw [← hsh]; exact hj) hb
  · rw [hws, hs1]
    show _ = (s.tk.set i _).getD j 0
    rw [getD_set _ _ _ _ _ hil1, hc]
    by_cases e : j = i
    · rw [if_pos (by omega), if_pos e]
    · rw [if_neg (by omega), if_neg e]; exact ok.tab j (by rw [← hsh]; exact hj)
  · rw [hws, if_neg (by omega)]
  · constructor
    · rintro ⟨j, b, hj, hb, hd, ho⟩
      rw [hsh] at hj ho
      rw [htk] at hb hd
      by_cases e : j = i
      · subst e
        rw [if_pos rfl] at hb hd
        rw [hT.class] at hd
        subst hd
        rw [hThas, Bool.or_eq_true, decide_eq_true_eq] at hb
        rcases hb with hb | rfl
        · left
          refine ⟨j, b, hj, hb, ?_, ho⟩
          rcases htc with h0 | h0
          · rw [h0, has_zero] at hb; cases hb
          · exact h0.class
        · exact .inr ⟨ho, rfl⟩
      · rw [if_neg e] at hb hd
        exact .inl ⟨j, b, hj, hb, hd, ho⟩
    · rintro (⟨j, b, hj, hb, hd, ho⟩ | ⟨rfl, rfl⟩)
      · refine ⟨j, b, by rw [hsh]; exact hj, ?_, ?_, by rw [hsh]; exact ho⟩
        · rw [htk]
          by_cases e : j = i
          · subst e; rw [if_pos rfl, hThas, hb]; rfl
          · rw [if_neg e]; exact hb
        · rw [htk]
          by_cases e : j = i
          · subst e
            rw [if_pos rfl, hT.class, ← hd]
            rcases htc with h0 | h0
            · rw [h0, has_zero] at hb; cases hb
            · exact h0.class.symm
          · rw [if_neg e]; exact hd
      · exact ⟨i, a, by rw [hsh]; exact hi, by rw [htk, if_pos rfl, hThas]; simp, by rw [htk, if_pos rfl, hT.class], by rw [hsh]⟩
  · constructor
    · rintro ⟨j, b, hj, hb, hd, ho⟩
      rw [hsh] at hj ho
      rw [hhd] at hb hd
      by_cases e : j = i
      · subst e
        rw [if_pos rfl] at hb hd
        rw [hDhas, Bool.and_eq_true, Bool.not_eq_true', decide_eq_false_iff_not] at hb
        have hd' : d = c' := by
          rcases hDcl with h1 | h1
          · rw [h1, hS.class] at hd; exact hd.symm
          · have := hDhas b
            rw [h1, has_zero, hb.1] at this
            simp [hb.2] at this
        subst hd'
        refine ⟨⟨j, b, hj, hb.1, hS.class, ho⟩, fun e2 => ?_⟩
        rw [ho] at e2
        exact hb.2 (place_inj' h12 e2)
      · rw [if_neg e] at hb hd
        refine ⟨⟨j, b, hj, hb, hd, ho⟩, fun e2 => ?_⟩
        obtain ⟨d', hS', hbo', hlt'⟩ := ok.hd_cls hj hb
        have e3 : d' = d := by rw [← hd, hS'.class]
        subst e3
        rw [ho] at e2
        exact e (place_inj hS'.cls h12 hlt' hlt e2)
    · rintro ⟨⟨j, b, hj, hb, hd, ho⟩, hne⟩
      have hbi : j = i → b ≠ a := fun e e2 => by
        subst e e2
        have e3 : d = c' := by rw [← hd, hS.class]
        subst e3
        exact hne ho
      refine ⟨j, b, by rw [hsh]; exact hj, ?_, ?_, by rw [hsh]; exact ho⟩
      · rw [hhd]
        by_cases e : j = i
        · subst e; rw [if_pos rfl, hDhas, hb]; simp [hbi rfl]
        · rw [if_neg e]; exact hb
      · rw [hhd]
        by_cases e : j = i
        · subst e
          rw [if_pos rfl]
          rcases hDcl with h1 | h1
          · rw [h1]; exact hd
          · have := hDhas b
            rw [h1, has_zero, hb] at this
            simp [hbi rfl] at this
        · rw [if_neg e]; exact hd

/-- What Drop does to a block that is taken. -/
theorem drop_ok (ok : PoolOk L s) {c off : Nat} (h : TakenAt s off c) :
    ∃ s1, dropP s off = (s1, 0) ∧ PoolOk L s1 ∧ s1.sh = s.sh ∧ s1.hd = s.hd ∧ (∀ j, (j < 16 ∨ 16 + s.sh.slabs ≤ j) → s1.ws j = s.ws j) ∧
      (∀ o d, TakenAt s1 o d ↔ TakenAt s o d ∧ o ≠ off) := by
  have h12 := h.cls ok
  obtain ⟨i, a, hi, ha, hc, rfl⟩ := h
  obtain ⟨c', hS, hbo, hlt⟩ := ok.tk_cls hi ha
  have e : c' = c := by rw [← hc, hS.class]
  subst e
  have hnh : hasW (hdN s i) a = false := ok.dis i a hi ha
  obtain ⟨hD2, hD, hDhas, hDcl⟩ := drop_word (ok.tk i hi) ha
  have hu2 := ofNat_toNat_lt hD.lt
  have hil1 : i < s.tk.length := by rw [ok.ntk]; exact hi
  obtain ⟨s1, hs1⟩ : ∃ s1, s1 = putP s i (UInt64.ofNat (dropW (tkN s i) a).1) := ⟨_, rfl⟩
  have htk : ∀ j, tkN s1 j = if j = i then (dropW (tkN s i) a).1 else tkN s j := fun j => by
    rw [hs1]
    show ((s.tk.set i _).getD j 0).toNat = _
    rw [getD_set _ _ _ _ _ hil1]
    split
    · exact hu2
    · rfl
  have hhd : ∀ j, hdN s1 j = hdN s j := fun j => by rw [hs1]; rfl
  have hsh : s1.sh = s.sh := by rw [hs1]; rfl
  have hws : ∀ j, s1.ws j = if j = 16 + i then UInt64.ofNat (dropW (tkN s i) a).1 else s.ws j := fun j => by
    rw [hs1]
    show put1 s.ws (s.sh.table / 8 + i) _ j = _
    rw [ok.table]; rfl
  refine ⟨s1, ?_, ⟨by rw [hsh]; exact ok.sh, ok.L1, by rw [hs1]; show (s.tk.set i _).length = _; rw [List.length_set]; exact ok.ntk, by rw [hs1]; exact ok.nhd, fun j hj => ?_, fun j hj => ?_, fun j hj => ?_, fun j b hj hb => ?_, fun j hj => ?_⟩, hsh, by rw [hs1]; rfl, fun j hj => ?_, fun o d => ?_⟩
  · unfold dropP
    rw [find_place ok hi hbo h12 hlt]
    have h0 : (dropW (hdN s i) a).2 = false := by unfold dropW; rw [hnh]; rfl
    simp only [h0, hD2, if_true, Bool.false_eq_true, if_false]
    rw [hs1]
  · rw [htk]; split
    · exact hD
    · exact ok.tk j (by rw [← hsh]; exact hj)
  · rw [hhd]; exact ok.hd j (by rw [← hsh]; exact hj)
  · rw [htk, hhd]
    by_cases e : j = i
    · rw [if_pos e, e]
      rcases hDcl with h1 | h1
      · rw [h1]
        rcases ok.cls i hi with h2 | h2 | h2
        · exact absurd h2 hS.ne
        · exact .inr (.inl h2)
        · exact .inr (.inr h2)
      · exact .inl h1
    · rw [if_neg e]; exact ok.cls j (by rw [← hsh]; exact hj)
  · rw [htk] at hb
    rw [hhd]
    by_cases e : j = i
    · subst e
      rw [if_pos rfl, hDhas, Bool.and_eq_true] at hb
      exact ok.dis j b hi hb.1
    · rw [if_neg e] at hb
      exact ok.dis j b (by rw [← hsh]; exact hj) hb
  · rw [hws, hs1]
    show _ = (s.tk.set i _).getD j 0
    rw [getD_set _ _ _ _ _ hil1]
    by_cases e : j = i
    · rw [if_pos (by omega), if_pos e]
    · rw [if_neg (by omega), if_neg e]; exact ok.tab j (by rw [← hsh]; exact hj)
  · rw [hws, if_neg (by omega)]
  · constructor
    · rintro ⟨j, b, hj, hb, hd, ho⟩
      rw [hsh] at hj ho
      rw [htk] at hb hd
      by_cases e : j = i
      · subst e
        rw [if_pos rfl] at hb hd
        rw [hDhas, Bool.and_eq_true, Bool.not_eq_true', decide_eq_false_iff_not] at hb
        have hd' : d = c' := by
          rcases hDcl with h1 | h1
          · rw [h1, hS.class] at hd; exact hd.symm
          · have := hDhas b
            rw [h1, has_zero, hb.1] at this
            simp [hb.2] at this
        subst hd'
        refine ⟨⟨j, b, hj, hb.1, hS.class, ho⟩, fun e2 => ?_⟩
        rw [ho] at e2
        exact hb.2 (place_inj' h12 e2)
      · rw [if_neg e] at hb hd
        refine ⟨⟨j, b, hj, hb, hd, ho⟩, fun e2 => ?_⟩
        obtain ⟨d', hS', hbo', hlt'⟩ := ok.tk_cls hj hb
        have e3 : d' = d := by rw [← hd, hS'.class]
        subst e3
        rw [ho] at e2
        exact e (place_inj hS'.cls h12 hlt' hlt e2)
    · rintro ⟨⟨j, b, hj, hb, hd, ho⟩, hne⟩
      have hbi : j = i → b ≠ a := fun e e2 => by
        subst e e2
        have e3 : d = c' := by rw [← hd, hS.class]
        subst e3
        exact hne ho
      refine ⟨j, b, by rw [hsh]; exact hj, ?_, ?_, by rw [hsh]; exact ho⟩
      · rw [htk]
        by_cases e : j = i
        · subst e; rw [if_pos rfl, hDhas, hb]; simp [hbi rfl]
        · rw [if_neg e]; exact hb
      · rw [htk]
        by_cases e : j = i
        · subst e
          rw [if_pos rfl]
          rcases hDcl with h1 | h1
          · rw [h1]; exact hd
          · have := hDhas b
            rw [h1, has_zero, hb] at this
            simp [hbi rfl] at this
        · rw [if_neg e]; exact hd
end

end Go.Proofs.YtklcklflnkbccaaGreatDoor
