import Derived.Deep.RegionLaw
import Derived.Test.YtcelabojehaioaaGreatDoorG01
import Derived.Test.YtcelabojehaioaaGreatDoorG07
import Derived.Test.YtcelabojehaioaaGreatDoorG08
import Derived.Test.YtcelabojehaioaaGreatDoorG12
/- Walks of package pool: fits, first, sorted, Reserve. -/
namespace Go.Proofs.YtcelabojehaioaaGreatDoor
open Go.RowKit

theorem TabB.below {w w' : World} (h : TabB w) (k : Below w.heap.size w w') : TabB w' := fun j hj => (k.cell (p := ⟨1, j, none⟩) (World.block_lt_of_cell? w _ (h j hj))).trans (h j hj)

section
variable {w : World} {d p L : Nat} {s : St} {tb hb n cT cH : Nat}

theorem PoolAt.below {w' : World} (h : PoolAt w d p L s tb hb n cT cH) (k : Below w.heap.size w w') : PoolAt w' d p L s tb hb n cT cH := by
  have key : ∀ {a : Addr} {v : Value}, w.cell? a = some v → w'.cell? a = some v := fun {a v} hc => (k.cell (p := a) (World.block_lt_of_cell? w a hc)).trans hc
  exact ⟨key h.y0, key h.y1, key h.y2, key h.y3, key h.y4, key h.y5, key h.y6, fun i hi => key (h.tk i hi), fun i hi => key (h.hd i hi), h.ok, h.L1, h.nsh, h.ntk⟩

/-- A slab has room for a block of a class. -/
def fitsN (s : St) (c i : Nat) : Bool := (nextW (bothN s i) c).isSome

set_option maxHeartbeats 1000000 in
theorem fits_pool (h : PoolAt w d p L s tb hb n cT cH) (hT : TabB w) (c i : Nat) (hi : i < n) (hc : c < 4) :
    Calls Tryz.prog 195 #[.agg #[.pointer (some ⟨p, 0, none⟩), .int .i64 (c : Int)], .int .i64 (i : Int)] w fun e w' => e = .returned (.bool (fitsN s c i)) ∧ Below w.heap.size w w' := by
  have hb0 : Below w.heap.size w (w.alloc (.cells #[.pointer (some ⟨p, 0, none⟩), .int .i64 (c : Int)] 315)) := (Below.refl _ _).alloc (Nat.le_refl _) _
  have h1 := h.below hb0
  have hT1 := hT.below hb0
  have HB := Lib.hid (fun W (k : Dr _ W) => both_pool (h1.dr k) i hi)
  have HN := Lib.hid (fun W (k : Dr _ W) => nextS_any (bothN s i) c W (bothN_lt s i) (by omega) (hT1.dr k))
  have HR : Hid (decide ((0 : Int) ≤ optI (nextW (bothN s i) c)) = fitsN s c i) := Lib.hid (by
    unfold fitsN optI
    cases nextW (bothN s i) c <;> simp)
  clear h h1 hT hT1
  go_enter Tryz.func195, Tryz.ntmps195
  go_wp2_with fail
  go_quiet (first
    | (go_at_call 198; exact q_dr (HB.out _ (Dr.one _ _)))
    | (go_at_call 197; exact q_dr (HN.out _ (Dr.one _ _))))
  go_wp2_with fail
  trace_state
  go_ret
  exact ⟨by rw [← HR.out]; rfl, hb0.trans ((Dr.one _ _).below _)⟩

end

end Go.Proofs.YtcelabojehaioaaGreatDoor

/- Walks of package pool: first. -/
namespace Go.Proofs.YtcelabojehaioaaGreatDoor
open Go.RowKit

/-- What first tells of a list. -/
def FirstOut (F : Nat → Bool) (l : List Nat) : Option Nat → Prop
  | some i => i ∈ l ∧ F i = true ∧ ∀ x ∈ l, F x = true → i ≤ x
  | none => ∀ x ∈ l, F x = false
def firstV : Option Nat → Value
  | some i => .tuple #[.int .i64 (i : Int), .bool true]
  | none => .tuple #[.int .i64 0, .bool false]

/-- How long the order at o is. -/
def lenAt (w : World) (o : Nat) : Nat := match w.cell? ⟨o, 0, none⟩ with
  | some (.slice _ n _) => n
  | _ => 0
theorem OrdAt.lenAt {w : World} {B o g c : Nat} {l : List Nat} (h : OrdAt w B o g c l) : lenAt w o = l.length := by
  have := h.box.cell 0
  unfold Go.Proofs.YtcelabojehaioaaGreatDoor.lenAt
  rw [this]; rfl

set_option maxHeartbeats 4000000 in
set_option maxRecDepth 100000 in
theorem first_pool {w0 w : World} {d p L : Nat} {s : St} {tb hb n cT cH : Nat} (h : PoolAt w0 d p L s tb hb n cT cH) (hT : TabB w0) (c : Nat) (hc : c < 4) (hB : Below w0.heap.size w0 w)
    {o g cc : Nat} {l : List Nat} (ho : OrdAt w w0.heap.size o g cc l) (hl : ∀ x ∈ l, x < n) (hH : HeapTo (keyF id l) l.length) :
    Calls Tryz.prog 196 #[.pointer (some ⟨o, 0, none⟩), .func (.func 195) #[.agg #[.pointer (some ⟨p, 0, none⟩), .int .i64 (c : Int)]] #[]] w fun e w' => ∃ r, e = .returned (firstV r) ∧ FirstOut (fitsN s c) l r ∧ Touch (fun b => b = o ∨ b = g) w w' := by
  have HP := Lib.hid h
  have HTB := Lib.hid hT
  have HL := Lib.hid hl
  have hob := ho.hB
  have hgb := ho.glt.1
  have hws := hB.size
  clear h hT hl
  go_enter Tryz.func196, Tryz.ntmps196
  go_wp2_with fail
  go_loopw [] (fun wr => ∃ l1 P, (P ++ l1).Perm l ∧ (∀ x ∈ P, fitsN s c x = false) ∧ HeapTo (keyF id l1) l1.length ∧ OrdAt wr w0.heap.size o g cc l1 ∧ Touch (fun b => b = o ∨ b = g) w wr) (fun wr => lenAt wr o)
  case atStart => exact ⟨l, [], List.Perm.refl _, by simp, hH, ho, Touch.refl _ _⟩
  case round =>
    obtain ⟨l1, P, hp, hP, hh, ho1, ht1⟩ := hrel
    have hb1 : Below w0.heap.size w0 wr := hB.trans (ht1.below hws (fun k hk => by rcases hk with rfl | rfl <;> assumption))
    have HPm := Lib.hid hp
    have HPf := Lib.hid hP
    have HH := Lib.hid hh
    have HO := Lib.hid ho1
    have HT1 := Lib.hid ht1
    have HB1 := Lib.hid hb1
    have y0 := ho1.box.cell 0
    simp only [List.getElem?_cons_zero] at y0
    have hln := ho1.len
    have HLA := Lib.hid ho1.lenAt
    obtain ⟨m, hm⟩ : ∃ m, l1.length = m := ⟨_, rfl⟩
    rw [hm] at y0 hln
    have HM := Lib.hid hm
    have HLen := Lib.hid (ordLen (some ⟨g, 0, none⟩) m cc wr (by omega))
    clear hp hP hh ho1 ht1 hb1 hm ho hH hB
    rcases m with _ | m
    · go_wp2_with fail
      refine HLen.out.mono ?_
      rintro e w' ⟨rfl, rfl⟩
      go_wp2_with fail
      go_ret2
      have hnil : l1 = [] := List.eq_nil_of_length_eq_zero HM.out
      refine ⟨none, rfl, fun x hx => ?_, HT1.out⟩
      have := HPm.out.mem_iff.2 hx
      rw [hnil, List.append_nil] at this
      exact HPf.out x this
    · have t1 : decide ((0 : Int) < ((m + 1 : Nat) : Int)) = true := decide_eq_true (by omega)
      have HPop := Lib.hid (heapPop HO.out HM.out (by have := HH.out; rw [HM.out] at this; exact this))
      generalize hmm : m + 1 = m1 at y0 HLen t1
      go_wp2_with fail
      refine HLen.out.mono ?_
      rintro e w' ⟨rfl, rfl⟩
      go_wp2_with fail
      refine HPop.out.mono ?_
      rintro e w2 ⟨x, l2, rfl, hp2, hx2, hh2, ho2, ht2⟩
      have hxl : x ∈ l := HPm.out.mem_iff.1 (List.mem_append_right _ (hp2.mem_iff.1 (List.mem_cons_self)))
      have hxn := HL.out x hxl
      have ht3 := HT1.out.trans ht2 (fun b h => .inl h)
      have hb2 : Below w0.heap.size w0 w2 := HB1.out.trans (ht2.below (by have := HB1.out.size; omega) (fun k hk => by rcases hk with rfl | rfl <;> assumption))
      have HF := fits_pool (HP.out.below hb2) (HTB.out.below hb2) c x hxn hc
      have HP2 := Lib.hid hp2
      have HX2 := Lib.hid hx2
      have HH2 := Lib.hid hh2
      have HO2 := Lib.hid ho2
      have HT3 := Lib.hid ht3
      have ta := assert_int (x : Int)
      clear hp2 hx2 hh2 ho2 ht3 ht2 hb2 HPop HLen
      have hl2 : l2.length = m := by have := HP2.out.length_eq; simp only [List.length_cons, HM.out] at this; omega
      have HL2 := Lib.hid hl2
      clear hl2
      cases hf : fitsN s c x
      · rw [hf] at HF
        have HF := Lib.hid HF
        have HFx := Lib.hid hf
        clear hf
        go_wp2_with fail
        refine HF.out.mono ?_
        rintro e w3 ⟨rfl, hb3⟩
        have ho3 := HO2.out.below hb3
        have ht3 := HT3.out.trans (Touch.of_below (F := fun b => b = o ∨ b = g) hb3) (fun b h => .inl h)
        have HLA3 := Lib.hid ho3.lenAt
        have HO3 := Lib.hid ho3
        have HT4 := Lib.hid ht3
        clear ho3 ht3 hb3 ta
        go_wp2_with fail
        go_roundw
        case rel =>
          refine ⟨l2, P ++ [x], ?_, ?_, by rw [HL2.out]; exact HH2.out, HO3.out, HT4.out⟩
          · rw [List.append_assoc]
            exact (List.Perm.append_left P HP2.out).trans HPm.out
          · intro y hy
            rcases List.mem_append.1 hy with h | h
            · exact HPf.out y h
            · rw [List.mem_singleton.1 h]; exact HFx.out
        case measure => show lenAt w3 o < lenAt wr o; rw [HLA3.out, HLA.out, HL2.out, HM.out]; omega
      · rw [hf] at HF
        have HF := Lib.hid HF
        have HFx := Lib.hid hf
        clear hf
        go_wp2_with fail
        refine HF.out.mono ?_
        rintro e w3 ⟨rfl, hb3⟩
        go_wp2_with fail
        go_ret2
        refine ⟨some x, rfl, ⟨hxl, HFx.out, fun y hy hfy => ?_⟩, HT3.out.trans (Touch.of_below (F := fun b => b = o ∨ b = g) hb3) (fun b h => .inl h)⟩
        rcases List.mem_append.1 (HPm.out.mem_iff.2 hy) with h | h
        · rw [HPf.out y h] at hfy; cases hfy
        · exact HX2.out y h

end Go.Proofs.YtcelabojehaioaaGreatDoor

/- Walks of package pool: sorted. -/
namespace Go.Proofs.YtcelabojehaioaaGreatDoor
open Go.RowKit

def ent3 (B : Nat) : Array MapEntry := #[{ key := .int .i64 0, val := .pointer (some ⟨B + 2, 0, none⟩), born := 0 }, { key := .int .i64 1, val := .pointer (some ⟨B + 4, 0, none⟩), born := 1 }, { key := .int .i64 2, val := .pointer (some ⟨B + 6, 0, none⟩), born := 2 }]

/-- Three heaps by class, in a map at block B. -/
structure Tri (w0 W : World) (g cc : Nat → Nat) (Ls : Nat → List Nat) : Prop where
  map : W.heap[w0.heap.size]? = some (.map (ent3 w0.heap.size) 3)
  ord : ∀ c, c < 3 → OrdAt W w0.heap.size (w0.heap.size + 2 + 2 * c) (g c) (cc c) (Ls c)
  heap : ∀ c, c < 3 → HeapTo (keyF id (Ls c)) (Ls c).length
  apart : ∀ c c', c < 3 → c' < 3 → c ≠ c' → g c ≠ g c' ∧ g c ≠ w0.heap.size + 2 + 2 * c'
  low : Below w0.heap.size w0 W

theorem Tri.keep {w0 W W' : World} {g cc : Nat → Nat} {Ls : Nat → List Nat} (h : Tri w0 W g cc Ls) (k : Below W.heap.size W W') : Tri w0 W' g cc Ls :=
  ⟨(k.block _ (Array.getElem?_eq_some_iff.1 h.map).1).trans h.map, fun c hc => (h.ord c hc).below k, h.heap, h.apart, h.low.trans (k.mono h.low.size)⟩

/-- One order's row may have turned: the others stay. -/
theorem Tri.push {w0 W W' : World} {g cc : Nat → Nat} {Ls : Nat → List Nat} (h : Tri w0 W g cc Ls) (c : Nat) (hc : c < 3) {g' c' : Nat} {l' : List Nat} (ho : OrdAt W' w0.heap.size (w0.heap.size + 2 + 2 * c) g' c' l') (hh : HeapTo (keyF id l') l'.length)
    (hg : g' = g c ∨ W.heap.size ≤ g') (t : Touch (fun b => b = w0.heap.size + 2 + 2 * c ∨ b = g c) W W') :
    Tri w0 W' (fun x => if x = c then g' else g x) (fun x => if x = c then c' else cc x) (fun x => if x = c then l' else Ls x) := by
  have hgc := (h.ord c hc).glt
  have hmb : w0.heap.size ≠ g c := fun e => by
    rcases (h.ord c hc).row.2 with ⟨h', _⟩ | ⟨g2, cap, cur, hv, hB, hg2, _⟩
    · cases h'
    · simp only [Value.slice.injEq, Option.some.injEq, Addr.mk.injEq, and_true, true_and] at hv
      obtain ⟨rfl, rfl⟩ := hv
      have := h.map
      rw [e, hg2] at this
      cases this
  have hmlt := (Array.getElem?_eq_some_iff.1 h.map).1
  refine ⟨(t.block _ hmlt (fun e => by rcases e with e | e; omega; exact hmb e)).trans h.map, fun x hx => ?_, fun x hx => ?_, fun x y hx hy hxy => ?_, h.low.trans (t.below h.low.size (fun k hk => by rcases hk with rfl | rfl; omega; exact hgc.1))⟩
  · by_cases e : x = c
    · subst e; simp only [if_true]; exact ho
    · simp only [if_neg e]
      have := h.apart c x hc hx (fun e' => e e'.symm)
      have h2 := h.apart x c hx hc e
      exact (h.ord x hx).touch t (fun e' => by rcases e' with e' | e'; omega; exact this.2 e'.symm) (fun e' => by rcases e' with e' | e'; exact h2.2 e'; exact this.1 e'.symm)
  · by_cases e : x = c
    · simp only [if_pos e]; exact hh
    · simp only [if_neg e]; exact h.heap x hx
  · have hol : ∀ z, z < 3 → w0.heap.size + 2 + 2 * z < W.heap.size := fun z hz => (h.ord z hz).box.lt
    have hgl : ∀ z, z < 3 → g z < W.heap.size := fun z hz => (h.ord z hz).glt.2
    by_cases ex : x = c
    · have ey : ¬ y = c := fun e => hxy (by rw [ex, e])
      simp only [if_pos ex, if_neg ey]
      rcases hg with e | e
      · rw [e, ← ex]; exact h.apart x y hx hy hxy
      · have := hol y hy; have := hgl y hy; omega
    · by_cases ey : y = c
      · simp only [if_neg ex, if_pos ey]
        have hxc := h.apart x c hx hc ex
        refine ⟨?_, by rw [ey]; exact hxc.2⟩
        rcases hg with e | e
        · rw [e]; exact hxc.1
        · have := hgl x hx; omega
      · simp only [if_neg ex, if_neg ey]
        exact h.apart x y hx hy hxy

/-- An empty order is laid. -/
theorem ord_new (W : World) (B : Nat) (hB : B ≤ W.heap.size) : OrdAt ((W.alloc (.cells #[] 3)).alloc (.cells #[.slice (some ⟨W.heap.size, 0, none⟩) 0 0] 351)) B (W.heap.size + 1) W.heap.size 0 [] := by
  have h1 : (W.alloc (.cells #[] 3)).heap.size = W.heap.size + 1 := by simp
  refine ⟨?_, ?_, by omega, by omega, by simp⟩
  · rw [← h1]; exact heap_alloc_new _ _
  · exact own_below (World.ownsRow_made W #[] 0 hB (by decide) rfl) ((Below.refl _ _).alloc (Nat.le_refl _) _)

theorem Tryz.boxMap : Tryz.prog.underlying 312 = some (.map 3 317) := Tryz.underlying312

/-- The three empty orders, and the map of them. -/
theorem tri_start (w W1 W2 W3 : World) (h1 : W1 = putMap (((w.alloc (.map #[] 0)).alloc (.cells #[] 3)).alloc (.cells #[.slice (some ⟨w.heap.size + 1, 0, none⟩) 0 0] 351)) w.heap.size #[{ key := .int .i64 0, val := .pointer (some ⟨w.heap.size + 1 + 1, 0, none⟩), born := 0 }] 1)
    (h2 : W2 = putMap ((W1.alloc (.cells #[] 3)).alloc (.cells #[.slice (some ⟨W1.heap.size, 0, none⟩) 0 0] 351)) w.heap.size #[{ key := .int .i64 0, val := .pointer (some ⟨w.heap.size + 2, 0, none⟩), born := 0 }, { key := .int .i64 1, val := .pointer (some ⟨W1.heap.size + 1, 0, none⟩), born := 1 }] 2)
    (h3 : W3 = putMap ((W2.alloc (.cells #[] 3)).alloc (.cells #[.slice (some ⟨W2.heap.size, 0, none⟩) 0 0] 351)) w.heap.size (ent3 w.heap.size) 3) :
    W1.heap.size = w.heap.size + 3 ∧ W2.heap.size = w.heap.size + 5 ∧ W1.heap[w.heap.size]? = some (.map #[{ key := .int .i64 0, val := .pointer (some ⟨w.heap.size + 1 + 1, 0, none⟩), born := 0 }] 1) ∧ Tri w W3 (fun c => w.heap.size + 1 + 2 * c) (fun _ => 0) (fun _ => []) := by
  have s1 : W1.heap.size = w.heap.size + 3 := by rw [h1, putMap_size]; simp
  have s2 : W2.heap.size = w.heap.size + 5 := by rw [h2, putMap_size]; simp [s1]
  have hs0 : (w.alloc (.map #[] 0)).heap.size = w.heap.size + 1 := by simp
  have b0 : Below w.heap.size w (w.alloc (.map #[] 0)) := (Below.refl _ _).alloc (Nat.le_refl _) _
  have o1 := ord_new (w.alloc (.map #[] 0)) w.heap.size (by omega)
  rw [hs0] at o1
  have t1 := putMap_touch (((w.alloc (.map #[] 0)).alloc (.cells #[] 3)).alloc (.cells #[.slice (some ⟨w.heap.size + 1, 0, none⟩) 0 0] 351)) w.heap.size #[{ key := .int .i64 0, val := .pointer (some ⟨w.heap.size + 1 + 1, 0, none⟩), born := 0 }] 1
  rw [← h1] at t1
  have o1' := o1.touch t1 (by omega) (by omega)
  have l1 : Below w.heap.size w W1 := ((b0.alloc (by simp) _).alloc (by simp; omega) _).trans (t1.below (by simp; omega) (fun k hk => by rw [hk]; exact Nat.le_refl _))
  have m1 : W1.heap[w.heap.size]? = some (.map #[{ key := .int .i64 0, val := .pointer (some ⟨w.heap.size + 1 + 1, 0, none⟩), born := 0 }] 1) := by rw [h1]; exact putMap_at _ _ _ _ (by simp; omega)
  have o2 := ord_new W1 w.heap.size (by omega)
  have b1 : Below W1.heap.size W1 ((W1.alloc (.cells #[] 3)).alloc (.cells #[.slice (some ⟨W1.heap.size, 0, none⟩) 0 0] 351)) := ((Below.refl _ _).alloc (Nat.le_refl _) _).alloc (by simp) _
  have t2 : Touch (fun b => b = w.heap.size) ((W1.alloc (.cells #[] 3)).alloc (.cells #[.slice (some ⟨W1.heap.size, 0, none⟩) 0 0] 351)) W2 := by rw [h2]; exact putMap_touch _ _ _ _
  have o12 := (o1'.below b1).touch t2 (by omega) (by omega)
  have o2' := o2.touch t2 (by omega) (by omega)
  have l2 : Below w.heap.size w W2 := l1.trans ((b1.mono (by omega)).trans (t2.below (by simp; omega) (fun k hk => by rw [hk]; exact Nat.le_refl _)))
  have o3 := ord_new W2 w.heap.size (by omega)
  have b2 : Below W2.heap.size W2 ((W2.alloc (.cells #[] 3)).alloc (.cells #[.slice (some ⟨W2.heap.size, 0, none⟩) 0 0] 351)) := ((Below.refl _ _).alloc (Nat.le_refl _) _).alloc (by simp) _
  have t3 : Touch (fun b => b = w.heap.size) ((W2.alloc (.cells #[] 3)).alloc (.cells #[.slice (some ⟨W2.heap.size, 0, none⟩) 0 0] 351)) W3 := by rw [h3]; exact putMap_touch _ _ _ _
  have o13 := (o12.below b2).touch t3 (by omega) (by omega)
  have o23 := (o2'.below b2).touch t3 (by omega) (by omega)
  have o33 := o3.touch t3 (by omega) (by omega)
  have l3 : Below w.heap.size w W3 := l2.trans ((b2.mono (by omega)).trans (t3.below (by simp; omega) (fun k hk => by rw [hk]; exact Nat.le_refl _)))
  refine ⟨s1, s2, m1, ⟨by rw [h3]; exact putMap_at _ _ _ _ (by simp; omega), fun c hc => ?_, fun c hc k h0 hk => by simp at hk, fun c c' hc hc' hne => by constructor <;> omega, l3⟩⟩
  rw [s1] at o23
  rw [s2] at o33
  match c, hc with
  | 0, _ => exact o13
  | 1, _ => exact o23
  | 2, _ => exact o33

/-- The slabs of a class, of the first k. -/
def candN (s : St) (c k : Nat) : List Nat := (List.range k).filter fun i => decide (classW (bothN s i) = c)
theorem candN_succ (s : St) (c k : Nat) : candN s c (k + 1) = candN s c k ++ if classW (bothN s k) = c then [k] else [] := by
  unfold candN
  rw [List.range_succ, List.filter_append]
  by_cases h : classW (bothN s k) = c <;> simp [h]
theorem candN_le (s : St) (c k : Nat) : (candN s c k).length ≤ k := by
  have := List.length_filter_le (fun i => decide (classW (bothN s i) = c)) (List.range k)
  simpa [candN] using this

theorem classW_lt3 (x : Nat) : classW x < 3 := by
  have h4 := classW_lt x
  by_cases h : classW x = 3
  · exfalso
    unfold classW at h
    split at h
    · rename_i hr
      unfold rightW at hr
      rw [h] at hr
      by_cases h0 : x = 0
      · subst h0; revert h; decide
      · simp [h0, blocksN, fieldN, Nat.mod_one] at hr
    · cases h
  · omega

end Go.Proofs.YtcelabojehaioaaGreatDoor

/- Walks of package pool: sorted. -/
namespace Go.Proofs.YtcelabojehaioaaGreatDoor
open Go.RowKit

set_option maxHeartbeats 4000000 in
set_option maxRecDepth 100000 in
theorem sorted_pool {w : World} {d p L : Nat} {s : St} {tb hb n cT cH : Nat} (h : PoolAt w d p L s tb hb n cT cH) :
    Calls Tryz.prog 194 #[.pointer (some ⟨p, 0, none⟩)] w fun e w' => e = .returned (.map (some w.heap.size)) ∧
      ∃ g cc Ls, Tri w w' g cc Ls ∧ ∀ c, c < 3 → (Ls c).Perm (candN s c n) := by
  have HP := Lib.hid h
  have hplt := World.block_lt_of_cell? w _ h.y5
  have y5 := h.y5
  have hn : n ≤ 64 := by have := h.ok.fits; have := h.L1; have := h.nsh; omega
  have mm := fun W => run_makeMap (P := Tryz.prog) 312 W
  clear h
  go_enter Tryz.func194, Tryz.ntmps194
  go_wp2_with fail
  rw [run_ins Tryz.boxMap Tryz.underlying3 _ _ #[] 0 _ _ ?h1 ?f1]
  case h1 => exact (heap_alloc_old _ _ (by simp; omega)).trans ((heap_alloc_old _ _ (by simp)).trans (heap_alloc_new _ _))
  case f1 => rfl
  obtain ⟨W1, hW1⟩ : ∃ W1, W1 = putMap (((w.alloc (.map #[] 0)).alloc (.cells #[] 3)).alloc (.cells #[.slice (some ⟨w.heap.size + 1, 0, none⟩) 0 0] 351)) w.heap.size #[{ key := .int .i64 0, val := .pointer (some ⟨w.heap.size + 1 + 1, 0, none⟩), born := 0 }] 1 := ⟨_, rfl⟩
  rw [show putMap (((w.alloc (.map #[] 0)).alloc (.cells #[] 3)).alloc (.cells #[.slice (some ⟨w.heap.size + 1, 0, none⟩) 0 0] 351)) w.heap.size (#[].push { key := .int .i64 0, val := .pointer (some ⟨w.heap.size + 1 + 1, 0, none⟩), born := 0 }) (0 + 1) = W1 from hW1.symm]
  have HW1 := Lib.hid hW1
  obtain ⟨s1, -, m1, -⟩ := tri_start w W1 _ _ hW1 rfl rfl
  clear hW1
  go_wp2_with fail
  rw [run_ins Tryz.boxMap Tryz.underlying3 _ _ _ 1 _ _ ?h2 ?f2]
  case h2 => exact (heap_alloc_old _ _ (by simp; omega)).trans ((heap_alloc_old _ _ (by omega)).trans m1)
  case f2 => rfl
  obtain ⟨W2, hW2⟩ : ∃ W2, W2 = putMap ((W1.alloc (.cells #[] 3)).alloc (.cells #[.slice (some ⟨w.heap.size + 3, 0, none⟩) 0 0] 351)) w.heap.size #[{ key := .int .i64 0, val := .pointer (some ⟨w.heap.size + 1 + 1, 0, none⟩), born := 0 }, { key := .int .i64 1, val := .pointer (some ⟨w.heap.size + 3 + 1, 0, none⟩), born := 1 }] 2 := ⟨_, rfl⟩
  rw [show putMap ((W1.alloc (.cells #[] 3)).alloc (.cells #[.slice (some ⟨w.heap.size + 3, 0, none⟩) 0 0] 351)) w.heap.size (#[{ key := .int .i64 0, val := .pointer (some ⟨w.heap.size + 1 + 1, 0, none⟩), born := 0 }].push { key := .int .i64 1, val := .pointer (some ⟨w.heap.size + 3 + 1, 0, none⟩), born := 1 }) (1 + 1) = W2 from hW2.symm]
  have hW2' : W2 = putMap ((W1.alloc (.cells #[] 3)).alloc (.cells #[.slice (some ⟨W1.heap.size, 0, none⟩) 0 0] 351)) w.heap.size #[{ key := .int .i64 0, val := .pointer (some ⟨w.heap.size + 2, 0, none⟩), born := 0 }, { key := .int .i64 1, val := .pointer (some ⟨W1.heap.size + 1, 0, none⟩), born := 1 }] 2 := by rw [hW2, s1]
  have m2 : W2.heap[w.heap.size]? = some (.map #[{ key := .int .i64 0, val := .pointer (some ⟨w.heap.size + 1 + 1, 0, none⟩), born := 0 }, { key := .int .i64 1, val := .pointer (some ⟨w.heap.size + 3 + 1, 0, none⟩), born := 1 }] 2) := by rw [hW2]; exact putMap_at _ _ _ _ (by simp; omega)
  obtain ⟨-, s2, -, -⟩ := tri_start w W1 W2 _ HW1.out hW2' rfl
  have HW2 := Lib.hid hW2'
  clear hW2 hW2' m1
  go_wp2_with fail
  rw [run_ins Tryz.boxMap Tryz.underlying3 _ _ _ 2 _ _ ?h3 ?f3]
  case h3 => exact (heap_alloc_old _ _ (by simp; omega)).trans ((heap_alloc_old _ _ (by omega)).trans m2)
  case f3 => rfl
  obtain ⟨W3, hW3⟩ : ∃ W3, W3 = putMap ((W2.alloc (.cells #[] 3)).alloc (.cells #[.slice (some ⟨w.heap.size + 5, 0, none⟩) 0 0] 351)) w.heap.size (ent3 w.heap.size) 3 := ⟨_, rfl⟩
  rw [show putMap ((W2.alloc (.cells #[] 3)).alloc (.cells #[.slice (some ⟨w.heap.size + 5, 0, none⟩) 0 0] 351)) w.heap.size (#[{ key := .int .i64 0, val := .pointer (some ⟨w.heap.size + 1 + 1, 0, none⟩), born := 0 }, { key := .int .i64 1, val := .pointer (some ⟨w.heap.size + 3 + 1, 0, none⟩), born := 1 }].push { key := .int .i64 2, val := .pointer (some ⟨w.heap.size + 5 + 1, 0, none⟩), born := 2 }) (2 + 1) = W3 from hW3.symm]
  have hW3' : W3 = putMap ((W2.alloc (.cells #[] 3)).alloc (.cells #[.slice (some ⟨W2.heap.size, 0, none⟩) 0 0] 351)) w.heap.size (ent3 w.heap.size) 3 := by rw [hW3, s2]
  obtain ⟨-, -, -, tri0⟩ := tri_start w W1 W2 W3 HW1.out HW2.out hW3'
  have y53 : W3.cell? ⟨p, 5, none⟩ = some (.slice (some ⟨tb, 0, none⟩) n cT) := (HP.out.below tri0.low).y5
  clear hW3 hW3' HW1 HW2 m2 s1 s2 y5 mm
  have HT0 := Lib.hid tri0
  clear tri0
  go_wp2_with fail
  go_loopw [18] (fun i wr => ∃ k g cc Ls, k ≤ n ∧ i = .int .i64 (k : Nat) ∧ Tri w wr g cc Ls ∧ ∀ c, c < 3 → (Ls c).Perm (candN s c k)) (fun i _ => n - (intOf i).toNat)
  case atStart => exact ⟨0, _, _, _, Nat.zero_le _, rfl, HT0.out, fun c _ => List.Perm.refl _⟩
  case round =>
    obtain ⟨k, g, cc, Ls, hk, rfl, htri, hperm⟩ := hrel
    have HTr := Lib.hid htri
    have HPm := Lib.hid hperm
    clear htri hperm HT0 y53
    by_cases hlt : k < n
    · have hcl := classW_lt3 (bothN s k)
      obtain ⟨c, hc⟩ : ∃ c, classW (bothN s k) = c := ⟨_, rfl⟩
      rw [hc] at hcl
      have HC := Lib.hid (classS_any (bothN s k) · (bothN_lt s k))
      rw [hc] at HC
      have HCl := Lib.hid hc
      clear hc
      go_wp2_with fail
      refine (both_pool (HP.out.below HTr.out.low) k hlt).mono ?_
      rintro e w2 ⟨rfl, hd2⟩
      go_wp2_with fail
      refine (HC.out _).mono ?_
      rintro e w3 ⟨rfl, hd3⟩
      have hd := hd2.trans hd3
      have htr3 := HTr.out.keep (hd.below _)
      have HT3 := Lib.hid htr3
      clear htr3 hd2 hd3 hd
      go_wp2_with fail
      rw [run_look Tryz.boxMap Tryz.underlying3 _ _ (ent3 w.heap.size) 3 _ c (.pointer (some ⟨w.heap.size + 2 + 2 * c, 0, none⟩)) ?h4 ?f4]
      case h4 => exact HT3.out.map
      case f4 =>
        match c, hcl with
        | 0, _ => rfl
        | 1, _ => rfl
        | 2, _ => rfl
      have hlen : (Ls c).length < 1000 := by
        have := (HPm.out c hcl).length_eq
        have := candN_le s c k
        omega
      have HPu := Lib.hid (heapPush k (HT3.out.ord c hcl) hlen (HT3.out.heap c hcl))
      go_wp2_with fail
      refine HPu.out.mono ?_
      rintro e w4 ⟨rfl, g', c', l', hp', hh', ho', hg', ht'⟩
      have HT4 := Lib.hid (HT3.out.push c hcl ho' hh' hg' ht')
      have HPm2 : Hid (∀ x, x < 3 → ((fun x => if x = c then l' else Ls x) x).Perm (candN s x (k + 1))) := Lib.hid (fun x hx => by
        rw [candN_succ, HCl.out]
        by_cases e : x = c
        · subst e
          simp only [if_true]
          exact hp'.trans (List.Perm.append_right _ (HPm.out x hx))
        · rw [if_neg (show ¬ c = x from fun h => e h.symm), List.append_nil]
          simp only [if_neg e]
          exact HPm.out x hx)
      clear hp' hh' ho' hg' ht' HPu
      go_wp2_with fail
      go_roundw
      case rel => exact ⟨k + 1, _, _, _, by omega, by go_num, HT4.out, HPm2.out⟩
      case measure => simp [intOf]; omega
    · have hkn : k = n := by omega
      subst hkn
      go_wp2_with fail
      go_ret
      exact ⟨rfl, g, cc, Ls, HTr.out, HPm.out⟩

end Go.Proofs.YtcelabojehaioaaGreatDoor

/- Walks of package pool: Reserve. -/
namespace Go.Proofs.YtcelabojehaioaaGreatDoor
open Go.RowKit

/-- What first tells of the slabs of a class is the first of them in order. -/
theorem first_is {s : St} {c k n : Nat} {l : List Nat} {r : Option Nat} (hn : s.tk.length = n) (hl : l.Perm (candN s k n)) (h : FirstOut (fitsN s c) l r) : firstP s k c = r := by
  have hmem : ∀ x, x ∈ l ↔ x < n ∧ classW (bothN s x) = k := fun x => by rw [hl.mem_iff]; simp [candN]
  unfold firstP
  rw [hn]
  cases r with
  | none =>
    rw [List.find?_eq_none]
    intro x hx
    have hxn : x < n := List.mem_range.1 hx
    by_cases e : classW (bothN s x) = k
    · have := h x ((hmem x).2 ⟨hxn, e⟩)
      unfold fitsN at this
      simp [e, this]
    · simp [e]
  | some i =>
    obtain ⟨h1, h2, h3⟩ := h
    obtain ⟨hin, hik⟩ := (hmem i).1 h1
    rw [List.find?_range_eq_some]
    refine ⟨by unfold fitsN at h2; simp [hik, h2], List.mem_range.2 hin, fun j hj => ?_⟩
    by_cases e : classW (bothN s j) = k
    · by_cases f : fitsN s c j = true
      · have := h3 j ((hmem j).2 ⟨by omega, e⟩) f
        omega
      · unfold fitsN at f
        simp only [Bool.not_eq_true] at f
        simp [e, f]
    · simp [e]

theorem slabFor_some {s : St} {c i : Nat} (h : slabFor s c = some i) : i < s.tk.length ∧ (nextW (bothN s i) c).isSome = true := by
  have key : ∀ k, firstP s k c = some i → i < s.tk.length ∧ (nextW (bothN s i) c).isSome = true := fun k hk => by
    unfold firstP at hk
    have h1 := List.mem_range.1 (List.mem_of_find?_eq_some hk)
    have h2 := List.find?_some hk
    simp only [Bool.and_eq_true] at h2
    exact ⟨h1, h2.2⟩
  unfold slabFor at h
  split at h
  · rename_i j hj
    injection h with h
    subst h
    exact key c hj
  · exact key 0 h

theorem nextW_lt {x c k : Nat} (h : nextW x c = some k) : k < 16 := by
  unfold nextW at h
  split at h
  · have := lowN_lt h
    have := blocksN_le c
    omega
  · cases h

set_option maxHeartbeats 4000000 in
set_option maxRecDepth 100000 in
/-- The slab that is found. -/
theorem reserve_find {w : World} {d p L : Nat} {s : St} {tb hb n cT cH : Nat} (h : PoolAt w d p L s tb hb n cT cH) (hT : TabB w) (c : Nat) (hc1 : 1 ≤ c) (hc2 : c ≤ 2) {W : World} {g cc : Nat → Nat} {Ls : Nat → List Nat} (ht : Tri w W g cc Ls) (hp : ∀ x, x < 3 → (Ls x).Perm (candN s x n)) (k : Nat) (hk : k < 3) :
    Calls Tryz.prog 196 #[.pointer (some ⟨w.heap.size + 2 + 2 * k, 0, none⟩), .func (.func 195) #[.agg #[.pointer (some ⟨p, 0, none⟩), .int .i64 (c : Int)]] #[]] W fun e w' =>
      e = .returned (firstV (firstP s k c)) ∧ Below w.heap.size w w' ∧ (∀ k', k' < 3 → k' ≠ k → OrdAt w' w.heap.size (w.heap.size + 2 + 2 * k') (g k') (cc k') (Ls k')) ∧ w'.heap[w.heap.size]? = some (.map (ent3 w.heap.size) 3) := by
  refine (first_pool h hT c (by omega) ht.low (ht.ord k hk) (fun x hx => ?_) (ht.heap k hk)).mono ?_
  · have := (hp k hk).mem_iff.1 hx
    simp [candN] at this
    exact this.1
  rintro e w' ⟨r, rfl, hr, htc⟩
  have hgk := (ht.ord k hk).glt
  have hmlt := (Array.getElem?_eq_some_iff.1 ht.map).1
  refine ⟨by rw [first_is h.ntk (hp k hk) hr], ht.low.trans (htc.below ht.low.size (fun b hb => by rcases hb with rfl | rfl; omega; exact hgk.1)), fun k' hk' hne => ?_, ?_⟩
  · have a1 := ht.apart k k' hk hk' (fun e => hne e.symm)
    have a2 := ht.apart k' k hk' hk hne
    exact (ht.ord k' hk').touch htc (fun e => by rcases e with e | e; omega; exact a1.2 e.symm) (fun e => by rcases e with e | e; exact a2.2 e; exact a2.1 e)
  · refine (htc.block _ hmlt (fun e => ?_)).trans ht.map
    rcases e with e | e
    · omega
    · rcases (ht.ord k hk).row.2 with ⟨h', _⟩ | ⟨g2, cap, cur, hv, hB, hg2, _⟩
      · cases h'
      · simp only [Value.slice.injEq, Option.some.injEq, Addr.mk.injEq, and_true, true_and] at hv
        obtain ⟨rfl, rfl⟩ := hv
        have := ht.map
        rw [e, hg2] at this
        cases this

end Go.Proofs.YtcelabojehaioaaGreatDoor

/- Walks of package pool: Open. -/
namespace Go.Proofs.YtcelabojehaioaaGreatDoor
open Go.RowKit

theorem Tryz.wordsTyK : RowTyK Tryz.prog 221 23 (.int .u64 0) 1 8 := ⟨Tryz.underlying221, by kernel_rfl, rfl⟩

theorem entry_any (p t i : Nat) (w : World) (y3 : w.cell? ⟨p, 3, none⟩ = some (.int .i64 (t : Int))) (ht : t ≤ 100000) (hi : i ≤ 100000) : Calls Tryz.prog 138 #[.pointer (some ⟨p, 0, none⟩), .int .i64 (i : Int)] w fun e w' => e = .returned (.int .i64 ((t : Int) + 8 * (i : Int))) ∧ w = w' := by
  go_enter Tryz.func138, Tryz.ntmps138
  go_wp2
  go_ret
  exact ⟨by go_num, rfl⟩

theorem wordsAt_succ (ws : Nat → UInt64) (j k : Nat) : (wordsAt ws j (k + 1)).map wv = (wordsAt ws j k).map wv ++ [.int .u64 ((ws (j + k)).toNat : Int)] := by
  simp [wordsAt, List.range_succ, wv]

/-- A round of Open: the taken row has one word more. -/
theorem open_round {W4 w5 w6 : World} {p0 k g6 c6 base : Nat} {v a0 a1 a2 a3 a4 a6 : Value} {ws : Nat → UInt64} {j : Nat} {x : UInt64} (hx : ws (j + k) = x) (_ : base ≤ p0)
    (hP : Blk w5 p0 242 [a0, a1, a2, a3, a4, v, a6]) (hv : (k = 0 ∧ v = .slice none 0 0) ∨ ∃ g c, v = .slice (some ⟨g, 0, none⟩) k c ∧ p0 < g) (hbl : Below p0 W4 w5) (_ : W4.heap.size ≤ w5.heap.size)
    (hO : w6.ownsRow base 23 1 (.slice (some ⟨g6, 0, none⟩) (k + 1) c6) (k + 1) ((wordsAt ws j k).map wv ++ [.int .u64 (x.toNat : Int)])) (hB : Below base w5 w6) (hK : Kept w5 w6 v.ownBlock) (hg : v.ownBlock = some g6 ∨ w5.heap.size ≤ g6) :
    Blk (w6.setCell ⟨p0, 5, none⟩ (.slice (some ⟨g6, 0, none⟩) (k + 1) c6)) p0 242 [a0, a1, a2, a3, a4, .slice (some ⟨g6, 0, none⟩) (k + 1) c6, a6] ∧ p0 < g6 ∧
      (w6.setCell ⟨p0, 5, none⟩ (.slice (some ⟨g6, 0, none⟩) (k + 1) c6)).ownsRow base 23 1 (.slice (some ⟨g6, 0, none⟩) (k + 1) c6) (k + 1) ((wordsAt ws j (k + 1)).map wv) ∧ Below p0 W4 (w6.setCell ⟨p0, 5, none⟩ (.slice (some ⟨g6, 0, none⟩) (k + 1) c6)) := by
  have hne : some p0 ≠ v.ownBlock := fun e => by rcases hv with ⟨_, h⟩ | ⟨g, c, h, hlt⟩ <;> (subst h; simp [Value.ownBlock] at e); omega
  have hpg : p0 < g6 := by
    rcases hg with h | h
    · rcases hv with ⟨_, h'⟩ | ⟨g, c, h', hlt⟩ <;> (subst h'; simp [Value.ownBlock] at h); omega
    · have := hP.lt; omega
  have hP6 : Blk w6 p0 242 [a0, a1, a2, a3, a4, v, a6] := (hK.2 p0 hP.lt hne).trans hP
  refine ⟨hP6.set_ 5 _, hpg, ?_, ?_⟩
  · rw [wordsAt_succ, hx]
    refine own_touch hO ((Touch.refl (fun b => b = p0) w6).setCell (p := ⟨p0, 5, none⟩) (.inl rfl) _) (fun b hb e => ?_)
    have : g6 = b := by simpa [Value.ownBlock] using hb
    omega
  · have hplt := hP.lt
    have hb6 : Below p0 w5 w6 := ⟨hB.os, hB.tape, hB.output, hK.1, fun b hb => hK.2 b (Nat.lt_trans hb hplt) (fun e => by
      rcases hv with ⟨_, h'⟩ | ⟨g, c, h', hlt⟩
      · subst h'; simp [Value.ownBlock] at e
      · subst h'
        have : b = g := by simpa [Value.ownBlock] using e
        omega)⟩
    exact (hbl.trans hb6).setCell (p := ⟨p0, 5, none⟩) (Nat.le_refl _) _

set_option maxHeartbeats 8000000 in
set_option maxRecDepth 100000 in
theorem open_pool {w : World} {d L : Nat} {ws : Nat → UInt64} {own : Nat → Prop} {sh : Sh} (hL0 : 0 < L) (hL : L ≤ 1024) (hs : shapeOf L = some sh) (h : Dev w d L ws (fun _ => 0) (fun _ => 0) own) (hT : Tabs w) (g1 : ¬ own 0) (g2 : ¬ own 1)
    (h8 : wordsAt ws 0 8 = wordsOf sh) (hall : ∀ i, i < sh.slabs → rightW (ws (sh.table / 8 + i)).toNat = true) :
    Calls Tryz.prog 90 #[.pointer (some ⟨d, 0, none⟩)] w fun e w' => ∃ p F, e = .returned (.tuple #[.pointer (some ⟨p, 0, none⟩), .int .i64 0]) ∧
      Sys w' d p L { sh := sh, ws := ws, tk := wordsAt ws (sh.table / 8) sh.slabs, hd := List.replicate sh.slabs 0 } F ∧ Below w.heap.size w w' ∧ ∀ b, F b → own b ∨ w.heap.size ≤ b := by
  have ok := shape_ok hs
  have HO := Lib.hid (open_head hL0 hL hs h hT)
  have HV : Hid (openV ws sh = .tuple #[shV sh, .int .i64 0]) := Lib.hid (by rw [openV, if_pos h8])
  obtain ⟨n, hn⟩ : ∃ x, sh.slabs = x := ⟨_, rfl⟩
  obtain ⟨tb, htb⟩ : ∃ x, sh.table = x := ⟨_, rfl⟩
  obtain ⟨dt, hdt⟩ : ∃ x, sh.data = x := ⟨_, rfl⟩
  obtain ⟨li, hli⟩ : ∃ x, sh.lines = x := ⟨_, rfl⟩
  have hsv : shV sh = .agg #[.int .i64 (li : Int), .int .i64 (n : Int), .int .i64 (tb : Int), .int .i64 (dt : Int)] := by rw [shV, hn, htb, hdt, hli]
  rw [hsv] at HV
  have hn64 : n ≤ 64 := by have := ok.fits; omega
  have htb8 : tb = 128 := by rw [← htb]; exact ok.table
  obtain ⟨i0, hi, hz0, hz1, hz2⟩ := info_parts Tryz.wordsTy.hi
  have hmk : ∀ W : World, (Instr.makeSlice 221 (.int .i64 (n : Int)) (.int .i64 (n : Int))).run Tryz.prog W = .ok (.slice (some ⟨W.heap.size, 0, none⟩) n n) (W.alloc (.cells (madeCells (Value.int .u64 0).cells (n * 1)) 23)) := fun W => by
    have := run_make (P := Tryz.prog) (w := W) 221 23 i0 (.int .u64 0) Tryz.underlying221 hi hz0 .i64 .i64 (n : Int) (n : Int) (by omega) (by omega) (by rw [hz2]; omega) (by omega)
    rw [hz1] at this
    simpa using this
  obtain ⟨zc, hzc⟩ : ∃ zc, madeCells (Value.int .u64 0).cells (n * 1) = zc := ⟨_, rfl⟩
  rw [hzc] at hmk
  have HDb := Lib.hid (fun W (k : Below w.heap.size w W) => (h.below k : Dev W d L ws (fun _ => 0) (fun _ => 0) own))
  have HOk := Lib.hid ok
  have HLt := Lib.hid h.lt
  have HSh := Lib.hid hs
  have HAll := Lib.hid hall
  have htbb : tb ≤ 100000 := by omega
  have HTB8 := Lib.hid htb8
  have HTb := Lib.hid htb
  clear h ok hsv h8 hall hi hz0 hz1 hz2 htb8 htb
  go_enter Tryz.func90, Tryz.ntmps90
  go_wp2_with fail
  refine HO.out.mono ?_
  rintro e w1 ⟨rfl, hb1⟩
  rw [HV.out]
  go_wp2_with fail
  obtain ⟨W2, hW2⟩ : ∃ W2, W2 = w1.alloc (.cells #[.int .i64 (li : Int), .int .i64 (n : Int), .int .i64 (tb : Int), .int .i64 (dt : Int)] 170) := ⟨_, rfl⟩
  have hS2 : Blk W2 w1.heap.size 170 [.int .i64 (li : Int), .int .i64 (n : Int), .int .i64 (tb : Int), .int .i64 (dt : Int)] := by rw [hW2]; exact heap_alloc_new _ _
  have hb2 : Below w.heap.size w W2 := by rw [hW2]; exact hb1.alloc hb1.size _
  rw [← hW2]
  obtain ⟨y0, y1, y2, y3, f0, f1, f2, f3⟩ := blk4' hS2
  have hS2' : Blk (W2.alloc (.cells zc 23)) w1.heap.size 170 [.int .i64 (li : Int), .int .i64 (n : Int), .int .i64 (tb : Int), .int .i64 (dt : Int)] := (heap_alloc_old _ _ hS2.lt).trans hS2
  obtain ⟨x0, x1, x2, x3, _, _, _, _⟩ := blk4' hS2'
  have HS2 := Lib.hid hS2
  have HB2 := Lib.hid hb2
  clear hW2 hS2 hS2' hb2 hb1 HO
  go_region
  obtain ⟨W4, hW4⟩ : ∃ W4, W4 = ((W2.alloc (.cells zc 23)).alloc (.cells #[.pointer (some ⟨d, 0, none⟩), .int .i64 (li : Int), .int .i64 (n : Int), .int .i64 (tb : Int), .int .i64 (dt : Int), .slice none 0 0, .slice (some ⟨W2.heap.size, 0, none⟩) n n] 242)).drew := ⟨_, rfl⟩
  have e1 : (W2.alloc (.cells zc 23)).heap.size = W2.heap.size + 1 := by simp
  have hP4 : Blk W4 (W2.heap.size + 1) 242 [.pointer (some ⟨d, 0, none⟩), .int .i64 (li : Int), .int .i64 (n : Int), .int .i64 (tb : Int), .int .i64 (dt : Int), .slice none 0 0, .slice (some ⟨W2.heap.size, 0, none⟩) n n] := by
    rw [hW4, ← e1]; exact heap_alloc_new _ _
  have hZ4 : W4.heap[W2.heap.size]? = some (.cells zc 23 (0, 0)) := by
    rw [hW4]; exact (heap_alloc_old _ _ (by omega)).trans (heap_alloc_new _ _)
  have hS4 : Blk W4 w1.heap.size 170 [.int .i64 (li : Int), .int .i64 (n : Int), .int .i64 (tb : Int), .int .i64 (dt : Int)] := by
    have := HS2.out.lt
    rw [hW4]; exact (heap_alloc_old _ _ (by omega)).trans ((heap_alloc_old _ _ this).trans HS2.out)
  have hb4 : Below w.heap.size w W4 := by
    have := HB2.out.size
    rw [hW4]; exact ((HB2.out.alloc this _).alloc (by omega) _).trans ((Dr.drew _).below _)
  rw [← hW4]
  have hws := HB2.out.size
  have hs2 := HS2.out.lt
  have hsz4 : W4.heap.size = W2.heap.size + 1 + 1 := by rw [hW4]; show (Array.size _) = _; simp
  clear hW4 x0 x1 x2 x3 y0 y1 y2 y3 f0 f1 f2 f3 e1
  obtain ⟨p0, hp0⟩ : ∃ p0, W2.heap.size + 1 = p0 := ⟨_, rfl⟩
  obtain ⟨h0, hh0⟩ : ∃ h0, W2.heap.size = h0 := ⟨_, rfl⟩
  obtain ⟨s0, hs0⟩ : ∃ s0, w1.heap.size = s0 := ⟨_, rfl⟩
  rw [hp0] at hP4 hsz4 ⊢
  rw [hh0] at hP4 hZ4 hws hs2 hp0 ⊢
  rw [hs0] at hS4 hs2 ⊢
  obtain ⟨y0, y1, y2, y3, f0, f1, f2, f3⟩ := blk4' hS4
  have HP4 := Lib.hid hP4
  have HZ4 := Lib.hid hZ4
  have HS4 := Lib.hid hS4
  have HB4 := Lib.hid hb4
  clear hP4 hZ4 hS4 hb4 HS2 HB2 HV
  go_wp2_with fail
  go_loopw [27] (fun i wr => ∃ k v, k ≤ n ∧ i = .int .i64 (k : Nat) ∧ Blk wr p0 242 [.pointer (some ⟨d, 0, none⟩), .int .i64 (li : Int), .int .i64 (n : Int), .int .i64 (tb : Int), .int .i64 (dt : Int), v, .slice (some ⟨h0, 0, none⟩) n n] ∧
    ((k = 0 ∧ v = .slice none 0 0) ∨ ∃ g c, v = .slice (some ⟨g, 0, none⟩) k c ∧ p0 < g) ∧ wr.ownsRow w.heap.size 23 1 v k ((wordsAt ws (tb / 8) k).map wv) ∧ Below p0 W4 wr) (fun i _ => n - (intOf i).toNat)
  case atStart => exact ⟨0, _, Nat.zero_le _, rfl, HP4.out, .inl ⟨rfl, rfl⟩, World.ownsRow_nil _ _ _ _, Below.refl _ _⟩
  case round =>
    obtain ⟨k, v, hk, rfl, hP, hv, hrow, hbl⟩ := hrel
    have hbw : Below w.heap.size w wr := HB4.out.trans (hbl.mono (by omega))
    have y3' := hP.cell 3
    simp only [List.getElem?_cons_succ, List.getElem?_cons_zero] at y3'
    have HEn := Lib.hid (entry_any p0 tb k wr y3' htbb (by omega))
    have HPk := Lib.hid hP
    have HVk := Lib.hid hv
    have HRw := Lib.hid hrow
    have HBl := Lib.hid hbl
    have HBw := Lib.hid hbw
    clear hP hv hrow hbl y3'
    by_cases hlt : k < n
    · obtain ⟨gd, hbd, hrd, hod⟩ := HDb.out _ hbw
      have HG := get_dev d L ws _ _ gd hbd (tb / 8 + k) 1 wr hL0 hL hrd (by have := HOk.out.fits; have := HOk.out.tfits; have := HTB8.out; omega)
      rw [show ((8 * (tb / 8 + k) : Nat) : Int) = (tb : Int) + 8 * (k : Int) by have := HTB8.out; omega] at HG
      have HG := Lib.hid HG
      clear hrd hod hbw
      go_wp2_with fail
      refine HEn.out.mono ?_
      rintro e w' ⟨rfl, rfl⟩
      go_wp2_with fail
      refine HG.out.mono ?_
      rintro e w3 ⟨v3, rfl, ho3, hb3⟩
      obtain ⟨A3, c3, rfl, hc3, hr3⟩ := rd_of_own ho3
      obtain ⟨g3, rfl, hg3, hg3l⟩ := own_addr ho3 (by omega)
      have hc0 : w3.cell? ⟨g3, 0, none⟩ = some (.int .u64 ((ws (tb / 8 + k)).toNat : Int)) := by
        obtain ⟨b, off, e, _, hc⟩ := hr3.2 (by omega)
        injection e with e; injection e with e1 e2; subst e1 e2
        rw [hc 0 (by omega)]
        simp [wordsFrom, wv]
      have hR : rightW (ws (tb / 8 + k)).toNat = true := by
        have := HAll.out k (by rw [hn]; exact hlt)
        rw [HTb.out] at this; exact this
      have HRt := Lib.hid (rightS_any (ws (tb / 8 + k)).toNat · (UInt64.toNat_lt _))
      rw [hR] at HRt
      have hP3 := HPk.out.below hb3 HPk.out.lt
      have hg3p : p0 < g3 := by have := HPk.out.lt; omega
      have hrow3 := own_below HRw.out hb3
      have hbl3 := HBl.out.trans (hb3.mono (Nat.le_of_lt HPk.out.lt))
      have HP3 := Lib.hid hP3
      have HRw3 := Lib.hid hrow3
      have HBl3 := Lib.hid hbl3
      obtain ⟨x, hx⟩ : ∃ x, ws (tb / 8 + k) = x := ⟨_, rfl⟩
      rw [hx] at hc0 HRt
      have HX := Lib.hid hx
      clear ho3 hr3 hb3 hP3 hrow3 hbl3 hx hR HG HEn
      go_wp2_with fail
      refine (HRt.out _).mono ?_
      rintro e w5 ⟨rfl, hd5⟩
      have hb5 := hd5.below w3.heap.size
      have hP5 := HP3.out.below hb5 HP3.out.lt
      have hc5 := (hb5.cell (p := ⟨g3, 0, none⟩) hg3l).trans hc0
      have hrow5 := own_below HRw3.out hb5
      have hbl5 := HBl3.out.trans (hb5.mono (Nat.le_of_lt HP3.out.lt))
      have z5 := hP5.cell 5
      have f5 := hP5.frozen 5
      have hp5 := hP5.lt
      simp only [List.getElem?_cons_succ, List.getElem?_cons_zero] at z5
      have HP5 := Lib.hid hP5
      have HRw5 := Lib.hid hrow5
      have HBl5 := Lib.hid hbl5
      have hw5 : w.heap.size ≤ w5.heap.size := by omega
      clear hd5 hb5 hP5 hrow5 hbl5 hc0 HP3 HRw3 HBl3 HRt
      obtain ⟨wd, hwd⟩ : ∃ wd, wd = w5.drew := ⟨_, rfl⟩
      go_wp2_with fail
      go_region_law (refine step_app_one rfl (.tmp 50) (.tmp 54) 221 rfl Tryz.wordsTyK w5 w.heap.size v k ((wordsAt ws (tb / 8) k).map wv) [.int .u64 (x.toNat : Int)] rfl HRw5.out rfl rfl rfl rfl w5.heap.size 1 rfl rfl rfl (by decide) (by intro u hu; simp at hu; subst hu; rfl) (by omega) (by decide) hw5 ?_; intro g6 c6 w6 hO6 hB6 hK6 hg6; have hng : some p0 ≠ v.ownBlock := (fun e => by rcases HVk.out with ⟨_, h⟩ | ⟨g, c, h, hlt⟩ <;> (subst h; simp [Value.ownBlock] at e); omega); have z6 := (World.cell?_of_block (w := w5) (a := ⟨p0, 5, none⟩) (hK6.2 p0 hp5 hng)).trans z5; have f6 := (World.frozen?_of_block (w := w5) (a := ⟨p0, 5, none⟩) (hK6.2 p0 hp5 hng)).trans f5)
      all_goals (obtain ⟨q1, q2, q3, q4⟩ := open_round HX.out (by omega) HP5.out HVk.out HBl5.out HBl5.out.size hO6 hB6 hK6 hg6)
      all_goals (have Q1 := Lib.hid q1)
      all_goals (have Q3 := Lib.hid q3)
      all_goals (have Q4 := Lib.hid q4)
      all_goals (clear q1 q3 q4 hO6 hB6 hK6 hg6 hng z6 f6 z5 f5 hc5)
      all_goals (go_wp2_with fail)
      all_goals (go_roundw)
      all_goals (try (case rel => exact ⟨k + 1, _, by omega, by go_num, Q1.out, .inr ⟨g6, c6, rfl, q2⟩, Q3.out, Q4.out⟩))
      all_goals (try (simp [intOf]; omega))
    · have hkn : k = n := by omega
      subst hkn
      go_wp2_with fail
      go_ret2
      have hn0 : 0 < k := by rw [← hn]; exact HOk.out.slabs
      rcases HVk.out with ⟨h0', _⟩ | ⟨g, c, rfl, hgp⟩
      · omega
      have hlt := HLt.out
      have hrow := HRw.out
      have hZ := (HBl.out.block h0 (by omega)).trans HZ4.out
      have hgl := own_addr hrow hn0
      have htl := hT.lt
      have e1 : sh.table / 8 = tb / 8 := by rw [HTb.out]
      refine ⟨p0, fun b => own b ∨ b = p0 ∨ b = g ∨ b = h0, rfl, ⟨g, h0, k, c, k, own, ⟨HDb.out _ HBw.out, hL0, hL, HSh.out, ?_, ?_, ?_, ?_, ?_, ?_, (rd_own hrow).1, Nat.le_refl _, fun h => ?_, fun h => ?_, fun h => ?_, by omega, by omega, by omega, hT.below HBw.out, ?_, ?_⟩, fun _ => Iff.rfl⟩, HBw.out, fun b hb => ?_⟩
      · show Blk wr p0 _ _
        rw [hli, hn, HTb.out, hdt]; exact HPk.out
      · rw [hn, e1]; exact RowB.of_own hrow
      · refine ⟨zc, hZ, fun t ht => ?_⟩
        have ht' : t < k := by rw [List.length_replicate, hn] at ht; exact ht
        rw [← Array.getElem?_toList, ← hzc, made_words, List.getElem?_map, List.getElem?_replicate, if_pos ht', List.getElem_replicate]; rfl
      · simp [wordsAt, hn]
      · simp [hn]
      · exact hn.symm
      · have := hlt _ h; omega
      · have := hlt _ h; omega
      · have := hlt _ h; omega
      · rintro (h | h | h | h)
        · exact g1 h
        · omega
        · omega
        · omega
      · rintro (h | h | h | h)
        · exact g2 h
        · omega
        · omega
        · omega
      · rcases hb with h | h | h | h
        · exact .inl h
        · right; omega
        · right; omega
        · right; omega

end Go.Proofs.YtcelabojehaioaaGreatDoor

/- Walks of law 7's Begin: a device that is formatted, and its pool. -/
namespace Go.Proofs.YtcelabojehaioaaGreatDoor
open Go.RowKit

theorem putWs_zero (j n : Nat) : putWs (fun _ => 0) j (List.replicate n 0) = fun _ => 0 := by
  funext i
  unfold putWs
  split
  · rw [List.getD_eq_getElem?_getD, List.getElem?_replicate]
    split <;> rfl
  · rfl
theorem wordsOf_length (sh : Sh) : (wordsOf sh).length = 8 := rfl
theorem format_head (sh : Sh) : wordsAt (formatW sh) 0 8 = wordsOf sh := by
  apply List.ext_getElem
  · rfl
  · intro i h1 h2
    have hi : i < 8 := by simpa [wordsAt] using h1
    have h8 := wordsOf_length sh
    simp only [wordsAt, List.getElem_map, List.getElem_range]
    unfold formatW putWs
    rw [if_pos (by omega), List.getD_eq_getElem?_getD, show 0 + i - 0 = i by omega, List.getElem?_eq_getElem h2]; rfl
theorem format_above (sh : Sh) (i : Nat) (hi : 8 ≤ i) : formatW sh i = 0 := by
  unfold formatW putWs
  have h8 := wordsOf_length sh
  rw [if_neg (by omega)]

/-- A store that is new. -/
def st0 (sh : Sh) : St := { sh := sh, ws := formatW sh, tk := List.replicate sh.slabs 0, hd := List.replicate sh.slabs 0 }

theorem format_taken (sh : Sh) (h : sh.table = 128) : wordsAt (formatW sh) (sh.table / 8) sh.slabs = List.replicate sh.slabs 0 := by
  apply List.ext_getElem
  · simp [wordsAt]
  · intro i h1 h2
    simp only [wordsAt, List.getElem_map, List.getElem_range, List.getElem_replicate]
    exact format_above sh _ (by omega)

end Go.Proofs.YtcelabojehaioaaGreatDoor

/- Plain: one commit of one write on a new store, evaluated. -/
namespace Go.Proofs.YtcelabojehaioaaGreatDoor

/-- Does a first write, of a key and a text, go well on a new store of a shape? -/
def oneB (sh : Sh) (ky tx : ByteArray) : Bool :=
  (match reserveP (st0 sh) 1 with
    | none => false
    | some (off, s1) => decide ((takeP { s1 with ws := putWs s1.ws (off / 8) (encRc ⟨1, 0, false, tx⟩) } off).2 = 0)) &&
  (decide ((addP (st0 sh) ⟨1, 0, false, tx⟩).2.2 = 0) && decide ((putK (addP (st0 sh) ⟨1, 0, false, tx⟩).1 ky.data.toList (addP (st0 sh) ⟨1, 0, false, tx⟩).2.1).2 = 0))
def one1 (sh : Sh) (tx : ByteArray) : St := (addP (st0 sh) ⟨1, 0, false, tx⟩).1
def onePl (sh : Sh) (tx : ByteArray) : UInt64 := (addP (st0 sh) ⟨1, 0, false, tx⟩).2.1
def one2 (sh : Sh) (ky tx : ByteArray) : St := (putK (one1 sh tx) ky.data.toList (onePl sh tx)).1
/-- The store behind the commit. -/
def one3 (sh : Sh) (ky tx : ByteArray) : St := { one2 sh ky tx with ws := put1 (one2 sh ky tx).ws 8 1 }

theorem one_take {sh : Sh} {ky tx : ByteArray} (h : oneB sh ky tx = true) : ∀ off s1, reserveP (st0 sh) 1 = some (off, s1) → (takeP { s1 with ws := putWs s1.ws (off / 8) (encRc ⟨1, 0, false, tx⟩) } off).2 = 0 := by
  intro off s1 hr
  unfold oneB at h
  rw [hr] at h
  rw [Bool.and_eq_true] at h
  exact of_decide_eq_true h.1
theorem one_add {sh : Sh} {ky tx : ByteArray} (h : oneB sh ky tx = true) : addP (st0 sh) ⟨1, 0, false, tx⟩ = (one1 sh tx, onePl sh tx, 0) := by
  unfold oneB at h
  rw [Bool.and_eq_true, Bool.and_eq_true] at h
  have h2 : (addP (st0 sh) ⟨1, 0, false, tx⟩).2.2 = 0 := of_decide_eq_true h.2.1
  unfold one1 onePl
  rw [← h2]
theorem one_put {sh : Sh} {ky tx : ByteArray} (h : oneB sh ky tx = true) : putK (one1 sh tx) ky.data.toList (onePl sh tx) = (one2 sh ky tx, 0) := by
  unfold oneB at h
  rw [Bool.and_eq_true, Bool.and_eq_true] at h
  have h2 : (putK (one1 sh tx) ky.data.toList (onePl sh tx)).2 = 0 := of_decide_eq_true h.2.2
  unfold one2
  rw [← h2]
theorem one_get (sh : Sh) (ky : ByteArray) (hk : ky.size ≤ 16) : getP (st0 sh) ky.data.toList = (0, 7) := by
  have hk' : ¬ 16 < ky.data.toList.length := by simpa using hk
  have h9 : (st0 sh).ws 9 = 0 := format_above sh 9 (by decide)
  unfold getP
  rw [if_neg hk']
  unfold pathP
  rw [h9, pathGo, if_pos rfl]
  rfl

end Go.Proofs.YtcelabojehaioaaGreatDoor
