import Derived.Test.YtcelabojehaioaaGreatDoorG01
import Derived.Test.YtcelabojehaioaaGreatDoorG07
import Derived.Test.YtcelabojehaioaaGreatDoorG15
/- Rows that are none of a store's; where a block that is reserved lies. No statement of the program. -/
namespace Go.Proofs.YtcelabojehaioaaGreatDoor
open Go.RowKit

/-- A row that lies there, in no block of G. -/
def RdO (w : World) (G : Nat → Prop) (A : Option Addr) (n : Nat) (xs : List Value) : Prop := Rd w A n xs ∧ (0 < n → ∀ a, A = some a → ¬ G a.block)

section
variable {w w' : World} {G G' : Nat → Prop} {A : Option Addr} {n : Nat} {xs : List Value}

theorem RdO.moved (h : RdO w G A n xs) (m : Moved G G' w w') : RdO w' G' A n xs := by
  obtain ⟨⟨h1, h2⟩, h3⟩ := h
  refine ⟨⟨h1, fun hn => ?_⟩, fun hn a e => ?_⟩
  · obtain ⟨b, off, e, hb, hc⟩ := h2 hn
    exact ⟨b, off, e, Nat.lt_of_lt_of_le hb m.touch.size, fun j hj => (World.cell?_of_block (w := w) (m.touch.block b hb (h3 hn _ e))).trans (hc j hj)⟩
  · obtain ⟨b, off, e', hb, hc⟩ := h2 hn
    rw [e'] at e
    injection e with e
    subst e
    exact m.out hb (h3 hn _ e')
theorem RdO.below (h : RdO w G A n xs) (k : Below w.heap.size w w') : RdO w' G A n xs := h.moved (Moved.of_below k)
theorem RdO.mono {F : Nat → Prop} (h : RdO w G A n xs) (k : ∀ b, b < w.heap.size → F b → G b) : RdO w F A n xs := ⟨h.1, fun hn a e hf => by
  obtain ⟨b, off, e', hb, hc⟩ := h.1.2 hn
  rw [e'] at e
  injection e with e
  subst e
  exact h.2 hn _ e' (k _ hb hf)⟩
theorem RdO.take (h : RdO w G A n xs) (k : Nat) (hk : k ≤ n) : RdO w G A k (xs.take k) := by
  obtain ⟨⟨h1, h2⟩, h3⟩ := h
  refine ⟨⟨by rw [List.length_take]; omega, fun hn => ?_⟩, fun hn => h3 (by omega)⟩
  obtain ⟨b, off, e, hb, hc⟩ := h2 (by omega)
  exact ⟨b, off, e, hb, fun j hj => by rw [hc j (by omega), List.getElem?_take, if_pos hj]⟩
theorem RdO.cut {b off c : Nat} (h : RdO w G (some ⟨b, off, none⟩) n xs) (k : Nat) (hk : k ≤ n) (hc : n ≤ c) : RdO w G (if c = k then some ⟨b, off, none⟩ else some ⟨b, off + k, none⟩) (n - k) (xs.drop k) := by
  obtain ⟨⟨h1, h2⟩, h3⟩ := h
  by_cases hn : k = n
  · refine ⟨⟨by rw [List.length_drop]; omega, fun hn' => by omega⟩, fun hn' => by omega⟩
  · rw [if_neg (by omega)]
    refine ⟨⟨by rw [List.length_drop]; omega, fun hn' => ?_⟩, fun hn' a e => ?_⟩
    · obtain ⟨b', off', e, hb, hcc⟩ := h2 (by omega)
      injection e with e
      injection e with e1 e2
      subst e1 e2
      exact ⟨_, _, rfl, hb, fun j hj => by rw [Nat.add_assoc, hcc (k + j) (by omega), List.getElem?_drop]⟩
    · injection e with e
      subst e
      exact h3 (by omega) ⟨b, off, none⟩ rfl
theorem RdO.of_own {base c : Nat} {e : TypeId} (h : w.ownsRow base e 1 (.slice A n c) n xs) (hG : ∀ b, base ≤ b → b < w.heap.size → ¬ G b) : RdO w G A n xs := by
  refine ⟨(rd_own h).2, fun hn a ea => ?_⟩
  rcases h.2 with ⟨h1, _⟩ | ⟨g', cap, cur, h1, h2, h3, _⟩
  · simp only [Value.slice.injEq] at h1; rw [h1.1] at ea; cases ea
  · simp only [Value.slice.injEq] at h1
    rw [h1.1] at ea
    injection ea with ea
    subst ea
    exact hG _ h2 (Array.getElem?_eq_some_iff.1 h3).1
theorem RdO.nil : RdO w G A 0 [] := ⟨Rd.nil, fun h => absurd h (by omega)⟩
end

/-- A node's four fields, in no block of G. -/
def NdR (w : World) (G : Nat → Prop) (a b c d : Value) (nd : Nd) : Prop :=
  ∃ A1 c1 A2 c2 A3 c3, a = .slice A1 nd.pre.length c1 ∧ b = .int .u64 (nd.val.toNat : Int) ∧ c = .slice A2 nd.labels.length c2 ∧ d = .slice A3 nd.kids.length c3 ∧ nd.pre.length ≤ c1 ∧
    RdO w G A1 nd.pre.length (nd.pre.map bv) ∧ RdO w G A2 nd.labels.length (nd.labels.map bv) ∧ RdO w G A3 nd.kids.length (nd.kids.map wv)

theorem NdR.moved {w w' : World} {G G' : Nat → Prop} {a b c d : Value} {nd : Nd} (h : NdR w G a b c d nd) (m : Moved G G' w w') : NdR w' G' a b c d nd := by
  obtain ⟨A1, c1, A2, c2, A3, c3, e1, e2, e3, e4, hc, h1, h2, h3⟩ := h
  exact ⟨A1, c1, A2, c2, A3, c3, e1, e2, e3, e4, hc, h1.moved m, h2.moved m, h3.moved m⟩
theorem NdR.of_v {w : World} {G : Nat → Prop} {base : Nat} {a b c d : Value} {nd : Nd} (h : NdV w base (.agg #[a, b, c, d]) nd) (hG : ∀ b, base ≤ b → b < w.heap.size → ¬ G b) : NdR w G a b c d nd := by
  obtain ⟨A1, c1, A2, c2, A3, c3, e, h1, h2, h3⟩ := h
  simp only [Value.agg.injEq] at e
  simp at e
  obtain ⟨rfl, rfl, rfl, rfl⟩ := e
  exact ⟨A1, c1, A2, c2, A3, c3, rfl, rfl, rfl, rfl, (rd_own h1).1, RdO.of_own h1 hG, RdO.of_own h2 hG, RdO.of_own h3 hG⟩

theorem reserve_at {L : Nat} {s s1 : St} {c off : Nat} (ok : ShOk L s.sh) (hntk : s.tk.length = s.sh.slabs) (hc : c = 1 ∨ c = 2) (h : reserveP s c = some (off, s1)) : ∃ o, off = 8 * o ∧ o + 8 * linesN c ≤ 8 * L := by
  unfold reserveP at h
  split at h
  · cases h
  · rename_i i hi
    split at h
    · cases h
    · rename_i a ha
      injection h with h
      injection h with h1 h2
      have hil := (slabFor_some hi).1
      have hal : a < blocksN c := by
        unfold nextW at ha
        split at ha
        · exact lowN_lt ha
        · cases ha
      unfold placeN at h1
      have := ok.data
      have := ok.fits
      rw [hntk] at hil
      rcases hc with rfl | rfl
      · refine ⟨off / 8, ?_, ?_⟩ <;> simp only [linesN, blocksN] at * <;> omega
      · refine ⟨off / 8, ?_, ?_⟩ <;> simp only [linesN, blocksN] at * <;> omega

theorem classN_or (x : Nd) : classN x = 1 ∨ classN x = 2 := by unfold classN; split <;> simp
theorem encW_lines (x : Nd) : (encW x).length = 8 * linesN (classN x) := by
  rw [encW_length]
  unfold classN
  split <;> rfl

theorem buildP_made (j : Jb) (n : Nd) : (buildP j n).1.made.length ≤ j.made.length + 1 := by
  unfold buildP
  split
  · simp
  · split
    · simp
    · split
      split <;> simp
theorem aboveP_made (j : Jb) (n : Nd) (label : UInt8) (kid : UInt64) (e : Int) : (aboveP j n label kid e).1.made.length ≤ j.made.length + 1 := by
  unfold aboveP
  split
  · simp
  · split
    · exact buildP_made _ _
    · simp
theorem leafP_made : ∀ (f : Nat) (j : Jb) (l : List UInt8) (value : UInt64), (leafP f j l value).1.made.length ≤ j.made.length + f
  | 0, j, l, value => by simp [leafP]
  | f + 1, j, l, value => by
    unfold leafP
    split
    · have := buildP_made j ⟨l, value, [], []⟩; omega
    · have h1 := leafP_made f j (l.drop 16) value
      split
      rename_i j1 kid e he
      rw [he] at h1
      have := aboveP_made j1 ⟨l.take 15, 0, [], []⟩ (l.getD 15 0) kid e
      simp only at h1
      omega

end Go.Proofs.YtcelabojehaioaaGreatDoor

/- Walks of package rec: Encode. -/
namespace Go.Proofs.YtcelabojehaioaaGreatDoor
open Go.RowKit

theorem head_no : ∀ n : Fin 41, bits BinOp.or .u64 3 ((n.val : Int) * 65536) = ((rcHead n.val false : Nat) : Int) := by decide +kernel
theorem head_yes : bits BinOp.or .u64 (bits BinOp.or .u64 3 (((0 : Nat) : Int) * 65536)) 256 = ((rcHead 0 true : Nat) : Int) := by decide +kernel

theorem or_byte (o b j : Nat) (ho : o < 256 ^ j) (hb : b < 256) (hj : j < 8) : bits .or .u64 (o : Int) (IntKind.u64.wrap (IntKind.u64.wrap (b : Int) * 2 ^ (j * 8))) = ((o + b * 256 ^ j : Nat) : Int) := by
  have h := or_step o b j hb hj
  have e : (o : Int) % 256 ^ j = (o : Int) := by
    have e1 : (o : Int) % 256 ^ j = ((o % 256 ^ j : Nat) : Int) := by rw [Int.natCast_emod, Int.natCast_pow]; rfl
    rw [e1, Nat.mod_eq_of_lt ho]
  rw [e, Nat.mod_eq_of_lt ho, Nat.mul_comm 8 j] at h
  exact h

/-- The words of a version, of whose text so many bytes are laid. -/
def rowRc (r : Rc) (k : Nat) : List Value := ([UInt64.ofNat (rcHead r.text.size r.gone), r.stamp, r.next] ++ textW (r.text.data.toList.take k)).map wv

theorem rowRc_step (r : Rc) (k : Nat) (hk : k < r.text.size) (v : Nat) (hv : v = (wordT (r.text.data.toList.take k) (k / 8)).toNat + r.text[k].toNat * 256 ^ (k % 8)) : (rowRc r k).set (3 + k / 8) (.int .u64 (v : Int)) = rowRc r (k + 1) := by
  have hl : k < r.text.data.toList.length := hk
  have h1 := wordT_snoc r.text.data.toList k hl
  have e : r.text.data.toList[k] = r.text[k] := rfl
  rw [e, ← hv] at h1
  unfold rowRc
  rw [← textW_step r.text.data.toList k hl (wordT (r.text.data.toList.take (k + 1)) (k / 8)) (by rw [e, ← hv]; exact h1), ← h1]
  rw [show Value.int IntKind.u64 ((wordT (r.text.data.toList.take (k + 1)) (k / 8)).toNat : Int) = wv (wordT (r.text.data.toList.take (k + 1)) (k / 8)) from rfl, ← List.map_set, List.set_append_right _ _ (by simp)]
  congr 3
  simp

def RecEncPost (r : Rc) (w : World) (e : Ending) (w' : World) : Prop :=
  Below w.heap.size w w' ∧ if rightRc r = true then ∃ g, e = .returned (.tuple #[.slice (some ⟨g, 0, none⟩) 8 8, .bool true]) ∧ w'.ownsRow w.heap.size 23 1 (.slice (some ⟨g, 0, none⟩) 8 8) 8 ((encRc r).map wv)
    else e = .returned (.tuple #[.slice none 0 0, .bool false])

set_option maxHeartbeats 4000000 in
set_option maxRecDepth 100000 in
theorem recEncode (r : Rc) (w : World) (hs : r.text.size ≤ 4294967296) : Calls Tryz.prog 144 #[rcV r] w (RecEncPost r w) := by
  obtain ⟨W, hW⟩ : ∃ W, W = w.alloc (.cells #[.int .u64 (r.stamp.toNat : Int), .int .u64 (r.next.toNat : Int), .bool r.gone, .string r.text] 109) := ⟨_, rfl⟩
  have B : Blk W w.heap.size 109 [.int .u64 (r.stamp.toNat : Int), .int .u64 (r.next.toNat : Int), .bool r.gone, .string r.text] := hW ▸ heap_alloc_new _ _
  have hb : Below w.heap.size w W := hW ▸ (Below.refl _ _).alloc (Nat.le_refl _) _
  obtain ⟨y0, y1, y2, y3, _, _, _, _⟩ := blk4' B
  have HB := Lib.hid hb
  have HK := Lib.hid B
  have HR := Lib.hid (recRight r W hs)
  unfold rcV at HR ⊢
  have HW := Lib.hid hW
  rw [hW] at y0 y1 y2 y3
  clear B hb hW
  have hmk : ∀ W : World, (Instr.makeSlice 221 (.int .i64 8) (.int .i64 8)).run Tryz.prog W = .ok (.slice (some ⟨W.heap.size, 0, none⟩) 8 8) (W.alloc (.cells (madeCells (Value.int .u64 0).cells (8 * 1)) 23)) := fun W => by
    obtain ⟨i0, hi, hz0, hz1, hz2⟩ := info_parts Tryz.infoWord
    have := run_make (P := Tryz.prog) (w := W) 221 23 i0 (.int .u64 0) Tryz.underlying221 hi hz0 .i64 .i64 8 8 (by omega) (by omega) (by rw [hz2]; omega) (by omega)
    rw [hz1] at this
    simpa using this
  have hzc : (madeCells (Value.int .u64 0).cells (8 * 1)).toList = (List.replicate 8 (0 : UInt64)).map wv := made_words 8
  obtain ⟨zc, hz⟩ : ∃ zc, madeCells (Value.int .u64 0).cells (8 * 1) = zc := ⟨_, rfl⟩
  rw [hz] at hmk hzc
  have HZ := Lib.hid hzc
  clear hz hzc
  cases hR : rightRc r with
  | false =>
    have HV := Lib.hid hR
    rw [hR] at HR
    clear hR
    go_enter Tryz.func144, Tryz.ntmps144
    go_wp2_with fail
    rw [← HW.out]
    refine HR.out.mono ?_
    rintro e w1 ⟨rfl, hb1⟩
    have HB1 := Lib.hid (HB.out.trans (hb1.mono HB.out.size))
    clear HR hb1
    go_wp2_with fail
    go_ret2
    refine ⟨HB1.out, ?_⟩
    rw [if_neg (by rw [HV.out]; exact Bool.false_ne_true)]
    rfl
  | true =>
    have HV := Lib.hid hR
    rw [hR] at HR
    have h40 := ((rightRc_iff r).1 hR).2.1
    clear hR
    go_enter Tryz.func144, Tryz.ntmps144
    go_wp2_with fail
    rw [← HW.out]
    refine HR.out.mono ?_
    rintro e w1 ⟨rfl, hb1⟩
    have HB1 := Lib.hid (HB.out.trans (hb1.mono HB.out.size))
    have B1 := HK.out.below hb1 HK.out.lt
    obtain ⟨z0, z1, z2, z3, _, _, _, _⟩ := blk4' B1
    have HK1 := Lib.hid B1
    clear HR hb1 B1 y0 y1 y2 y3
    obtain ⟨W2, hW2⟩ : ∃ W2, W2 = w1.alloc (.cells zc 23) := ⟨_, rfl⟩
    have hm1 := hmk w1
    rw [← hW2] at hm1
    obtain ⟨g, hg⟩ : ∃ g, g = w1.heap.size := ⟨_, rfl⟩
    have hlt := HK1.out.lt
    have hne : w.heap.size ≠ g := by omega
    have B2 : Blk W2 g 23 [.int .u64 0, .int .u64 0, .int .u64 0, .int .u64 0, .int .u64 0, .int .u64 0, .int .u64 0, .int .u64 0] := by
      have e : [Value.int .u64 0, .int .u64 0, .int .u64 0, .int .u64 0, .int .u64 0, .int .u64 0, .int .u64 0, .int .u64 0] = zc.toList := by rw [HZ.out]; rfl
      rw [e]; unfold Blk; rw [hW2, hg, Array.toArray_toList]; exact heap_alloc_new _ _
    have K2 : Blk W2 w.heap.size 109 _ := (hW2 ▸ heap_alloc_old _ _ HK1.out.lt : W2.heap[w.heap.size]? = w1.heap[w.heap.size]?).trans HK1.out
    have hb2 : Below g w1 W2 := by rw [hW2, hg]; exact (Below.refl _ _).alloc (Nat.le_refl _) _
    have HG := Lib.hid hg
    rw [← hg] at hm1
    have HX0 : Hid ((W2.heap.size : Nat) = W2.heap.size) := Lib.hid rfl
    clear hW2 hg hmk
    have facts : ∀ (W : World) (xs : List Value), Blk W g 23 xs → ∀ k, k < xs.length → (∃ v, W.cell? ⟨g, k, none⟩ = some v) ∧ W.frozen? ⟨g, k, none⟩ = false := fun W xs h k hk => ⟨⟨_, h.has hk⟩, h.frozen k⟩
    have HF := Lib.hid facts
    clear facts
    obtain ⟨X, hX⟩ : ∃ X, X = Value.int .u64 (bits BinOp.or .u64 3 ((r.text.size : Int) * 65536)) := ⟨_, rfl⟩
    cases hgn : r.gone with
    | false =>
      have HGn := Lib.hid hgn
      have B3 := B2.set_ 0 X
      have K3 := K2.far hne 0 X
      have B4 := B3.set_ 1 (.int .u64 (r.stamp.toNat : Int))
      have K4 := K3.far hne 1 (.int .u64 (r.stamp.toNat : Int))
      have B5 := B4.set_ 2 (.int .u64 (r.next.toNat : Int))
      have K5 := K4.far hne 2 (.int .u64 (r.next.toNat : Int))
      have HB5 := Lib.hid B5
      have HK5 := Lib.hid K5
      obtain ⟨⟨v2, c2⟩, f2⟩ := HF.out _ _ B2 0 (by simp)
      obtain ⟨⟨v3, c3⟩, f3⟩ := HF.out _ _ B3 1 (by simp)
      obtain ⟨⟨v4, c4⟩, f4⟩ := HF.out _ _ B4 2 (by simp)
      have a23 := K2.cell 3
      have a32 := K3.cell 2
      have a30 := K3.cell 0
      have a41 := K4.cell 1
      have a53 := K5.cell 3
      simp only [List.getElem?_cons_zero, List.getElem?_cons_succ, hgn] at a23 a32 a30 a41 a53
      rw [hX] at a32 a30 a41 a53 c3 f3 c4 f4
      clear B2 K2 B3 K3 B4 K4 B5 K5 hgn
      have HR0 : Hid (Blk ((((W2.setCell ⟨g, 0, none⟩ (Value.int .u64 (bits BinOp.or .u64 3 ((r.text.size : Int) * 65536)))).setCell ⟨g, 1, none⟩ (.int .u64 (r.stamp.toNat : Int))).setCell ⟨g, 2, none⟩ (.int .u64 (r.next.toNat : Int)))) g 23 (rowRc r 0)) := Lib.hid (by
        have h := HB5.out
        rw [hX] at h
        unfold rowRc
        rw [HGn.out, List.take_zero, textW_zero]
        have e : bits BinOp.or .u64 3 ((r.text.size : Int) * 65536) = ((rcHead r.text.size false : Nat) : Int) := head_no ⟨r.text.size, by omega⟩
        have e2 := rcHead_nat h40 false
        simp only [List.set_cons_zero, List.set_cons_succ, e] at h
        simp only [List.cons_append, List.nil_append, List.map_cons, List.map_nil, wv, e, e2, show (((0 : UInt64).toNat : Nat) : Int) = 0 from rfl]
        exact h)
      have HB0 : Hid (Below g w1 ((((W2.setCell ⟨g, 0, none⟩ (Value.int .u64 (bits BinOp.or .u64 3 ((r.text.size : Int) * 65536)))).setCell ⟨g, 1, none⟩ (.int .u64 (r.stamp.toNat : Int))).setCell ⟨g, 2, none⟩ (.int .u64 (r.next.toNat : Int))))) := Lib.hid (((hb2.setCell (p := ⟨g, 0, none⟩) (Nat.le_refl _) _).setCell (p := ⟨g, 1, none⟩) (Nat.le_refl _) _).setCell (p := ⟨g, 2, none⟩) (Nat.le_refl _) _)
      clear hX HB5 HK5 HF HX0 HZ hb2
      go_wp2_with fail
      clear a23 a32 a30 a41 a53 c2 f2 c3 f3 c4 f4
      generalize ((((W2.setCell ⟨g, 0, none⟩ (Value.int .u64 (bits BinOp.or .u64 3 ((r.text.size : Int) * 65536)))).setCell ⟨g, 1, none⟩ (.int .u64 (r.stamp.toNat : Int))).setCell ⟨g, 2, none⟩ (.int .u64 (r.next.toNat : Int)))) = W5 at *
      generalize bits BinOp.or .u64 3 ((r.text.size : Int) * 65536) = hd0 at *
      go_loopw [36] (fun i wr => ∃ k : Nat, k ≤ r.text.size ∧ i = .int .i64 (k : Nat) ∧ Blk wr g 23 (rowRc r k) ∧ Below g w1 wr) (fun i _ => r.text.size - (intOf i).toNat)
      case atStart => exact ⟨0, Nat.zero_le _, rfl, HR0.out, HB0.out⟩
      case round =>
        obtain ⟨k, hk, rfl, hrow, hbr⟩ := hrel
        have HRw := Lib.hid hrow
        have HBr := Lib.hid hbr
        clear hrow hbr
        by_cases hlt2 : k < r.text.size
        · have hcell := HRw.out.cell (3 + k / 8)
          have hfz := HRw.out.frozen (3 + k / 8)
          have hget : (rowRc r k)[3 + k / 8]? = some (.int .u64 ((wordT (r.text.data.toList.take k) (k / 8)).toNat : Int)) := by
            unfold rowRc
            rw [List.getElem?_map, List.getElem?_append_right (by simp), show 3 + k / 8 - [UInt64.ofNat (rcHead r.text.size r.gone), r.stamp, r.next].length = k / 8 by simp, textW, List.getElem?_map, List.getElem?_range (by omega)]
            rfl
          rw [hget] at hcell
          have hx3 : wr.cell? ⟨w.heap.size, 3, none⟩ = some (.string r.text) := by
            have := (HK1.out.below HBr.out (by have := HG.out; omega : w.heap.size < g)).cell 3
            simpa using this
          have hkk : k / 8 ≤ 4 := by omega
          obtain ⟨o, ho⟩ : ∃ o, wordT (r.text.data.toList.take k) (k / 8) = o := ⟨_, rfl⟩
          have HO := Lib.hid ho
          rw [ho] at hcell
          have HVal := Lib.hid (or_byte o.toNat r.text[k].toNat (k % 8) (by rw [← ho]; exact wordT_room _ _) (r.text[k]).toNat_lt (by omega))
          have HNew : Hid (Blk ((wr.setCell ⟨g, 3 + k / 8, none⟩ (.int .u64 ((o.toNat + r.text[k].toNat * 256 ^ (k % 8) : Nat) : Int))).drew) g 23 (rowRc r (k + 1))) := Lib.hid (by
            have h := (HRw.out.set_ (3 + k / 8) (.int .u64 ((o.toNat + r.text[k].toNat * 256 ^ (k % 8) : Nat) : Int))).drew
            rw [rowRc_step r k hlt2 _ (by rw [ho])] at h
            exact h)
          have HNb : Hid (Below g w1 ((wr.setCell ⟨g, 3 + k / 8, none⟩ (.int .u64 ((o.toNat + r.text[k].toNat * 256 ^ (k % 8) : Nat) : Int))).drew)) := Lib.hid ((HBr.out.setCell (p := ⟨g, 3 + k / 8, none⟩) (Nat.le_refl _) _).drew)
          clear hget ho
          go_wp2_with fail
          go_region
          rw [HVal.out]
          go_wp2_with fail
          go_roundw
          case rel => exact ⟨k + 1, by omega, by go_num, HNew.out, HNb.out⟩
          case measure => simp [intOf]; omega
        · have hkn : k = r.text.size := by omega
          subst hkn
          have HE : Hid (rowRc r r.text.size = (encRc r).map wv) := Lib.hid (by
            unfold rowRc encRc
            rw [List.take_of_length_le (show r.text.data.toList.length ≤ r.text.size from Nat.le_refl _)])
          go_wp2_with fail
          go_ret2
          refine ⟨HB1.out.trans (HBr.out.mono (by have := HG.out; have := HB1.out.size; omega)), ?_⟩
          rw [if_pos HV.out]
          have hO := HRw.out.own (B := w.heap.size) (by have := HG.out; have := HB1.out.size; omega) (by rw [HE.out, List.length_map, encRc_length]; decide)
          rw [HE.out, List.length_map, encRc_length] at hO
          exact ⟨g, rfl, hO⟩
    | true =>
      have HGn := Lib.hid hgn
      have hz0 : r.text.size = 0 := ((rightRc_iff r).1 HV.out).2.2 hgn
      have HZ0 := Lib.hid hz0
      clear hz0
      obtain ⟨Y, hY⟩ : ∃ Y, Y = Value.int .u64 (bits BinOp.or .u64 (bits BinOp.or .u64 3 ((r.text.size : Int) * 65536)) 256) := ⟨_, rfl⟩
      have B3 := B2.set_ 0 X
      have K3 := K2.far hne 0 X
      have B4 := B3.set_ 0 Y
      have K4 := K3.far hne 0 Y
      have B5 := B4.set_ 1 (.int .u64 (r.stamp.toNat : Int))
      have K5 := K4.far hne 1 (.int .u64 (r.stamp.toNat : Int))
      have B6 := B5.set_ 2 (.int .u64 (r.next.toNat : Int))
      have K6 := K5.far hne 2 (.int .u64 (r.next.toNat : Int))
      have HB6 := Lib.hid B6
      have HK6 := Lib.hid K6
      obtain ⟨⟨v2, c2⟩, f2⟩ := HF.out _ _ B2 0 (by simp)
      have c3 := B3.cell 0
      have f3 := B3.frozen 0
      obtain ⟨⟨v4, c4⟩, f4⟩ := HF.out _ _ B4 1 (by simp)
      obtain ⟨⟨v5, c5⟩, f5⟩ := HF.out _ _ B5 2 (by simp)
      have a23 := K2.cell 3
      have a32 := K3.cell 2
      have a40 := K4.cell 0
      have a51 := K5.cell 1
      have a63 := K6.cell 3
      simp only [List.getElem?_cons_zero, List.getElem?_cons_succ, List.set_cons_zero, hgn] at a23 a32 a40 a51 a63 c3
      rw [hX] at a32 c3 f3 a40 c4 f4 a51 c5 f5 a63
      rw [hY] at a40 c4 f4 a51 c5 f5 a63
      clear B2 K2 B3 K3 B4 K4 B5 K5 B6 K6 hgn
      have HR0 : Hid (Blk (((((W2.setCell ⟨g, 0, none⟩ (Value.int .u64 (bits BinOp.or .u64 3 ((r.text.size : Int) * 65536)))).setCell ⟨g, 0, none⟩ (Value.int .u64 (bits BinOp.or .u64 (bits BinOp.or .u64 3 ((r.text.size : Int) * 65536)) 256))).setCell ⟨g, 1, none⟩ (.int .u64 (r.stamp.toNat : Int))).setCell ⟨g, 2, none⟩ (.int .u64 (r.next.toNat : Int)))) g 23 (rowRc r 0)) := Lib.hid (by
        have h := HB6.out
        rw [hX, hY] at h
        unfold rowRc
        rw [HGn.out, List.take_zero, textW_zero]
        have e : bits BinOp.or .u64 (bits BinOp.or .u64 3 ((r.text.size : Int) * 65536)) 256 = ((rcHead r.text.size true : Nat) : Int) := by rw [HZ0.out]; exact head_yes
        have e2 := rcHead_nat h40 true
        simp only [List.set_cons_zero, List.set_cons_succ, e] at h
        simp only [List.cons_append, List.nil_append, List.map_cons, List.map_nil, wv, e, e2, show (((0 : UInt64).toNat : Nat) : Int) = 0 from rfl]
        exact h)
      have HB0 : Hid (Below g w1 (((((W2.setCell ⟨g, 0, none⟩ (Value.int .u64 (bits BinOp.or .u64 3 ((r.text.size : Int) * 65536)))).setCell ⟨g, 0, none⟩ (Value.int .u64 (bits BinOp.or .u64 (bits BinOp.or .u64 3 ((r.text.size : Int) * 65536)) 256))).setCell ⟨g, 1, none⟩ (.int .u64 (r.stamp.toNat : Int))).setCell ⟨g, 2, none⟩ (.int .u64 (r.next.toNat : Int))))) := Lib.hid ((((hb2.setCell (p := ⟨g, 0, none⟩) (Nat.le_refl _) _).setCell (p := ⟨g, 0, none⟩) (Nat.le_refl _) _).setCell (p := ⟨g, 1, none⟩) (Nat.le_refl _) _).setCell (p := ⟨g, 2, none⟩) (Nat.le_refl _) _)
      clear hX hY HB6 HK6 HF HX0 HZ hb2
      go_wp2_with fail
      clear a23 a32 a40 a51 a63 c2 f2 c3 f3 c4 f4 c5 f5
      generalize (((((W2.setCell ⟨g, 0, none⟩ (Value.int .u64 (bits BinOp.or .u64 3 ((r.text.size : Int) * 65536)))).setCell ⟨g, 0, none⟩ (Value.int .u64 (bits BinOp.or .u64 (bits BinOp.or .u64 3 ((r.text.size : Int) * 65536)) 256))).setCell ⟨g, 1, none⟩ (.int .u64 (r.stamp.toNat : Int))).setCell ⟨g, 2, none⟩ (.int .u64 (r.next.toNat : Int)))) = W5 at *
      generalize bits BinOp.or .u64 (bits BinOp.or .u64 3 ((r.text.size : Int) * 65536)) 256 = hd1 at *
      generalize bits BinOp.or .u64 3 ((r.text.size : Int) * 65536) = hd0 at *
      go_loopw [36] (fun i wr => ∃ k : Nat, k ≤ r.text.size ∧ i = .int .i64 (k : Nat) ∧ Blk wr g 23 (rowRc r k) ∧ Below g w1 wr) (fun i _ => r.text.size - (intOf i).toNat)
      case atStart => exact ⟨0, Nat.zero_le _, rfl, HR0.out, HB0.out⟩
      case round =>
        obtain ⟨k, hk, rfl, hrow, hbr⟩ := hrel
        have HRw := Lib.hid hrow
        have HBr := Lib.hid hbr
        clear hrow hbr
        have hkn : k = r.text.size := by have := HZ0.out; omega
        subst hkn
        have HE : Hid (rowRc r r.text.size = (encRc r).map wv) := Lib.hid (by
          unfold rowRc encRc
          rw [List.take_of_length_le (show r.text.data.toList.length ≤ r.text.size from Nat.le_refl _)])
        go_wp2_with fail
        go_ret2
        refine ⟨HB1.out.trans (HBr.out.mono (by have := HG.out; have := HB1.out.size; omega)), ?_⟩
        rw [if_pos HV.out]
        have hO := HRw.out.own (B := w.heap.size) (by have := HG.out; have := HB1.out.size; omega) (by rw [HE.out, List.length_map, encRc_length]; decide)
        rw [HE.out, List.length_map, encRc_length] at hO
        exact ⟨g, rfl, hO⟩

end Go.Proofs.YtcelabojehaioaaGreatDoor

/- Walks of package rec: Decode, at eight words. -/
namespace Go.Proofs.YtcelabojehaioaaGreatDoor
open Go.RowKit

def rc0V : Value := .agg #[.int .u64 0, .int .u64 0, .bool false, .string ⟨#[]⟩]
def RecDecPost (l : List UInt64) (w : World) (e : Ending) (w' : World) : Prop :=
  Below w.heap.size w w' ∧ match decRc l with
    | none => e = .returned (.tuple #[rc0V, .bool false])
    | some r => e = .returned (.tuple #[rcV r, .bool true])

theorem rec_ret {Q : Ending → World → Prop} {W : World} {tmps : Array Value} {fn : Func} (hr : fn.results = #[.cell 2 109, .tmp 3]) (g : Nat) {a b c d : Value} (h : Blk W g 109 [a, b, c, d]) (v : Value) (h2 : tmps[2]? = some (.pointer (some ⟨g, 0, none⟩))) (h3 : tmps[3]? = some v)
    (hq : Q (.returned (.tuple #[.agg #[a, b, c, d], v])) W) : bodyPost Tryz.prog fn Q Exit.ret { tmps := tmps, defers := [] } W := by
  obtain ⟨y0, y1, y2, y3, f0, f1, f2, f3⟩ := blk4' h
  have hu := run_underlying (P := Tryz.prog) Tryz.underlying109
  refine bodyPost_ret (v := .tuple #[.agg #[a, b, c, d], v]) (by simp [results, hr, go_sem, h2, h3, y0, y1, y2, y3]) rfl hq

/-- The bytes of a text that words say, of which some are laid. -/
def laidT (l : List UInt64) (m k : Nat) : List UInt8 := (leBytes (l.drop 3)).take k ++ List.replicate (m - k) 0
theorem laidT_len (l : List UInt64) (m k : Nat) (hl : l.length = 8) (hm : m ≤ 40) (hk : k ≤ m) : (laidT l m k).length = m := by
  unfold laidT
  have := leBytes_length (l.drop 3)
  simp at this
  simp; omega
theorem laidT_step (l : List UInt64) (m k : Nat) (hl : l.length = 8) (hm : m ≤ 40) (hk : k < m) (h3 : 3 + k / 8 < l.length) : (laidT l m k).set k (leB l[3 + k / 8] (k % 8)) = laidT l m (k + 1) := by
  have hT := leBytes_length (l.drop 3)
  rw [List.length_drop, hl] at hT
  have hb := leBytes_get (l.drop 3) (k / 8) (k % 8) (by rw [List.length_drop]; omega) (by omega)
  rw [show 8 * (k / 8) + k % 8 = k by omega, List.getElem_drop] at hb
  unfold laidT
  rw [List.set_append_right _ _ (by rw [List.length_take]; omega), List.length_take, Nat.min_eq_left (by omega), Nat.sub_self]
  obtain ⟨d, hd⟩ : ∃ d, m - k = d + 1 := ⟨m - k - 1, by omega⟩
  rw [hd, show m - (k + 1) = d by omega, List.replicate_succ, List.set_cons_zero, List.take_add_one, hb]
  simp

theorem bit8 (n : Nat) (hn : n < 18446744073709551616) : (bits BinOp.and .u64 (n : Int) 256 != 0) = decide (n / 256 % 2 = 1) := by
  have h := u64_and_nat n 256 hn (by decide)
  rw [show ((256 : Nat) : Int) = 256 from rfl] at h
  rw [h]
  have hb : n &&& 256 = if n.testBit 8 then 256 else 0 := by
    apply Nat.eq_of_testBit_eq
    intro i
    rw [Nat.testBit_and, show 256 = 2 ^ 8 from rfl, Nat.testBit_two_pow]
    by_cases hi : 8 = i
    · subst hi
      cases n.testBit 8
      · rfl
      · decide
    · rw [decide_eq_false hi, Bool.and_false]
      split
      · rw [Nat.testBit_two_pow, decide_eq_false hi]
      · simp
  rw [hb, Nat.testBit_eq_decide_div_mod_eq]
  by_cases hd : n / 2 ^ 8 % 2 = 1
  · rw [if_pos (decide_eq_true hd), decide_eq_true (by simpa using hd)]; rfl
  · rw [if_neg (by rw [decide_eq_false hd]; exact Bool.false_ne_true), decide_eq_false (by simpa using hd)]; rfl
theorem byte_of (x : UInt64) (j : Nat) : (x.toNat : Int) / 2 ^ (j * 8) % 256 = ((leB x j).toNat : Int) := by
  have := shr_step x j
  rw [Nat.mul_comm 8 j] at this
  exact this

set_option maxHeartbeats 4000000 in
set_option maxRecDepth 100000 in
theorem recDecode (l : List UInt64) (A : Option Addr) (c : Nat) (w : World) (_ : 8 ≤ c) (h : Ws w A 8 l) : Calls Tryz.prog 136 #[.slice A 8 c] w (RecDecPost l w) := by
  have hlen := h.len
  obtain ⟨q0, b, off, rfl, hbl, c0⟩ := h.at (show 0 < 8 by decide)
  obtain ⟨W, hW⟩ : ∃ W, W = w.alloc (.cells #[.int .u64 0, .int .u64 0, .bool false, .string ⟨#[]⟩] 109) := ⟨_, rfl⟩
  have B : Blk W w.heap.size 109 [.int .u64 0, .int .u64 0, .bool false, .string ⟨#[]⟩] := hW ▸ heap_alloc_new _ _
  have hb : Below w.heap.size w W := hW ▸ (Below.refl _ _).alloc (Nat.le_refl _) _
  obtain ⟨n0, hn0⟩ : ∃ n, n = l[0].toNat := ⟨_, rfl⟩
  have hn64 : n0 < 18446744073709551616 := hn0 ▸ UInt64.toNat_lt _
  have hD0 : (l.getD 0 0).toNat = n0 := by rw [hn0, List.getD_eq_getElem?_getD, List.getElem?_eq_getElem q0]; rfl
  rw [← hn0] at c0
  have HN0 := Lib.hid hn0
  have HD0 := Lib.hid hD0
  clear hn0 hD0
  have d0 : W.cell? ⟨b, off, none⟩ = some (.int .u64 (n0 : Int)) := by have := (hb.cell (p := ⟨b, off + 0, none⟩) hbl).trans c0; simpa using this
  have HW := Lib.hid hW
  have HB := Lib.hid hb
  have HK := Lib.hid B
  obtain ⟨y0, y1, y2, y3, f0, f1, f2, f3⟩ := blk4' B
  rw [hW] at d0 y0 y1 y2 y3 f0 f1 f2 f3
  clear hb B hW
  by_cases h40 : 40 < n0 / 65536
  · have t1 : decide ((40 : Int) < (n0 : Int) / 65536) = true := decide_eq_true (by omega)
    have HV : Hid (decRc l = none) := Lib.hid (by unfold decRc; rw [if_neg (by rintro ⟨_, h⟩; rw [HD0.out] at h; omega)])
    go_enter Tryz.func136, Tryz.ntmps136
    go_wp2_with fail
    rw [← HW.out]
    refine rec_ret rfl w.heap.size HK.out (.bool false) rfl rfl ⟨HB.out, ?_⟩
    rw [HV.out]
    rfl
  · have t1 : decide ((40 : Int) < (n0 : Int) / 65536) = false := decide_eq_false (by omega)
    obtain ⟨m, hm⟩ : ∃ m, m = n0 / 65536 := ⟨_, rfl⟩
    have hm40 : m ≤ 40 := by omega
    have hmk : ∀ W : World, (Instr.makeSlice 39 (.int .u64 ((n0 : Int) / 65536)) (.int .u64 ((n0 : Int) / 65536))).run Tryz.prog W = .ok (.slice (some ⟨W.heap.size, 0, none⟩) m m) (W.alloc (.cells (madeCells (Value.int .u8 0).cells (m * 1)) 5)) := fun W => by
      obtain ⟨i0, hi, hz0, hz1, hz2⟩ := info_parts Tryz.bytesTy.hi
      have e : (n0 : Int) / 65536 = (m : Int) := by omega
      rw [e]
      have := run_make (P := Tryz.prog) (w := W) 39 5 i0 (.int .u8 0) Tryz.underlying39 hi hz0 .u64 .u64 (m : Int) (m : Int) (by omega) (by omega) (by rw [hz2]; omega) (by omega)
      rw [hz1] at this
      simpa using this
    obtain ⟨W2, hW2⟩ : ∃ W2, W2 = W.alloc (.cells (madeCells (Value.int .u8 0).cells (m * 1)) 5) := ⟨_, rfl⟩
    have hm1 := hmk W
    rw [← hW2] at hm1
    obtain ⟨tb, htb⟩ : ∃ tb, tb = W.heap.size := ⟨_, rfl⟩
    rw [← htb] at hm1
    have hWs : W.heap.size = w.heap.size + 1 := by rw [HW.out]; simp
    have B2 : Blk W2 tb 5 ((laidT l m 0).map bv) := by
      have e : (laidT l m 0).map bv = (madeCells (Value.int .u8 0).cells (m * 1)).toList := by rw [made_bytes]; simp [laidT]
      rw [e]; unfold Blk; rw [hW2, htb, Array.toArray_toList]; exact heap_alloc_new _ _
    have hb2 : Below tb W W2 := by rw [hW2, htb]; exact (Below.refl _ _).alloc (Nat.le_refl _) _
    have HB2 := Lib.hid B2
    have Hb2 := Lib.hid hb2
    have HM := Lib.hid hm
    have HTB : Hid (tb = w.heap.size + 1) := Lib.hid (by omega)
    have HWtb := Lib.hid htb
    rw [HW.out] at hm1
    clear B2 hb2 hW2 hmk hm htb hWs
    go_enter Tryz.func136, Tryz.ntmps136
    go_wp2_with fail
    go_loopw [27] (fun i wr => ∃ k : Nat, k ≤ m ∧ i = .int .i64 (k : Nat) ∧ Blk wr tb 5 ((laidT l m k).map bv) ∧ Below tb W wr) (fun i _ => m - (intOf i).toNat)
    case atStart => exact ⟨0, Nat.zero_le _, rfl, HB2.out, Hb2.out⟩
    case round =>
      obtain ⟨k, hk, rfl, hrow, hbr⟩ := hrel
      have HRw := Lib.hid hrow
      have HBr := Lib.hid hbr
      have HBw := Lib.hid (HB.out.trans (hbr.mono (by have := HTB.out; omega)))
      clear hrow hbr
      by_cases hlt2 : k < m
      · have hk8 : 3 + k / 8 < 8 := by omega
        obtain ⟨hq, b', off', e', _, hcell⟩ := (h.below HBw.out).at hk8
        injection e' with e'
        injection e' with e1 e2
        subst e1 e2
        have hlen2 := laidT_len l m k hlen hm40 (by omega)
        obtain ⟨v0, hv0⟩ : ∃ v, wr.cell? ⟨tb, k, none⟩ = some v := ⟨_, HRw.out.has (i := k) (by rw [List.length_map]; omega)⟩
        have hfz := HRw.out.frozen k
        have HVal := Lib.hid (byte_of l[3 + k / 8] (k % 8))
        have HNew : Hid (Blk (wr.setCell ⟨tb, k, none⟩ (.int .u8 ((leB l[3 + k / 8] (k % 8)).toNat : Int))) tb 5 ((laidT l m (k + 1)).map bv)) := Lib.hid (by
          rw [← laidT_step l m k hlen hm40 hlt2 hq, List.map_set]
          exact HRw.out.set_ k _)
        have HNb : Hid (Below tb W (wr.setCell ⟨tb, k, none⟩ (.int .u8 ((leB l[3 + k / 8] (k % 8)).toNat : Int)))) := Lib.hid (HBr.out.setCell (p := ⟨tb, k, none⟩) (Nat.le_refl _) _)
        obtain ⟨x, hx⟩ : ∃ x, l[3 + k / 8] = x := ⟨_, rfl⟩
        rw [hx] at hcell HVal HNew HNb
        clear hx hlen2
        go_wp2_with fail
        rw [HVal.out]
        go_roundw
        case rel => exact ⟨k + 1, by omega, by go_num, HNew.out, HNb.out⟩
        case measure => simp [intOf]; omega
      · have hkm : k = m := by omega
        subst hkm
        obtain ⟨q1, b1, off1, e1', _, cell1⟩ := (h.below HBw.out).at (show 1 < 8 by decide)
        injection e1' with e1'
        injection e1' with e11 e12
        subst e11 e12
        obtain ⟨q2, b2, off2, e2', _, cell2⟩ := (h.below HBw.out).at (show 2 < 8 by decide)
        injection e2' with e2'
        injection e2' with e21 e22
        subst e21 e22
        have cell0 : wr.cell? ⟨b, off, none⟩ = some (.int .u64 (n0 : Int)) := by have := (HBw.out.cell (p := ⟨b, off + 0, none⟩) hbl).trans c0; simpa using this
        obtain ⟨tx, htx⟩ : ∃ tx : ByteArray, tx = ⟨((leBytes (l.drop 3)).take k).toArray⟩ := ⟨_, rfl⟩
        have hLk : laidT l k k = (leBytes (l.drop 3)).take k := by simp [laidT]
        have hBs : Bs wr (some ⟨tb, 0, none⟩) k ((leBytes (l.drop 3)).take k) := by
          have := HRw.out.rd
          rw [hLk, List.length_map] at this
          have e : ((leBytes (l.drop 3)).take k).length = k := by rw [← hLk]; exact laidT_len l k k hlen hm40 (Nat.le_refl _)
          rw [e] at this
          exact this
        have hbd : Below wr.heap.size wr wr.drew := (Dr.drew wr).below _
        have hba : Below wr.heap.size wr (wr.alloc (.cells #[.int .u64 0, .int .u64 0, .bool false, .string ⟨#[]⟩] 109)).drew := ((Below.refl _ _).alloc (Nat.le_refl _) _).trans ((Dr.drew _).below _)
        have hcv := run_string_of_bs (P := Tryz.prog) Tryz.underlying39 Tryz.underlying5 Tryz.underlying9 (hBs.below hbd) k
        have hcv2 := run_string_of_bs (P := Tryz.prog) Tryz.underlying39 Tryz.underlying5 Tryz.underlying9 (hBs.below hba) k
        rw [← htx] at hcv hcv2
        clear hbd hba
        obtain ⟨g, hg⟩ : ∃ g, (bits BinOp.and .u64 (n0 : Int) 256 != 0) = g := ⟨_, rfl⟩
        obtain ⟨x1, hx1⟩ : ∃ x, l[1] = x := ⟨_, rfl⟩
        obtain ⟨x2, hx2⟩ : ∃ x, l[2] = x := ⟨_, rfl⟩
        rw [hx1] at cell1
        rw [hx2] at cell2
        have HX1 := Lib.hid hx1
        have HX2 := Lib.hid hx2
        have HG := Lib.hid hg
        have HTx := Lib.hid htx
        clear hx1 hx2 htx hLk hBs
        go_wp2_with fail
        go_region
        all_goals (obtain ⟨W9, hW9⟩ : ∃ W9, W9 = (wr.alloc (.cells #[.int .u64 (x1.toNat : Int), .int .u64 (x2.toNat : Int), .bool g, .string tx] 109)).drew := ⟨_, rfl⟩)
        all_goals (have B9 : Blk W9 wr.heap.size 109 [.int .u64 (x1.toNat : Int), .int .u64 (x2.toNat : Int), .bool g, .string tx] := by rw [hW9]; exact heap_alloc_new _ _)
        all_goals (have hb9r : Below wr.heap.size wr W9 := by rw [hW9]; exact ((Below.refl _ _).alloc (Nat.le_refl _) _).trans ((Dr.drew _).below _))
        all_goals (have hb9 := HBw.out.trans (hb9r.mono HBw.out.size))
        all_goals (have K9 : Blk W9 w.heap.size 109 _ := (HK.out.below HBr.out (by have := HTB.out; omega)).below hb9r (by have := HBr.out.size; have := HK.out.lt; omega))
        all_goals (have hWr : w.heap.size < wr.heap.size := by have := HBr.out.size; have := HK.out.lt; omega)
        all_goals (have HE := Lib.hid (recEncode ⟨x1, x2, g, tx⟩ W9 (by show tx.size ≤ _; have h1 : tx.size = ((leBytes (l.drop 3)).take k).length := (by rw [HTx.out]; rfl); rw [h1, List.length_take]; omega)))
        all_goals (rw [← hW9])
        all_goals (unfold rcV at HE)
        all_goals (obtain ⟨u0, u1, u2, u3, _, _, _, _⟩ := blk4' B9)
        all_goals (have HC : Hid (candRc l = ⟨x1, x2, g, tx⟩) := Lib.hid (by
          have a1 : l.getD 1 0 = x1 := by rw [List.getD_eq_getElem?_getD, List.getElem?_eq_getElem q1]; exact HX1.out
          have a2 : l.getD 2 0 = x2 := by rw [List.getD_eq_getElem?_getD, List.getElem?_eq_getElem q2]; exact HX2.out
          have a3 : decide (n0 / 256 % 2 = 1) = g := by rw [← HG.out]; exact (bit8 n0 hn64).symm
          unfold candRc
          rw [a1, a2, HD0.out, a3, ← HM.out, ← HTx.out]))
        all_goals (have HB9 := Lib.hid B9)
        all_goals (have HK9 := Lib.hid K9)
        all_goals (have HB9w := Lib.hid hb9)
        all_goals (clear B9 K9 hb9 hb9r hW9 cell0 cell1 cell2 hcv hcv2 hg)
        all_goals (go_wp2_with fail)
        all_goals (refine HE.out.mono ?_)
        all_goals (rintro e w10 ⟨hb10, hp10⟩)
        all_goals (have hb10w := HB9w.out.trans (hb10.mono HB9w.out.size))
        all_goals (have K10 := HK9.out.below hb10 HK9.out.lt)
        all_goals (have B10 := HB9.out.below hb10 HB9.out.lt)
        all_goals (cases hR : rightRc ⟨x1, x2, g, tx⟩)
        all_goals (rw [hR] at hp10)
        all_goals (have HK10 := Lib.hid K10)
        all_goals (have HB10w := Lib.hid hb10w)
        all_goals (have HB10 := Lib.hid B10)
        all_goals (clear HE u0 u1 u2 u3 hb10)
        all_goals first
          | (replace hp10 : e = .returned (.tuple #[.slice none 0 0, .bool false]) := hp10
             subst hp10
             have HV : Hid (decRc l = none) := Lib.hid (by unfold decRc; rw [if_pos ⟨hlen, by rw [HD0.out, ← HM.out]; exact hm40⟩, HC.out, hR]; simp)
             obtain ⟨z0, z1, z2, z3, k0, k1, k2, k3⟩ := blk4' K10
             clear hR K10 B10 hb10w
             go_wp2_with fail
             have BF := (((HK10.out.set_ 0 (.int .u64 0)).set_ 1 (.int .u64 0)).set_ 2 (.bool false)).set_ 3 (.string ⟨#[]⟩)
             have hbF := (((HB10w.out.setCell (p := ⟨w.heap.size, 0, none⟩) (Nat.le_refl _) (.int .u64 0)).setCell (p := ⟨w.heap.size, 1, none⟩) (Nat.le_refl _) (.int .u64 0)).setCell (p := ⟨w.heap.size, 2, none⟩) (Nat.le_refl _) (.bool false)).setCell (p := ⟨w.heap.size, 3, none⟩) (Nat.le_refl _) (.string ⟨#[]⟩)
             refine rec_ret rfl w.heap.size BF (.bool false) rfl rfl ⟨hbF, ?_⟩
             rw [HV.out]
             rfl)
          | (replace hp10 : ∃ g2, e = .returned (.tuple #[.slice (some ⟨g2, 0, none⟩) 8 8, .bool true]) ∧ w10.ownsRow W9.heap.size 23 1 (.slice (some ⟨g2, 0, none⟩) 8 8) 8 ((encRc ⟨x1, x2, g, tx⟩).map wv) := hp10
             obtain ⟨g2, rfl, ho⟩ := hp10
             have heq := equalW_any (some ⟨g2, 0, none⟩) (some ⟨b, off, none⟩) 8 8 8 c (encRc ⟨x1, x2, g, tx⟩) l w10 (by decide) (by decide) (rd_own ho).2 (h.below hb10w)
             have HEQ := Lib.hid heq
             clear heq ho B10 K10 hb10w
             by_cases he : encRc ⟨x1, x2, g, tx⟩ = l
             · have HV : Hid (decRc l = some ⟨x1, x2, g, tx⟩) := Lib.hid (by unfold decRc; rw [if_pos ⟨hlen, by rw [HD0.out, ← HM.out]; exact hm40⟩, HC.out, if_pos ⟨hR, he⟩])
               rw [decide_eq_true he] at HEQ
               clear he hR
               go_wp2_with fail
               refine HEQ.out.mono ?_
               rintro e w11 ⟨rfl, hd⟩
               have K11 := HK10.out.below (hd.below _) HK10.out.lt
               have B11 := HB10.out.below (hd.below _) HB10.out.lt
               have HB11w := Lib.hid (HB10w.out.trans (hd.below w.heap.size))
               obtain ⟨z0, z1, z2, z3, k0, k1, k2, k3⟩ := blk4' K11
               obtain ⟨u0, u1, u2, u3, _, _, _, _⟩ := blk4' B11
               have HK11 := Lib.hid K11
               clear K11 B11 hd HEQ
               go_wp2_with fail
               have BF := (((HK11.out.set_ 0 (.int .u64 (x1.toNat : Int))).set_ 1 (.int .u64 (x2.toNat : Int))).set_ 2 (.bool g)).set_ 3 (.string tx)
               have hbF := (((HB11w.out.setCell (p := ⟨w.heap.size, 0, none⟩) (Nat.le_refl _) (.int .u64 (x1.toNat : Int))).setCell (p := ⟨w.heap.size, 1, none⟩) (Nat.le_refl _) (.int .u64 (x2.toNat : Int))).setCell (p := ⟨w.heap.size, 2, none⟩) (Nat.le_refl _) (.bool g)).setCell (p := ⟨w.heap.size, 3, none⟩) (Nat.le_refl _) (.string tx)
               refine rec_ret rfl w.heap.size BF (.bool true) rfl rfl ⟨hbF, ?_⟩
               rw [HV.out]
               rfl
             · have HV : Hid (decRc l = none) := Lib.hid (by unfold decRc; rw [if_pos ⟨hlen, by rw [HD0.out, ← HM.out]; exact hm40⟩, HC.out, if_neg (fun h => he h.2)])
               rw [decide_eq_false he] at HEQ
               clear he hR
               go_wp2_with fail
               refine HEQ.out.mono ?_
               rintro e w11 ⟨rfl, hd⟩
               have K11 := HK10.out.below (hd.below _) HK10.out.lt
               have HB11w := Lib.hid (HB10w.out.trans (hd.below w.heap.size))
               obtain ⟨z0, z1, z2, z3, k0, k1, k2, k3⟩ := blk4' K11
               have HK11 := Lib.hid K11
               clear K11 hd HEQ
               go_wp2_with fail
               have BF := (((HK11.out.set_ 0 (.int .u64 0)).set_ 1 (.int .u64 0)).set_ 2 (.bool false)).set_ 3 (.string ⟨#[]⟩)
               have hbF := (((HB11w.out.setCell (p := ⟨w.heap.size, 0, none⟩) (Nat.le_refl _) (.int .u64 0)).setCell (p := ⟨w.heap.size, 1, none⟩) (Nat.le_refl _) (.int .u64 0)).setCell (p := ⟨w.heap.size, 2, none⟩) (Nat.le_refl _) (.bool false)).setCell (p := ⟨w.heap.size, 3, none⟩) (Nat.le_refl _) (.string ⟨#[]⟩)
               refine rec_ret rfl w.heap.size BF (.bool false) rfl rfl ⟨hbF, ?_⟩
               rw [HV.out]
               rfl)

end Go.Proofs.YtcelabojehaioaaGreatDoor

/- Walks of package chain: none, See, Need; links in memory. -/
namespace Go.Proofs.YtcelabojehaioaaGreatDoor
open Go.RowKit

/-- A row of the call's own, read. -/
theorem own_rowk {w : World} {base k n : Nat} {e : TypeId} {v : Value} {xs : List Value} (h : w.ownsRow base e k v n xs) : ∃ A c, v = .slice A n c ∧ n ≤ c ∧ Rd w A (n * k) xs := by
  rcases h.2 with ⟨h1, h2⟩ | ⟨g, cap, cur, h1, h2, h3, h4, h5, h6, h7⟩
  · subst h2
    exact ⟨none, 0, h1, Nat.le_refl _, h.1, fun hn => by omega⟩
  · refine ⟨_, _, h1, h4, h.1, fun hn => ⟨g, 0, rfl, (Array.getElem?_eq_some_iff.1 h3).1, fun j hj => ?_⟩⟩
    rw [cell_of_row w g _ cur _ (0, 0) h3, ← h7, List.getElem?_take, if_pos (by omega)]
    simp

/-- Where a row of so many cells each has those of one. -/
theorem flat_get {α : Type} (f : α → List Value) (m : Nat) (hf : ∀ a, (f a).length = m) : ∀ (l : List α) (k i : Nat) (hk : k < l.length), i < m → ((l.map f).flatten)[k * m + i]? = (f l[k])[i]?
  | a :: t, 0, i, _, hi => by
    rw [List.map_cons, List.flatten_cons, Nat.zero_mul, Nat.zero_add, List.getElem?_append_left (by rw [hf]; exact hi)]
    rfl
  | a :: t, k + 1, i, hk, hi => by
    rw [List.map_cons, List.flatten_cons, List.getElem?_append_right (by rw [hf, Nat.succ_mul]; omega), hf, show (k + 1) * m + i - m = k * m + i by rw [Nat.succ_mul]; omega]
    exact flat_get f m hf t k i (by simpa using hk) hi

/-- A link's cells. -/
def lkC (k : Lk) : List Value := [.int .i64 k.off, .int .u64 (k.rc.stamp.toNat : Int), .int .u64 (k.rc.next.toNat : Int), .bool k.rc.gone, .string k.rc.text]
def lkCs (l : List Lk) : List Value := (l.map lkC).flatten
theorem lkCs_app (l : List Lk) (a : Lk) : lkCs (l ++ [a]) = lkCs l ++ lkC a := by simp [lkCs]
/-- Links that lie there. -/
def LkR (w : World) (A : Option Addr) (l : List Lk) : Prop := Rd w A (l.length * 5) (lkCs l)
theorem LkR.below {w w' : World} {A : Option Addr} {l : List Lk} (h : LkR w A l) (k : Below w.heap.size w w') : LkR w' A l := Rd.below h k
theorem LkR.at {w : World} {A : Option Addr} {l : List Lk} (h : LkR w A l) (k : Nat) (hk : k < l.length) : ∃ b off, A = some ⟨b, off, none⟩ ∧ b < w.heap.size ∧ w.cell? ⟨b, off + k * 5, none⟩ = some (.int .i64 l[k].off) ∧ w.cell? ⟨b, off + k * 5 + 1, none⟩ = some (.int .u64 (l[k].rc.stamp.toNat : Int)) ∧
    w.cell? ⟨b, off + k * 5 + 2, none⟩ = some (.int .u64 (l[k].rc.next.toNat : Int)) ∧ w.cell? ⟨b, off + k * 5 + 3, none⟩ = some (.bool l[k].rc.gone) ∧ w.cell? ⟨b, off + k * 5 + 4, none⟩ = some (.string l[k].rc.text) := by
  obtain ⟨b, off, e, hb, hc⟩ := h.2 (by omega)
  have key : ∀ i, i < 5 → w.cell? ⟨b, off + k * 5 + i, none⟩ = (lkC l[k])[i]? := fun i hi => by
    rw [Nat.add_assoc, hc (k * 5 + i) (by omega)]
    exact flat_get lkC 5 (fun _ => rfl) l k i hk hi
  exact ⟨b, off, e, hb, key 0 (by decide), key 1 (by decide), key 2 (by decide), key 3 (by decide), key 4 (by decide)⟩
theorem own_lkr {w : World} {base : Nat} {v : Value} {l : List Lk} (h : w.ownsRow base 111 5 v l.length (lkCs l)) : ∃ A c, v = .slice A l.length c ∧ l.length ≤ c ∧ LkR w A l := own_rowk h

section
variable {w w' : World} {d p L : Nat} {s : St} {F : Nat → Prop}

theorem Sys.size (h : Sys w d p L s F) : Calls Tryz.prog 53 #[.pointer (some ⟨d, 0, none⟩)] w fun e w' => e = .returned (.int .i64 ((L * 64 : Nat) : Int)) ∧ w = w' := by
  obtain ⟨tb, hb, n, cT, cH, own, h, _⟩ := h
  exact h.dev.size h.L1
theorem Sys.pos (h : Sys w d p L s F) : 0 < L ∧ L ≤ 1024 ∧ ShOk L s.sh ∧ s.tk.length = s.sh.slabs := by
  obtain ⟨tb, hb, n, cT, cH, own, h, _⟩ := h
  exact ⟨h.L0, h.L1, shape_ok h.shape, by rw [h.ntk, h.nsh]⟩

theorem chainNone (h : Sys w d p L s F) : Calls Tryz.prog 133 #[.pointer (some ⟨d, 0, none⟩), .pointer (some ⟨p, 0, none⟩)] w fun e w' => e = .returned (.bool false) ∧ w = w' := by
  have hL0 := h.pos.1
  have t0 : (((L * 64 : Nat) : Int) == 0) = false := by rw [beq_eq_false_iff_ne]; omega
  have hsz := h.size
  generalize L * 64 = sz at hsz t0
  have HS := Lib.hid hsz
  clear hsz h
  go_enter Tryz.func133, Tryz.ntmps133
  go_wp2_with fail
  refine HS.out.mono ?_
  rintro e w1 ⟨rfl, rfl⟩
  go_wp2_with fail
  go_ret
  exact ⟨rfl, rfl⟩
end

end Go.Proofs.YtcelabojehaioaaGreatDoor

/- Walks of package chain: Need. -/
namespace Go.Proofs.YtcelabojehaioaaGreatDoor
open Go.RowKit

end Go.Proofs.YtcelabojehaioaaGreatDoor

/- Walks of package index: stands, value. -/
namespace Go.Proofs.YtcelabojehaioaaGreatDoor
open Go.RowKit

set_option maxHeartbeats 400000 in
theorem equalB_any (A B : Option Addr) (n m c d : Nat) (a b : List UInt8) (w : World) (hn : n ≤ 4294967296) (_hm : m ≤ 4294967296) (ha : Bs w A n a) (hb : Bs w B m b) :
    Calls Tryz.prog 169 #[.slice A n c, .slice B m d] w fun e w' => e = .returned (.bool (decide (a = b))) ∧ Dr w w' := by
  have hla := ha.len
  have hlb := hb.len
  by_cases hnm : n = m
  · subst hnm
    have t1 : ((n : Int) != (n : Int)) = false := by simp
    go_enter Tryz.func169, Tryz.ntmps169
    go_wp2
    go_loopw [13] (fun i wr => ∃ k : Nat, k ≤ n ∧ i = .int .i64 k ∧ (∀ j (h1 : j < a.length) (h2 : j < b.length), j < k → a[j] = b[j]) ∧ Dr w wr) (fun i _ => n - (intOf i).toNat)
    case atStart => exact ⟨0, Nat.zero_le _, rfl, fun j _ _ h => absurd h (by omega), Dr.refl _⟩
    case round =>
      obtain ⟨k, hk, rfl, heq, q, rfl⟩ := hrel
      by_cases hlt : k < n
      · obtain ⟨hq, p, off, rfl, hp, hc⟩ := ha.at hlt
        obtain ⟨hq2, p2, off2, rfl, hp2, hc2⟩ := hb.at hlt
        by_cases he : a[k] = b[k]
        · have t2 : (((a[k].toNat : Int)) != (b[k].toNat : Int)) = false := by simp [he]
          have HE : Hid (∀ j (h1 : j < a.length) (h2 : j < b.length), j < k + 1 → a[j] = b[j]) := Lib.hid fun j h1 h2 hj => by
            by_cases e : j = k
            · subst e; exact he
            · exact heq j h1 h2 (by omega)
          clear heq he
          go_wp2
          go_quiet (fail)
          go_wp2
          go_roundw
          case rel => exact ⟨k + 1, by omega, by go_num, HE.out, by first | exact Dr.one _ _ | exact Dr.two _ _ _⟩
          case measure => simp [intOf]; omega
        · have t2 : (((a[k].toNat : Int)) != (b[k].toNat : Int)) = true := by
            rw [bne_iff_ne]; intro e; exact he (UInt8.toNat_inj.1 (by omega))
          have HD : Hid (decide (a = b) = false) := Lib.hid (by rw [decide_eq_false_iff_not]; intro e; subst e; exact he rfl)
          clear heq he
          go_wp2
          go_quiet (fail)
          go_wp2
          go_ret
          exact ⟨by rw [HD.out]; rfl, by first | exact Dr.one _ _ | exact Dr.two _ _ _⟩
      · have hkn : k = n := by omega
        subst hkn
        have HD : Hid (decide (a = b) = true) := Lib.hid (by
          rw [decide_eq_true_iff]
          apply List.ext_getElem (by omega)
          intro j h1 h2
          exact heq j h1 h2 (by omega))
        clear heq
        go_wp2
        go_ret
        exact ⟨by rw [HD.out]; rfl, Dr.one _ _⟩
  · have t1 : ((n : Int) != (m : Int)) = true := by simp; omega
    have HD : Hid (decide (a = b) = false) := Lib.hid (by rw [decide_eq_false_iff_not]; intro e; subst e; omega)
    go_enter Tryz.func169, Tryz.ntmps169
    go_wp2
    go_ret
    exact ⟨by rw [HD.out]; rfl, Dr.refl _⟩

theorem blk_two (w : World) (o : Obj) (xs : List Value) (t : TypeId) : Blk ((w.alloc o).alloc (.cells xs.toArray t)) (w.heap.size + 1) t xs := by
  have := heap_alloc_new (w.alloc o) (.cells xs.toArray t)
  rw [show (w.alloc o).heap.size = w.heap.size + 1 by simp] at this
  exact this
theorem NdV.below {w w' : World} {base : Nat} {v : Value} {x : Nd} (h : NdV w base v x) (k : Below w.heap.size w w') : NdV w' base v x := by
  obtain ⟨A1, c1, A2, c2, A3, c3, e, h1, h2, h3⟩ := h
  exact ⟨A1, c1, A2, c2, A3, c3, e, own_below h1 k, own_below h2 k, own_below h3 k⟩
theorem PlV.len {w : World} {base : Nat} {cs : List Value} {p : Pl} (h : PlV w base cs p) : cs.length = 7 := by
  obtain ⟨a, b, c, d, rfl, _⟩ := h; rfl
theorem PlsV.get {w : World} {base : Nat} : ∀ (vs : List (List Value)) (ps : List Pl), PlsV w base vs ps → ∀ i (h : i < ps.length), ∃ cs, PlV w base cs ps[i] ∧ ∀ j, j < 7 → vs.flatten[7 * i + j]? = cs[j]?
  | [], [], _, i, hi => by simp at hi
  | [], _ :: _, h, _, _ => h.elim
  | _ :: _, [], h, _, _ => h.elim
  | c :: vs, p :: ps, h, 0, hi => ⟨c, h.1, fun j hj => by
      have := h.1.len
      rw [List.flatten_cons, List.getElem?_append_left (by omega)]; simp⟩
  | c :: vs, p :: ps, h, i + 1, hi => by
      obtain ⟨cs, h1, h2⟩ := PlsV.get vs ps h.2 i (by simpa using hi)
      refine ⟨cs, by simpa using h1, fun j hj => ?_⟩
      have := h.1.len
      rw [List.flatten_cons, List.getElem?_append_right (by omega), ← h2 j hj]
      congr 1
      omega

/-- A place of a way, in memory. -/
structure WayCell (w : World) (base : Nat) (g i : Nat) (pl : Pl) (a b c d : Value) : Prop where
  cells : ∀ j u, [a, b, c, d, .int .i64 pl.off, .int .u8 (pl.label.toNat : Int), .int .i64 pl.word][j]? = some u → w.cell? ⟨g, 7 * i + j, none⟩ = some u
  nd : NdV w base (.agg #[a, b, c, d]) pl.nd

theorem WayAt.at {w : World} {base : Nat} {v : Value} {way : List Pl} (h : WayAt w base v way) (h0 : way ≠ []) : ∃ g c, v = .slice (some ⟨g, 0, none⟩) way.length c ∧ way.length ≤ c ∧ base ≤ g ∧ g < w.heap.size ∧
    ∀ i (hi : i < way.length), ∃ a b c' d, WayCell w base g i way[i] a b c' d := by
  obtain ⟨vs, ho, hp⟩ := h
  rcases ho.2 with ⟨_, h2⟩ | ⟨g, cap, cur, h1, h2, h3, h4, h5, h6, h7⟩
  · exact absurd (List.length_eq_zero_iff.1 h2) h0
  · refine ⟨g, cap, h1, h4, h2, (Array.getElem?_eq_some_iff.1 h3).1, fun i hi => ?_⟩
    obtain ⟨cs, ⟨a, b, c, d, rfl, hn⟩, hc⟩ := PlsV.get vs way hp i hi
    refine ⟨a, b, c, d, ⟨fun j u hj => ?_, hn⟩⟩
    have hj7 : j < 7 := by have := (List.getElem?_eq_some_iff.1 hj).1; simpa using this
    rw [cell_of_row w g _ cur _ (0, 0) h3, ← hj, ← hc j hj7, ← h7, List.getElem?_take, if_pos (by omega)]
    simp

def zeroPl : Value := .agg #[.slice none 0 0, .int .u64 0, .slice none 0 0, .slice none 0 0, .int .i64 0, .int .u8 0, .int .i64 0]

theorem fro7 {w : World} {g : Nat} {e : TypeId} {a b c d k l m : Value} (h : Blk w g e [a, b, c, d, k, l, m]) : w.frozen? ⟨g, 0, none⟩ = false ∧ w.frozen? ⟨g, 1, none⟩ = false ∧ w.frozen? ⟨g, 2, none⟩ = false ∧ w.frozen? ⟨g, 3, none⟩ = false ∧ w.frozen? ⟨g, 4, none⟩ = false ∧ w.frozen? ⟨g, 5, none⟩ = false ∧ w.frozen? ⟨g, 6, none⟩ = false :=
  ⟨h.frozen 0, h.frozen 1, h.frozen 2, h.frozen 3, h.frozen 4, h.frozen 5, h.frozen 6⟩

theorem place_ret {Q : Ending → World → Prop} {W : World} {tmps : Array Value} {fn : Func} (hr : fn.results = #[.cell 4 225, .tmp 5]) (g : Nat) {a b c d k l m : Value} (h : Blk W g 225 [a, b, c, d, k, l, m]) (v : Value) (h2 : tmps[4]? = some (.pointer (some ⟨g, 0, none⟩))) (h3 : tmps[5]? = some v)
    (hq : Q (.returned (.tuple #[.agg #[a, b, c, d, k, l, m], v])) W) : bodyPost Tryz.prog fn Q Exit.ret { tmps := tmps, defers := [] } W := by
  obtain ⟨y0, y1, y2, y3, y4, y5, y6⟩ := cell7 h
  have hu := run_underlying (P := Tryz.prog) Tryz.underlying225
  refine bodyPost_ret (v := .tuple #[.agg #[a, b, c, d, k, l, m], v]) (by simp [results, hr, go_sem, h2, h3, y0, y1, y2, y3, y4, y5, y6]) rfl hq

/-- Seven cells are written. -/
theorem set7 {w W : World} {base g : Nat} {e : TypeId} {a0 a1 a2 a3 a4 a5 a6 : Value} (h : Blk W g e [a0, a1, a2, a3, a4, a5, a6]) (hb : Below base w W) (hg : base ≤ g) (b0 b1 b2 b3 b4 b5 b6 : Value) :
    ∃ W', W' = (((((((W.setCell ⟨g, 0, none⟩ b0).setCell ⟨g, 1, none⟩ b1).setCell ⟨g, 2, none⟩ b2).setCell ⟨g, 3, none⟩ b3).setCell ⟨g, 4, none⟩ b4).setCell ⟨g, 5, none⟩ b5).setCell ⟨g, 6, none⟩ b6) ∧ Blk W' g e [b0, b1, b2, b3, b4, b5, b6] ∧
    Below base w W' ∧
    Kept W W' (some g) :=
  ⟨_, rfl, ((((((h.set_ 0 b0).set_ 1 b1).set_ 2 b2).set_ 3 b3).set_ 4 b4).set_ 5 b5).set_ 6 b6,
    ((((((hb.setCell (p := ⟨g, 0, none⟩) hg b0).setCell (p := ⟨g, 1, none⟩) hg b1).setCell (p := ⟨g, 2, none⟩) hg b2).setCell (p := ⟨g, 3, none⟩) hg b3).setCell (p := ⟨g, 4, none⟩) hg b4).setCell (p := ⟨g, 5, none⟩) hg b5).setCell (p := ⟨g, 6, none⟩) hg b6,
    ((((((Kept.set_ W g 0 b0).trans' (Kept.set_ _ g 1 b1)).trans' (Kept.set_ _ g 2 b2)).trans' (Kept.set_ _ g 3 b3)).trans' (Kept.set_ _ g 4 b4)).trans' (Kept.set_ _ g 5 b5)).trans' (Kept.set_ _ g 6 b6)⟩

def StandsPost (way : List Pl) (rest : List UInt8) (base : Nat) (w : World) (e : Ending) (w' : World) : Prop :=
  Below w.heap.size w w' ∧ match standsP way rest with
    | none => e = .returned (.tuple #[zeroPl, .bool false])
    | some last => ∃ a b c d, e = .returned (.tuple #[.agg #[a, b, c, d, .int .i64 last.off, .int .u8 (last.label.toNat : Int), .int .i64 last.word], .bool true]) ∧ NdV w' base (.agg #[a, b, c, d]) last.nd

set_option maxHeartbeats 4000000 in
set_option maxRecDepth 100000 in
theorem stands_any {w : World} {base c : Nat} {vw : Value} {way : List Pl} {A : Option Addr} {rest : List UInt8} (hW : WayAt w base vw way) (hl : way.length ≤ 1000000) (hp : ∀ pl ∈ way, pl.nd.pre.length ≤ 1000) (hR : Bs w A rest.length rest) (hr : rest.length ≤ 1000000) :
    Calls Tryz.prog 110 #[vw, .slice A rest.length c] w (StandsPost way rest base w) := by
  have B0 : Blk (w.alloc (.cells #[.slice none 0 0, .int .u64 0, .slice none 0 0, .slice none 0 0, .int .i64 0, .int .u8 0, .int .i64 0] 225)) w.heap.size 225 [.slice none 0 0, .int .u64 0, .slice none 0 0, .slice none 0 0, .int .i64 0, .int .u8 0, .int .i64 0] := heap_alloc_new _ _
  have hb0 : Below w.heap.size w (w.alloc (.cells #[.slice none 0 0, .int .u64 0, .slice none 0 0, .slice none 0 0, .int .i64 0, .int .u8 0, .int .i64 0] 225)) := (Below.refl _ _).alloc (Nat.le_refl _) _
  by_cases h0 : way = []
  · subst h0
    obtain ⟨Av, cv, hvw⟩ : ∃ Av cv, vw = .slice Av 0 cv := by
      obtain ⟨vs, ho, _⟩ := hW
      rcases ho.2 with ⟨h1, _⟩ | ⟨g, cap, cur, h1, _⟩
      · exact ⟨_, _, h1⟩
      · exact ⟨_, _, h1⟩
    subst hvw
    have HV : Hid (standsP [] rest = none) := Lib.hid rfl
    clear hW hR hl
    obtain ⟨f0, f1, f2, f3, f4, f5, f6⟩ := fro7 B0
    obtain ⟨y0, y1, y2, y3, y4, y5, y6⟩ := cell7 B0
    go_enter Tryz.func110, Tryz.ntmps110
    go_wp2_with fail
    refine place_ret rfl w.heap.size B0 (.bool false) rfl rfl ⟨hb0, ?_⟩
    rw [HV.out]
    rfl
  · obtain ⟨g, cv, rfl, hcv, hbg, hgw, hat⟩ := hW.at h0
    have hn0 : 0 < way.length := List.length_pos_iff.2 h0
    obtain ⟨a, b, c', d', hwc⟩ := hat (way.length - 1) (by omega)
    have hlast : way.getLast? = some (way[way.length - 1]'(by omega)) := by rw [List.getLast?_eq_getElem?, List.getElem?_eq_getElem (by omega)]
    have HPn := Lib.hid (hp (way[way.length - 1]'(by omega)) (List.getElem_mem _))
    generalize way[way.length - 1]'(by omega) = last at *
    have HSt : Hid (standsP way rest = if last.nd.pre = rest then some last else none) := Lib.hid (by rw [standsP, hlast])
    have t0 : ((way.length : Int) == 0) = false := by rw [beq_eq_false_iff_ne]; omega
    obtain ⟨m, hm⟩ : ∃ m, m = way.length - 1 := ⟨_, rfl⟩
    have hw1 : IntKind.i64.wrap ((way.length : Int) - 1) = (m : Int) := (wrap64 _ (by omega) (by omega)).trans (by omega)
    have hx1 : decide ((m : Int) < (way.length : Int)) = true := decide_eq_true (by omega)
    have hx2 : m < way.length := by omega
    have hx3 : (m : Int) < (way.length : Int) := by omega
    obtain ⟨A1, p1, A2, p2, A3, p3, e, o1, o2, o3⟩ := hwc.nd
    simp only [Value.agg.injEq] at e
    simp at e
    obtain ⟨rfl, rfl, rfl, rfl⟩ := e
    have HC : Hid (∀ j v, [Value.slice A1 last.nd.pre.length p1, .int .u64 (last.nd.val.toNat : Int), .slice A2 last.nd.labels.length p2, .slice A3 last.nd.kids.length p3, .int .i64 last.off, .int .u8 (last.label.toNat : Int), .int .i64 last.word][j]? = some v → w.cell? ⟨g, 7 * m + j, none⟩ = some v) := Lib.hid (by rw [hm]; exact hwc.cells)
    have HN := Lib.hid hwc.nd
    have hz : ∀ j v, [Value.slice A1 last.nd.pre.length p1, .int .u64 (last.nd.val.toNat : Int), .slice A2 last.nd.labels.length p2, .slice A3 last.nd.kids.length p3, .int .i64 last.off, .int .u8 (last.label.toNat : Int), .int .i64 last.word][j]? = some v → (w.alloc (.cells #[.slice none 0 0, .int .u64 0, .slice none 0 0, .slice none 0 0, .int .i64 0, .int .u8 0, .int .i64 0] 225)).cell? ⟨g, m * 7 + j, none⟩ = some v := fun j v hj => by
      rw [hb0.cell (p := ⟨g, m * 7 + j, none⟩) hgw, Nat.mul_comm]; exact HC.out j v hj
    have z0 := hz 0 _ rfl
    have z1 := hz 1 _ rfl
    have z2 := hz 2 _ rfl
    have z3 := hz 3 _ rfl
    have z4 := hz 4 _ rfl
    have z5 := hz 5 _ rfl
    have z6 := hz 6 _ rfl
    rw [Nat.add_zero] at z0
    have HB0 := Lib.hid B0
    have Hb0 := Lib.hid hb0
    have HR := Lib.hid hR
    clear hat hlast hW hwc o1 o2 o3 hm B0 hz HC hR hb0
    go_enter Tryz.func110, Tryz.ntmps110
    go_wp2_with fail
    have B1 := HB0.out.below ((Below.refl _ _).alloc (Nat.le_refl _) (.cells #[Value.slice A1 last.nd.pre.length p1, .int .u64 (last.nd.val.toNat : Int), .slice A2 last.nd.labels.length p2, .slice A3 last.nd.kids.length p3, .int .i64 last.off, .int .u8 (last.label.toNat : Int), .int .i64 last.word] 225)) HB0.out.lt
    have B2 : Blk ((w.alloc (.cells #[.slice none 0 0, .int .u64 0, .slice none 0 0, .slice none 0 0, .int .i64 0, .int .u8 0, .int .i64 0] 225)).alloc (.cells #[Value.slice A1 last.nd.pre.length p1, .int .u64 (last.nd.val.toNat : Int), .slice A2 last.nd.labels.length p2, .slice A3 last.nd.kids.length p3, .int .i64 last.off, .int .u8 (last.label.toNat : Int), .int .i64 last.word] 225)) (w.heap.size + 1) 225 [Value.slice A1 last.nd.pre.length p1, .int .u64 (last.nd.val.toNat : Int), .slice A2 last.nd.labels.length p2, .slice A3 last.nd.kids.length p3, .int .i64 last.off, .int .u8 (last.label.toNat : Int), .int .i64 last.word] := blk_two _ _ _ _
    have hb2 := Hb0.out.alloc Hb0.out.size (.cells #[Value.slice A1 last.nd.pre.length p1, .int .u64 (last.nd.val.toNat : Int), .slice A2 last.nd.labels.length p2, .slice A3 last.nd.kids.length p3, .int .i64 last.off, .int .u8 (last.label.toNat : Int), .int .i64 last.word] 225)
    clear z0 z1 z2 z3 z4 z5 z6
    generalize ((w.alloc (.cells #[.slice none 0 0, .int .u64 0, .slice none 0 0, .slice none 0 0, .int .i64 0, .int .u8 0, .int .i64 0] 225)).alloc (.cells #[Value.slice A1 last.nd.pre.length p1, .int .u64 (last.nd.val.toNat : Int), .slice A2 last.nd.labels.length p2, .slice A3 last.nd.kids.length p3, .int .i64 last.off, .int .u8 (last.label.toNat : Int), .int .i64 last.word] 225)) = W2 at *
    obtain ⟨A1', p1', A2', p2', A3', p3', e, o1, o2, o3⟩ := HN.out
    simp only [Value.agg.injEq] at e
    simp at e
    obtain ⟨⟨rfl, rfl⟩, ⟨rfl, rfl⟩, ⟨rfl, rfl⟩⟩ := e
    refine (equalB_any A1 A last.nd.pre.length rest.length p1 c last.nd.pre rest W2 (by have := HPn.out; omega) (by omega) (rd_own (own_below o1 hb2)).2 (HR.out.below hb2)).mono ?_
    clear o1 o2 o3
    rintro e w3 ⟨rfl, hd3⟩
    have hb3 := hb2.trans ((hd3.below W2.heap.size).mono hb2.size)
    replace B1 := B1.below (hd3.below _) B1.lt
    replace B2 := B2.below (hd3.below _) B2.lt
    clear hb2 hd3 HR
    obtain ⟨f0, f1, f2, f3, f4, f5, f6⟩ := fro7 B1
    obtain ⟨y0, y1, y2, y3, y4, y5, y6⟩ := cell7 B1
    obtain ⟨z0, z1, z2, z3, z4, z5, z6⟩ := cell7 B2
    have hg1 : w.heap.size ≠ w.heap.size + 1 := by omega
    by_cases he : last.nd.pre = rest
    · have HV : Hid (standsP way rest = some last) := Lib.hid (by rw [HSt.out, if_pos he])
      have hd : decide (last.nd.pre = rest) = true := decide_eq_true he
      rw [hd]
      clear HSt hd he
      have HB := Lib.hid B1
      have Hb := Lib.hid hb3
      clear B1 B2 hb3 HB0 Hb0
      go_wp2_with fail
      obtain ⟨W9, hW9, BF, hbF, -⟩ := set7 HB.out Hb.out (Nat.le_refl _) (Value.slice A1 last.nd.pre.length p1) (.int .u64 (last.nd.val.toNat : Int)) (.slice A2 last.nd.labels.length p2) (.slice A3 last.nd.kids.length p3) (.int .i64 last.off) (.int .u8 (last.label.toNat : Int)) (.int .i64 last.word)
      rw [← hW9]
      refine place_ret rfl w.heap.size BF (.bool true) rfl rfl ⟨hbF, ?_⟩
      rw [HV.out]
      exact ⟨_, _, _, _, rfl, HN.out.below hbF⟩
    · have HV : Hid (standsP way rest = none) := Lib.hid (by rw [HSt.out, if_neg he])
      have hd : decide (last.nd.pre = rest) = false := decide_eq_false he
      rw [hd]
      clear HSt hd he
      have HB := Lib.hid B1
      have Hb := Lib.hid hb3
      clear B1 B2 hb3 HB0 Hb0 z0 z1 z2 z3 z4 z5 z6
      go_wp2_with fail
      obtain ⟨W9, hW9, BF, hbF, -⟩ := set7 HB.out Hb.out (Nat.le_refl _) (.slice none 0 0) (.int .u64 0) (.slice none 0 0) (.slice none 0 0) (.int .i64 0) (.int .u8 0) (.int .i64 0)
      rw [← hW9]
      refine place_ret rfl w.heap.size BF (.bool false) rfl rfl ⟨hbF, ?_⟩
      rw [HV.out]
      rfl

end Go.Proofs.YtcelabojehaioaaGreatDoor

/- A survey of an index in memory, and what keeps rows of bytes, words and nodes. No statement of the program. -/
namespace Go.Proofs.YtcelabojehaioaaGreatDoor
open Go.RowKit

/-- Blocks of bytes, of words and of nodes stay. -/
def KeepB (w w' : World) : Prop := w.heap.size ≤ w'.heap.size ∧ ∀ (g : Nat) (cs : Array Value) (e : TypeId) (fz : Nat × Nat), (e = 5 ∨ e = 23 ∨ e = 223) → w.heap[g]? = some (Obj.cells cs e fz) → w'.heap[g]? = w.heap[g]?

theorem KeepB.refl (w : World) : KeepB w w := ⟨Nat.le_refl _, fun _ _ _ _ _ _ => rfl⟩
theorem KeepB.of_below {w w' : World} (h : Below w.heap.size w w') : KeepB w w' := ⟨h.size, fun g _ _ _ _ hg => h.block g (Array.getElem?_eq_some_iff.1 hg).1⟩
theorem KeepB.trans {a b c : World} (h : KeepB a b) (k : KeepB b c) : KeepB a c :=
  ⟨Nat.le_trans h.1 k.1, fun g cs e fz he hg => by
    have h1 := h.2 g cs e fz he hg
    exact (k.2 g cs e fz he (h1.trans hg)).trans h1⟩
theorem KeepB.of_kept {w w' : World} {g : Nat} (h : Kept w w' (some g)) (hg : ∀ (cs : Array Value) (e : TypeId) (fz : Nat × Nat), (e = 5 ∨ e = 23 ∨ e = 223) → w.heap[g]? ≠ some (Obj.cells cs e fz)) : KeepB w w' :=
  ⟨h.1, fun g' cs e fz he hg' => h.2 g' (Array.getElem?_eq_some_iff.1 hg').1 (fun e' => by injection e' with e'; subst e'; exact hg cs e fz he hg')⟩
theorem KeepB.own {w w' : World} {base k n : Nat} {e : TypeId} {v : Value} {xs : List Value} (h : KeepB w w') (he : e = 5 ∨ e = 23 ∨ e = 223) (ho : w.ownsRow base e k v n xs) : w'.ownsRow base e k v n xs := by
  refine ⟨ho.1, ?_⟩
  rcases ho.2 with h1 | ⟨g, cap, cur, h1, h2, h3, h4⟩
  · exact .inl h1
  · exact .inr ⟨g, cap, cur, h1, h2, (h.2 g _ _ _ he h3).trans h3, h4⟩
theorem KeepB.nd {w w' : World} {base : Nat} {v : Value} {x : Nd} (s : KeepB w w') (h : NdV w base v x) : NdV w' base v x := by
  obtain ⟨A1, c1, A2, c2, A3, c3, e, h1, h2, h3⟩ := h
  exact ⟨A1, c1, A2, c2, A3, c3, e, s.own (.inl rfl) h1, s.own (.inl rfl) h2, s.own (.inr (.inl rfl)) h3⟩
theorem KeepB.box {w w' : World} {g : Nat} {xs : List Value} (s : KeepB w w') (h : Blk w g 223 xs) : Blk w' g 223 xs := (s.2 g _ _ _ (.inr (.inr rfl)) h).trans h

/-- Bytes in a block of bytes, from its first cell on; or none. -/
def Row8 (w : World) (A : Option Addr) (l : List UInt8) : Prop :=
  Bs w A l.length l ∧ (∀ a, A = some a → ∃ (g : Nat) (cs : Array Value) (fz : Nat × Nat), a = ⟨g, 0, none⟩ ∧ w.heap[g]? = some (Obj.cells cs 5 fz)) ∧ (A = none → l = [])

theorem Row8.nil (w : World) : Row8 w none [] := by
  refine ⟨Rd.nil, ?_, fun _ => rfl⟩
  intro a e
  cases e
theorem Row8.keep {w w' : World} {A : Option Addr} {l : List UInt8} (h : Row8 w A l) (s : KeepB w w') : Row8 w' A l := by
  obtain ⟨h1, h2, h3⟩ := h
  refine ⟨⟨h1.1, fun hn => ?_⟩, fun a e => ?_, h3⟩
  · obtain ⟨b, off, e, hb, hc⟩ := h1.2 hn
    obtain ⟨g, cs, fz, e2, hg⟩ := h2 _ e
    injection e2 with e3 e4
    subst e3 e4
    exact ⟨_, _, e, Nat.lt_of_lt_of_le hb s.1, fun j hj => (World.cell?_of_block (w := w) (s.2 _ _ _ _ (.inl rfl) hg)).trans (hc j hj)⟩
  · obtain ⟨g, cs, fz, e2, hg⟩ := h2 a e
    exact ⟨g, cs, fz, e2, (s.2 _ _ _ _ (.inl rfl) hg).trans hg⟩
theorem Row8.cut {w w' : World} {A A' : Option Addr} {l m : List UInt8} (h : Row8 w A l) (hr : Rd w' A' (l.length + m.length) (l.map bv ++ m.map bv)) (hb : Below w.heap.size w w') (hc : CutAt w w' 5 A A' m.length) : Row8 w' A' (l ++ m) := by
  refine ⟨?_, fun a e => ?_, fun e => ?_⟩
  · rw [List.length_append]
    show Rd w' A' _ ((l ++ m).map bv)
    rw [List.map_append]; exact hr
  · rcases hc with ⟨rfl, _⟩ | ⟨g, cs, e1, _, e3⟩
    · obtain ⟨g, cs, fz, e2, hg⟩ := h.2.1 a e
      exact ⟨g, cs, fz, e2, (hb.block _ (Array.getElem?_eq_some_iff.1 hg).1).trans hg⟩
    · rw [e1] at e
      injection e with e
      exact ⟨g, cs, _, e.symm, e3⟩
  · rcases hc with ⟨rfl, e2⟩ | ⟨g, cs, e1, _⟩
    · rw [h.2.2 e, List.eq_nil_of_length_eq_zero e2]; rfl
    · rw [e1] at e; exact nomatch e

/-- An item's cells. -/
def itV (p : List UInt8 × UInt64) : List Value := [.string ⟨p.1.toArray⟩, .int .u64 (p.2.toNat : Int)]

structure SurvAt (w : World) (base sb mb x : Nat) (items : List (List UInt8 × UInt64)) (met : List Int) (v : Value) : Prop where
  box : Blk w sb 235 [.pointer (some ⟨x, 0, none⟩), v, .map (some mb)]
  row : w.ownsRow base 154 2 v items.length (items.map itV).flatten
  map : MapIs w mb (met.map fun o => (o, 1))
  bs : base ≤ sb
  bm : base ≤ mb
  vs : v.ownBlock ≠ some sb
  nod : met.Nodup
  rng : ∀ o ∈ met, 0 ≤ o ∧ o ≤ 65536
  len : items.length ≤ met.length

theorem nodup_le : ∀ (N : Nat) (l : List Int), l.Nodup → (∀ o ∈ l, 0 ≤ o ∧ o < (N : Int)) → l.length ≤ N
  | 0, l, _, h => by
    cases l with
    | nil => simp
    | cons a t => have := h a (List.mem_cons_self ..); omega
  | N + 1, l, hn, h => by
    by_cases hm : (N : Int) ∈ l
    · have h1 := nodup_le N (l.erase (N : Int)) (hn.erase _) (fun o ho => by
        have := (hn.mem_erase_iff).1 ho
        have := h o this.2
        omega)
      rw [List.length_erase_of_mem hm] at h1
      omega
    · have := nodup_le N l hn (fun o ho => by
        have h2 := h o ho
        have : o ≠ (N : Int) := fun e => hm (e ▸ ho)
        omega)
      omega

section
variable {w w' : World} {base sb mb x : Nat} {items : List (List UInt8 × UInt64)} {met : List Int} {v : Value}

theorem SurvAt.few (h : SurvAt w base sb mb x items met v) : items.length ≤ 65537 :=
  Nat.le_trans h.len (nodup_le 65537 met h.nod (fun o ho => by have := h.rng o ho; omega))
theorem SurvAt.sm (h : SurvAt w base sb mb x items met v) : sb ≠ mb := by
  intro e
  have h1 := h.box
  have h2 := h.map
  unfold Blk at h1
  unfold MapIs at h2
  rw [e, h2] at h1
  injection h1 with h1
  cases h1
theorem SurvAt.vm (h : SurvAt w base sb mb x items met v) : v.ownBlock ≠ some mb := by
  intro e
  rcases h.row.2 with ⟨h1, _⟩ | ⟨g, cap, cur, h1, _, h3, _⟩
  · subst h1; exact nomatch e
  · subst h1
    simp only [Value.ownBlock, Option.some.injEq] at e
    subst e
    have h2 := h.map
    unfold MapIs at h2
    rw [h2] at h3
    injection h3 with h3
    cases h3
theorem SurvAt.below (h : SurvAt w base sb mb x items met v) (k : Below w.heap.size w w') : SurvAt w' base sb mb x items met v :=
  ⟨h.box.below k h.box.lt, own_stay h.row (Kept.of_below (r := some sb) k) (.inl (fun e => h.vs e.symm)), h.map.below k, h.bs, h.bm, h.vs, h.nod, h.rng, h.len⟩
/-- The map has one block more. -/
theorem SurvAt.note (h : SurvAt w base sb mb x items met v) {o : Int} (ho : 0 ≤ o ∧ o ≤ 65536) (hn : o ∉ met) : SurvAt (putMap w mb (metE 0 ((met ++ [o]).map fun o => (o, 1))).toArray ((met ++ [o]).map fun o => (o, (1 : Int))).length) base sb mb x items (met ++ [o]) v ∧
    KeepB w (putMap w mb (metE 0 ((met ++ [o]).map fun o => (o, 1))).toArray ((met ++ [o]).map fun o => (o, (1 : Int))).length) ∧ Below base w (putMap w mb (metE 0 ((met ++ [o]).map fun o => (o, 1))).toArray ((met ++ [o]).map fun o => (o, (1 : Int))).length) := by
  have hne : ∀ (cs : Array Value) (e : TypeId) (fz : Nat × Nat), w.heap[mb]? ≠ some (Obj.cells cs e fz) := fun cs e fz hg => by
    have h2 := h.map
    unfold MapIs at h2
    rw [h2] at hg
    injection hg with hg
    cases hg
  have t := putMap_touch w mb (metE 0 ((met ++ [o]).map fun o => (o, 1))).toArray ((met ++ [o]).map fun o => (o, (1 : Int))).length
  refine ⟨⟨h.box.touch t h.sm, own_touch h.row t (fun g hg e => h.vm (by rw [hg, e])), putMap_at _ _ _ _ h.map.lt, h.bs, h.bm, h.vs, ?_, ?_, ?_⟩, ⟨t.size, fun g cs e fz _ hg => t.block g (Array.getElem?_eq_some_iff.1 hg).1 (fun e' => hne cs e fz (e' ▸ hg))⟩, t.below (Nat.le_of_lt (Nat.lt_of_le_of_lt h.bm h.map.lt)) (fun k e => e ▸ h.bm)⟩
  · exact List.nodup_append.2 ⟨h.nod, List.nodup_cons.2 ⟨by simp, List.nodup_nil⟩, fun a ha b hb => by rw [List.mem_singleton] at hb; subst hb; exact fun e => hn (e ▸ ha)⟩
  · intro a ha
    rcases List.mem_append.1 ha with h1 | h1
    · exact h.rng a h1
    · rw [List.mem_singleton] at h1; exact h1 ▸ ho
  · have := h.len; simp; omega

/-- One item more. -/
theorem SurvAt.add (h : SurvAt w base sb mb x items met v) (p : List UInt8 × UInt64) (hl : items.length < met.length) {g6 c6 : Nat} {w6 : World}
    (hO : w6.ownsRow base 154 2 (.slice (some ⟨g6, 0, none⟩) (items.length + 1) c6) (items.length + 1) ((items.map itV).flatten ++ itV p)) (hB : Below base w w6) (hK : Kept w w6 v.ownBlock) (hg : v.ownBlock = some g6 ∨ w.heap.size ≤ g6) :
    SurvAt (w6.setCell ⟨sb, 1, none⟩ (.slice (some ⟨g6, 0, none⟩) (items.length + 1) c6)) base sb mb x (items ++ [p]) met (.slice (some ⟨g6, 0, none⟩) (items.length + 1) c6) ∧
      KeepB w (w6.setCell ⟨sb, 1, none⟩ (.slice (some ⟨g6, 0, none⟩) (items.length + 1) c6)) ∧ Below base w (w6.setCell ⟨sb, 1, none⟩ (.slice (some ⟨g6, 0, none⟩) (items.length + 1) c6)) := by
  have hsl := h.box.lt
  have hml := h.map.lt
  have hgs : g6 ≠ sb := by
    rintro rfl
    rcases hg with e | e
    · exact h.vs e
    · omega
  have B6 : Blk w6 sb 235 [.pointer (some ⟨x, 0, none⟩), v, .map (some mb)] := (hK.2 sb hsl (fun e => h.vs e.symm)).trans h.box
  have M6 : w6.heap[mb]? = w.heap[mb]? := hK.2 mb hml (fun e => h.vm e.symm)
  have k9 := Kept.set_ w6 sb 1 (.slice (some ⟨g6, 0, none⟩) (items.length + 1) c6)
  have s6 : KeepB w w6 := by
    refine ⟨hK.1, fun g cs e fz he hg' => hK.2 g (Array.getElem?_eq_some_iff.1 hg').1 (fun e' => ?_)⟩
    rcases h.row.2 with ⟨h1, _⟩ | ⟨g', cap, cur, h1, _, h3, _⟩
    · subst h1; exact nomatch e'
    · subst h1
      simp only [Value.ownBlock, Option.some.injEq] at e'
      subst e'
      rw [hg'] at h3
      injection h3 with h3
      injection h3 with _ h4
      rw [h4] at he
      exact absurd he (by decide)
  have s9 : KeepB w6 (w6.setCell ⟨sb, 1, none⟩ (.slice (some ⟨g6, 0, none⟩) (items.length + 1) c6)) := KeepB.of_kept k9 (fun cs e fz he hg' => by
    have h3 : w6.heap[sb]? = _ := B6
    rw [hg'] at h3
    injection h3 with h3
    injection h3 with _ h4
    rw [h4] at he
    exact absurd he (by decide))
  refine ⟨⟨B6.set_ 1 _, ?_, ?_, h.bs, h.bm, by simp [Value.ownBlock, hgs], h.nod, h.rng, by simp; omega⟩, s6.trans s9, hB.setCell (p := ⟨sb, 1, none⟩) h.bs _⟩
  · have := own_stay hO k9 (.inl (by simp [Value.ownBlock, Ne.symm hgs]))
    simpa using this
  · show (w6.setCell _ _).heap[mb]? = _
    rw [k9.2 mb (Nat.lt_of_lt_of_le hml hK.1) (fun e => h.sm (Option.some.inj e).symm), M6]
    exact h.map
end

end Go.Proofs.YtcelabojehaioaaGreatDoor

/- Plain laws of chains: a list of versions ends, each in a block of its own. -/
namespace Go.Proofs.YtcelabojehaioaaGreatDoor

/-- What a list of links is: each in a block of its own, with falling stamps. -/
structure ListInv (s : St) (l : List Lk) : Prop where
  nod : (l.map (·.off)).Nodup
  at_ : ∀ k ∈ l, 0 ≤ k.off ∧ k.off ≤ 65536 ∧ classP s k.off = 1 ∧ decRc (wordsAt s.ws (k.off.toNat / 8) 8) = some k.rc ∧ lastStamp l ≤ k.rc.stamp.toNat

theorem ListInv.nil (s : St) : ListInv s [] := ⟨List.nodup_nil, fun _ h => nomatch h⟩
theorem lastStamp_snoc (l : List Lk) (k : Lk) : lastStamp (l ++ [k]) = k.rc.stamp.toNat := by
  unfold lastStamp
  rw [List.getLast?_append]
  rfl
theorem ListInv.step {s : St} {l : List Lk} (h : ListInv s l) {off : Int} {r : Rc} (ho : 0 ≤ off ∧ off ≤ 65536) (hc : classP s off = 1) (hd : decRc (wordsAt s.ws (off.toNat / 8) 8) = some r) (hs : r.stamp.toNat < lastStamp l) : ListInv s (l ++ [⟨off, r⟩]) := by
  refine ⟨?_, fun k hk => ?_⟩
  · rw [List.map_append]
    refine List.nodup_append.2 ⟨h.nod, by simp, fun a ha b hb => ?_⟩
    rw [List.map_singleton, List.mem_singleton] at hb
    subst hb
    rintro rfl
    obtain ⟨k, hk, e⟩ := List.mem_map.1 ha
    obtain ⟨_, _, _, h3, h4⟩ := h.at_ k hk
    rw [e, hd] at h3
    injection h3 with h3
    rw [← h3] at h4
    omega
  · rw [lastStamp_snoc]
    rcases List.mem_append.1 hk with hk | hk
    · obtain ⟨h1, h2, h3, h4, h5⟩ := h.at_ k hk
      exact ⟨h1, h2, h3, h4, by show r.stamp.toNat ≤ _; omega⟩
    · rw [List.mem_singleton] at hk
      subst hk
      exact ⟨ho.1, ho.2, hc, hd, Nat.le_refl _⟩
theorem ListInv.few {s : St} {l : List Lk} (h : ListInv s l) : l.length ≤ 65537 := by
  have := nodup_le 65537 (l.map (·.off)) h.nod (fun o ho => by
    obtain ⟨k, hk, rfl⟩ := List.mem_map.1 ho
    obtain ⟨h1, h2, _⟩ := h.at_ k hk
    omega)
  rwa [List.length_map] at this

/-- Where a block of one line lies. -/
theorem class_one {L : Nat} {s : St} {off : Int} (ok : ShOk L s.sh) (hn : s.tk.length = s.sh.slabs) (hL : L ≤ 1024) (h : classP s off = 1) : 0 ≤ off ∧ off ≤ 65536 ∧ off = ((8 * (off.toNat / 8) : Nat) : Int) ∧ off.toNat / 8 + 8 ≤ 8 * L := by
  obtain ⟨i, a, hi, ho, _, hfit⟩ := class_at (s := s) (off := off) (by rw [h]; decide)
  rw [h] at ho hfit
  simp only [linesN] at ho hfit
  have := ok.data
  have := ok.fits
  have := ok.slabs
  rw [hn] at hi
  omega

end Go.Proofs.YtcelabojehaioaaGreatDoor
