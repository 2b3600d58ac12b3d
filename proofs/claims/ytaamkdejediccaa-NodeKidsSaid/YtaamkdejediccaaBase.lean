/- Words for memory that all walks of this seat use: a slice that reads as a list of cells, of bytes, of words; how such a reading is kept. No statement of the program. -/
import Derived.WalkKit
import Derived.WalkSpells
import Derived.WalkLawsBesides
import Derived.Lib.Hide
import Derived.Deep.AppendLies
import Derived.Deep.RegionLaw
import Derived.Outline
import Derived.Lib.BytesEntry
import Derived.Deep.Draws
import Derived.Deep.QuietTactic
import Derived.BigQuiet
import Derived.Laws.BitsAllLaws
import Derived.Laws.Bits64
namespace Go.Proofs.Ytaamkdejediccaa
open Go.RowKit

/-- The slice at A of n elements (one cell each) holds the cells xs. -/
def Rd (w : World) (A : Option Addr) (n : Nat) (xs : List Value) : Prop :=
  xs.length = n ∧ (0 < n → ∃ b off, A = some ⟨b, off, none⟩ ∧ b < w.heap.size ∧ ∀ j, j < n → w.cell? ⟨b, off + j, none⟩ = xs[j]?)

theorem Rd.nil {w : World} {A : Option Addr} : Rd w A 0 [] := ⟨rfl, fun h => absurd h (by omega)⟩

theorem Rd.at {w : World} {A : Option Addr} {n : Nat} {xs : List Value} (h : Rd w A n xs) {k : Nat} (hk : k < n) :
    ∃ b off u, A = some ⟨b, off, none⟩ ∧ b < w.heap.size ∧ xs[k]? = some u ∧ w.cell? ⟨b, off + k, none⟩ = some u := by
  obtain ⟨b, off, e, hb, hc⟩ := h.2 (by omega)
  have hl : k < xs.length := by have := h.1; omega
  exact ⟨b, off, xs[k], e, hb, List.getElem?_eq_getElem hl, (hc k hk).trans (List.getElem?_eq_getElem hl)⟩

theorem Rd.keep {w w' : World} {A : Option Addr} {n : Nat} {xs : List Value} (h : Rd w A n xs) (hs : w.heap.size ≤ w'.heap.size)
    (hk : ∀ k, k < w.heap.size → w'.heap[k]? = w.heap[k]?) : Rd w' A n xs :=
  ⟨h.1, fun hn => by
    obtain ⟨b, off, e, hb, hc⟩ := h.2 hn
    exact ⟨b, off, e, by omega, fun j hj => (World.cell?_of_block (w := w) (hk b hb)).trans (hc j hj)⟩⟩

theorem Rd.below {w w' : World} {A : Option Addr} {n : Nat} {xs : List Value} (h : Rd w A n xs) (hb : Below w.heap.size w w') : Rd w' A n xs :=
  h.keep hb.size hb.block

/-- A byte, a word, as they lie in a cell. -/
def bv (b : UInt8) : Value := .int .u8 (b.toNat : Int)
def wv (x : UInt64) : Value := .int .u64 (x.toNat : Int)

def Bs (w : World) (A : Option Addr) (n : Nat) (l : List UInt8) : Prop := Rd w A n (l.map bv)
def Ws (w : World) (A : Option Addr) (n : Nat) (l : List UInt64) : Prop := Rd w A n (l.map wv)

theorem Bs.len {w : World} {A : Option Addr} {n : Nat} {l : List UInt8} (h : Bs w A n l) : l.length = n := by
  have := h.1; simpa using this
theorem Ws.len {w : World} {A : Option Addr} {n : Nat} {l : List UInt64} (h : Ws w A n l) : l.length = n := by
  have := h.1; simpa using this

theorem Bs.below {w w' : World} {A : Option Addr} {n : Nat} {l : List UInt8} (h : Bs w A n l) (hb : Below w.heap.size w w') : Bs w' A n l := Rd.below h hb
theorem Ws.below {w w' : World} {A : Option Addr} {n : Nat} {l : List UInt64} (h : Ws w A n l) (hb : Below w.heap.size w w') : Ws w' A n l := Rd.below h hb

theorem Rd.take {w : World} {A : Option Addr} {n k : Nat} {xs : List Value} (h : Rd w A n xs) (hk : k ≤ n) : Rd w A k (xs.take k) := by
  refine ⟨by rw [List.length_take, h.1]; omega, fun hk0 => ?_⟩
  obtain ⟨b, off, e, hb, hc⟩ := h.2 (by omega)
  exact ⟨b, off, e, hb, fun j hj => by rw [hc j (by omega), List.getElem?_take, if_pos hj]⟩
theorem Bs.take {w : World} {A : Option Addr} {n k : Nat} {l : List UInt8} (h : Bs w A n l) (hk : k ≤ n) : Bs w A k (l.take k) := by
  have := Rd.take h hk
  rwa [← List.map_take] at this
theorem Ws.take {w : World} {A : Option Addr} {n k : Nat} {l : List UInt64} (h : Ws w A n l) (hk : k ≤ n) : Ws w A k (l.take k) := by
  have := Rd.take h hk
  rwa [← List.map_take] at this

theorem Bs.at {w : World} {A : Option Addr} {n : Nat} {l : List UInt8} (h : Bs w A n l) {k : Nat} (hk : k < n) :
    ∃ (hl : k < l.length) (b off : Nat), A = some ⟨b, off, none⟩ ∧ b < w.heap.size ∧ w.cell? ⟨b, off + k, none⟩ = some (.int .u8 (l[k].toNat : Int)) := by
  have hl : k < l.length := by have := h.len; omega
  obtain ⟨b, off, u, e, hb, hu, hc⟩ := Rd.at h hk
  refine ⟨hl, b, off, e, hb, ?_⟩
  rw [hc, ← hu]
  simp [bv, hl]

theorem Ws.at {w : World} {A : Option Addr} {n : Nat} {l : List UInt64} (h : Ws w A n l) {k : Nat} (hk : k < n) :
    ∃ (hl : k < l.length) (b off : Nat), A = some ⟨b, off, none⟩ ∧ b < w.heap.size ∧ w.cell? ⟨b, off + k, none⟩ = some (.int .u64 (l[k].toNat : Int)) := by
  have hl : k < l.length := by have := h.len; omega
  obtain ⟨b, off, u, e, hb, hu, hc⟩ := Rd.at h hk
  refine ⟨hl, b, off, e, hb, ?_⟩
  rw [hc, ← hu]
  simp [wv, hl]

/-- A row of the call's own reads as a slice. -/
theorem rd_of_own {w : World} {base : Nat} {e : TypeId} {v : Value} {n : Nat} {xs : List Value} (h : w.ownsRow base e 1 v n xs) :
    ∃ A c, v = .slice A n c ∧ n ≤ c ∧ Rd w A n xs := by
  obtain ⟨h1, h2⟩ := h
  rcases h2 with ⟨rfl, rfl⟩ | ⟨g, cap, cur, rfl, _, hg, hnc, _, hcs, htake⟩
  · have : xs = [] := List.eq_nil_of_length_eq_zero (by simpa using h1)
    subst this
    exact ⟨none, 0, rfl, Nat.le_refl _, Rd.nil⟩
  · refine ⟨_, _, rfl, hnc, by simpa using h1, fun hn => ⟨g, 0, rfl, ?_, fun j hj => ?_⟩⟩
    · exact (Array.getElem?_eq_some_iff.1 hg).1
    · rw [cell_of_row w g (0 + j) cur e (0, 0) hg, ← htake, List.getElem?_take, if_pos (by omega)]
      simp

/-- The world has drawn, nothing else. -/
def Dr (w w' : World) : Prop := ∃ q, w' = w.drewN q
theorem Dr.refl (w : World) : Dr w w := ⟨0, rfl⟩
theorem Dr.one (w : World) (q : Nat) : Dr w (w.drewN q) := ⟨q, rfl⟩
theorem Dr.two (w : World) (q r : Nat) : Dr w ((w.drewN q).drewN r) := ⟨q + r, World.drewN_drewN _ _ _⟩
theorem Dr.trans {a b c : World} (h : Dr a b) (k : Dr b c) : Dr a c := by
  obtain ⟨q, rfl⟩ := h; obtain ⟨r, rfl⟩ := k; exact Dr.two _ _ _
theorem Dr.below {w w' : World} (h : Dr w w') (B : Nat) : Below B w w' := by
  obtain ⟨q, rfl⟩ := h; exact ⟨rfl, rfl, rfl, Nat.le_refl _, fun _ _ => rfl⟩

theorem own_cell {w : World} {base g cap : Nat} {e : TypeId} {n : Nat} {xs : List Value} (h : w.ownsRow base e 1 (.slice (some ⟨g, 0, none⟩) n cap) n xs) {k : Nat} (hk : k < n) : ∃ u, w.cell? ⟨g, k, none⟩ = some u := by
  rw [h.cellAt k (by omega)]
  exact ⟨_, List.getElem?_eq_getElem (by have := h.1; omega)⟩

theorem ret_congr {v u : Value} (h : v = u) : Ending.returned v = Ending.returned u := by rw [h]

theorem oneCell_bv (l : List UInt8) : ∀ u ∈ l.map bv, u.oneCell' = true := by
  intro u hu
  obtain ⟨_, _, rfl⟩ := List.mem_map.1 hu
  rfl
theorem oneCell_wv (l : List UInt64) : ∀ u ∈ l.map wv, u.oneCell' = true := by
  intro u hu
  obtain ⟨_, _, rfl⟩ := List.mem_map.1 hu
  rfl

/-- What the frame of a proof tells of a slice of integers that came in (the shell's own words). -/
def IsRow (k : IntKind) (w : World) (a : Option Addr) (len cap : Nat) (zs : List Int) : Prop :=
  (a = none ∧ len = 0 ∧ cap = 0 ∧ zs = []) ∨
  ∃ x, a = some x ∧ len ≤ cap ∧ cap ≤ maxLen ∧ zs.length = cap ∧ (∀ i, i < zs.length → w.cell? (x.add i) = some (.int k (zs.getD i 0))) ∧ ∀ n ∈ zs, (Lit.int k n).wf = true

theorem block_lt_of_cell {w : World} {a : Addr} {v : Value} (h : w.cell? a = some v) : a.block < w.heap.size := by
  rcases Nat.lt_or_ge a.block w.heap.size with hlt | hge
  · exact hlt
  · rw [World.cell?, Array.getElem?_eq_none hge] at h; cases h

theorem addr_of_cell {w : World} {x : Addr} {v : Value} (h : w.cell? (x.add 0) = some v) : ∃ b off, x = ⟨b, off, none⟩ := by
  obtain ⟨b, off, s⟩ := x
  rcases s with _ | s
  · exact ⟨b, off, rfl⟩
  · exfalso
    unfold World.cell? Addr.add at h
    split at h
    · split at h <;> simp_all
    · cases h

theorem rd_of_row {k : IntKind} {w : World} {a : Option Addr} {len cap : Nat} {zs : List Int} (h : IsRow k w a len cap zs) : Rd w a len ((zs.take len).map (Value.int k)) ∧ (len ≤ maxLen ∧ len ≤ cap) ∧ ∀ n ∈ zs, (Lit.int k n).wf = true := by
  rcases h with ⟨rfl, rfl, rfl, rfl⟩ | ⟨x, rfl, hl, hm, hz, hc, hwf⟩
  · exact ⟨Rd.nil, ⟨Nat.zero_le _, Nat.le_refl _⟩, by simp⟩
  · refine ⟨⟨by simp; omega, fun hn => ?_⟩, ⟨by omega, hl⟩, hwf⟩
    have h0 := hc 0 (by omega)
    obtain ⟨b, off, rfl⟩ := addr_of_cell h0
    refine ⟨b, off, rfl, block_lt_of_cell h0, fun j hj => ?_⟩
    have := hc j (by omega)
    rw [Addr.add_lit] at this
    rw [this]
    simp [hj, List.getD, show j < zs.length by omega]

theorem bs_of_row {w : World} {a : Option Addr} {len cap : Nat} {zs : List Int} (h : IsRow .u8 w a len cap zs) : ∃ l : List UInt8, Bs w a len l ∧ len ≤ maxLen ∧ len ≤ cap := by
  obtain ⟨h1, h2, h3⟩ := rd_of_row h
  refine ⟨(zs.take len).map fun n => UInt8.ofNat n.toNat, ?_, h2⟩
  have e : ((zs.take len).map fun n => UInt8.ofNat n.toNat).map bv = (zs.take len).map (Value.int .u8) := by
    rw [List.map_map]
    apply List.map_congr_left
    intro n hn
    have := h3 n (List.mem_of_mem_take hn)
    have hb : 0 ≤ n ∧ n ≤ 255 := by simpa [Lit.wf, IntKind.min, IntKind.max, IntKind.bits, IntKind.signed] using this
    simp only [Function.comp_apply, bv, UInt8.toNat_ofNat']
    congr 1
    omega
  rw [Bs, e]
  exact h1

theorem ws_of_row {w : World} {a : Option Addr} {len cap : Nat} {zs : List Int} (h : IsRow .u64 w a len cap zs) : ∃ l : List UInt64, Ws w a len l ∧ len ≤ maxLen ∧ len ≤ cap := by
  obtain ⟨h1, h2, h3⟩ := rd_of_row h
  refine ⟨(zs.take len).map fun n => UInt64.ofNat n.toNat, ?_, h2⟩
  have e : ((zs.take len).map fun n => UInt64.ofNat n.toNat).map wv = (zs.take len).map (Value.int .u64) := by
    rw [List.map_map]
    apply List.map_congr_left
    intro n hn
    have := h3 n (List.mem_of_mem_take hn)
    have hb : 0 ≤ n ∧ n ≤ 18446744073709551615 := by simpa [Lit.wf, IntKind.min, IntKind.max, IntKind.bits, IntKind.signed] using this
    simp only [Function.comp_apply, wv, UInt64.toNat_ofNat']
    congr 1
    omega
  rw [Ws, e]
  exact h1

theorem u64_of_wf {a : Int} (h : (Lit.int .u64 a).wf = true) : ∃ x : Nat, a = (x : Int) ∧ x < 18446744073709551616 := by
  have hb : 0 ≤ a ∧ a ≤ 18446744073709551615 := by simpa [Lit.wf, IntKind.min, IntKind.max, IntKind.bits, IntKind.signed] using h
  exact ⟨a.toNat, by omega, by omega⟩
theorem u8_of_wf {a : Int} (h : (Lit.int .u8 a).wf = true) : ∃ x : UInt8, a = (x.toNat : Int) := by
  have hb : 0 ≤ a ∧ a ≤ 255 := by simpa [Lit.wf, IntKind.min, IntKind.max, IntKind.bits, IntKind.signed] using h
  exact ⟨UInt8.ofNat a.toNat, by simp only [UInt8.toNat_ofNat']; omega⟩

/-- Zeroes of a make. -/
theorem made_bytes (n : Nat) : (madeCells (Value.int .u8 0).cells (n * 1)).toList = (List.replicate n (0 : UInt8)).map bv := by
  apply List.ext_getElem
  · simp [madeCells]
  · intro i h1 h2
    simp [madeCells, Value.cells, Nat.mod_one, bv]
theorem made_words (n : Nat) : (madeCells (Value.int .u64 0).cells (n * 1)).toList = (List.replicate n (0 : UInt64)).map wv := by
  apply List.ext_getElem
  · simp [madeCells]
  · intro i h1 h2
    simp [madeCells, Value.cells, Nat.mod_one, wv]

/-- The bytes of a slice, loaded by an entry of the model. -/
theorem load_of_bs {P : Program} {w : World} {A : Option Addr} {n : Nat} {l : List UInt8} (h : Bs w A n l) (c : Nat) :
    (Extern.Bytes.bytesOf (.slice A n c)).run P w = .ok ⟨l.toArray⟩ w := by
  have hlen := h.len
  rcases A with _ | ad
  · have hn : n = 0 := by
      rcases Nat.eq_zero_or_pos n with h0 | h0
      · exact h0
      · obtain ⟨_, _, e, _⟩ := h.2 h0; cases e
    subst hn
    have hl : l = [] := List.eq_nil_of_length_eq_zero hlen
    subst hl
    rfl
  · have key := Lib.run_loadBytesX (P := P) w (l.map fun b => (b.toNat : Int)) ad .empty (fun j x hx => by
      have hjl : j < l.length := by
        have := (List.getElem?_eq_some_iff.1 hx).1
        simpa using this
      obtain ⟨hl, b, off, e, hb, hc⟩ := h.at (k := j) (by omega)
      injection e with e
      subst e
      rw [Addr.add_lit, hc]
      rw [List.getElem?_map, List.getElem?_eq_getElem hjl] at hx
      simp only [Option.map_some, Option.some.injEq] at hx
      rw [hx])
    simp only [List.length_map, hlen] at key
    show (Extern.Bytes.loadBytes ad n .empty).run P w = _
    rw [key]
    congr 1
    apply ByteArray.ext
    show (#[] : Array UInt8) ++ (Lib.bytesOf _).toArray = l.toArray
    simp [Lib.bytesOf, Function.comp_def]

theorem run_compare_slices {P : Program} {w : World} {A B : Option Addr} {n m : Nat} {a b : List UInt8} (ha : Bs w A n a) (hb : Bs w B m b) (c d : Nat) :
    (Extern.BytealgCompare.compare #[.slice A n c, .slice B m d]).run P w = .ok (.int .i64 (Lib.compareBytes a b)) w := by
  change Sem.run P (do pure (goInt (Extern.BytealgCompare.cmp (← Extern.Bytes.bytesOf (.slice A n c)) (← Extern.Bytes.bytesOf (.slice B m d))))) w = _
  simp only [Sem.run_bind, Sem.run_pure, load_of_bs ha, load_of_bs hb, Result.andThen]
  rw [Lib.cmp_eq]
  rfl

/-- string(l), l a slice of bytes. -/
theorem run_string_of_bs {P : Program} {w : World} {src e dst : TypeId} (hs : P.underlying src = some (.slice e)) (he : P.underlying e = some (.int .u8)) (hd : P.underlying dst = some .string)
    {A : Option Addr} {n : Nat} {l : List UInt8} (h : Bs w A n l) (c : Nat) : (convert src dst (.slice A n c)).run P w = .ok (.string ⟨l.toArray⟩) w := by
  have hlen := h.len
  rcases A with _ | ad
  · have hn : n = 0 := by
      rcases Nat.eq_zero_or_pos n with h0 | h0
      · exact h0
      · obtain ⟨_, _, e, _⟩ := h.2 h0; cases e
    subst hn
    have hl : l = [] := List.eq_nil_of_length_eq_zero hlen
    subst hl
    exact run_convert_bytes_nil w src e hs he 0 c dst hd
  · have hl : (loadCells ad n).run P w = .ok ((l.map fun b => (b.toNat : Int)).map (Value.int .u8)).toArray w := by
      have := run_loadCells_list (P := P) w ad ((l.map fun b => (b.toNat : Int)).map (Value.int .u8)) (fun j v hj => by
        have hjl : j < l.length := by
          have := (List.getElem?_eq_some_iff.1 hj).1
          simpa using this
        obtain ⟨hl, b, off, e, hb, hc⟩ := h.at (k := j) (by omega)
        injection e with e
        subst e
        rw [Addr.add_lit, hc]
        simp only [List.getElem?_map, List.getElem?_eq_getElem hjl, Option.map_some, Option.some.injEq] at hj
        rw [hj])
      simpa [hlen] using this
    rw [run_convert_bytes_string w src dst e _ n c hs he hd, run_bytesToString w _ n c _ hl, foldl_push_bytes]
    congr 2
    apply ByteArray.ext
    show (#[] : Array UInt8) ++ _ = l.toArray
    simp [Function.comp_def]

/-- A slice type, its element type of one cell, that one's zero and bytes. -/
structure RowTy (P : Program) (t e : TypeId) (z : Value) (bytes : Nat) : Prop where
  ht : P.underlying t = some (.slice e)
  hi : (P.info? e).map (fun i => (i.zero, i.size, i.bytes)) = some (some z, 1, bytes)
  hz : z.cells.size = 1

/-- Where s[lo:] begins: at the array's end Go keeps the address. -/
def subA (A : Option Addr) (c lo : Nat) : Option Addr := if c = lo then A else A.map (·.add lo)

theorem subA_zero (A : Option Addr) (c : Nat) : subA A c 0 = A := by
  unfold subA; split
  · rfl
  · cases A with
    | none => rfl
    | some a => simp [Addr.add]

theorem Rd.sub {w : World} {A : Option Addr} {n : Nat} {xs : List Value} (h : Rd w A n xs) {c lo hi : Nat} (h1 : lo ≤ hi) (h2 : hi ≤ n) (hc : n ≤ c) : Rd w (subA A c lo) (hi - lo) ((xs.drop lo).take (hi - lo)) := by
  refine ⟨by rw [List.length_take, List.length_drop, h.1]; omega, fun h0 => ?_⟩
  obtain ⟨b, off, rfl, hb, hcl⟩ := h.2 (by omega)
  refine ⟨b, off + lo, ?_, hb, fun j hj => ?_⟩
  · rw [subA, if_neg (by omega)]; simp [Addr.add_lit]
  · rw [Nat.add_assoc, hcl (lo + j) (by omega), List.getElem?_take, if_pos hj, List.getElem?_drop]

section
variable {P : Program} {t e : TypeId} {z : Value} {bytes : Nat}

theorem RowTy.sizeOf_run (T : RowTy P t e z bytes) (w : World) : (sizeOf e).run P w = .ok 1 w := by
  obtain ⟨i, hi, hz0, hz1, hz2⟩ := info_parts T.hi
  simp [sizeOf, typeInfo, hi, hz1]

/-- s[lo:hi]. -/
theorem run_sub (T : RowTy P t e z bytes) (A : Option Addr) (n c : Nat) (k1 k2 : IntKind) (lo hi : Nat) (h1 : lo ≤ hi) (h2 : hi ≤ c) (w : World) :
    (Instr.slice t (.slice A n c) (some (.int k1 (lo : Int))) (some (.int k2 (hi : Int))) none).run P w = .ok (.slice (subA A c lo) (hi - lo) (c - lo)) w := by
  have e1 := run_sliceBound (P := P) (w := w) k2 (hi : Int) c .sliceAcap (by omega) (by omega)
  have e2 := run_sliceBound (P := P) (w := w) k1 (lo : Int) hi .sliceB (by omega) (by omega)
  simp [Instr.slice, run_underlying T.ht, Instr.sliceBounds, e1, e2, T.sizeOf_run, subA]
/-- s[lo:]. -/
theorem run_from (T : RowTy P t e z bytes) (A : Option Addr) (n c : Nat) (k1 : IntKind) (lo : Nat) (h1 : lo ≤ n) (w : World) :
    (Instr.slice t (.slice A n c) (some (.int k1 (lo : Int))) none none).run P w = .ok (.slice (subA A c lo) (n - lo) (c - lo)) w := by
  have e2 := run_sliceBound (P := P) (w := w) k1 (lo : Int) n .sliceB (by omega) (by omega)
  simp [Instr.slice, run_underlying T.ht, Instr.sliceBounds, e2, T.sizeOf_run, subA]
/-- s[:hi]. -/
theorem run_upto (T : RowTy P t e z bytes) (A : Option Addr) (n c : Nat) (k2 : IntKind) (hi : Nat) (h2 : hi ≤ c) (w : World) :
    (Instr.slice t (.slice A n c) none (some (.int k2 (hi : Int))) none).run P w = .ok (.slice A hi c) w := by
  have e1 := run_sliceBound (P := P) (w := w) k2 (hi : Int) c .sliceAcap (by omega) (by omega)
  have e3 : subA A c 0 = A := subA_zero A c
  unfold subA at e3
  simp [Instr.slice, run_underlying T.ht, Instr.sliceBounds, e1, T.sizeOf_run]
  simpa using e3
end

/-- What 'append(row, s...)' leaves, s a slice that reads as a list, nil let in. -/
theorem append_rd {P : Program} {t e : TypeId} {z : Value} {bytes : Nat} (T : RowTy P t e z bytes) (ty : TypeId) {w : World} {base : Nat} {v : Value} {n : Nat} {xs news : List Value}
    (hown : w.ownsRow base e 1 v n xs) {A : Option Addr} {m : Nat} (hr : Rd w A m news)
    (h1 : ∀ u ∈ news, u.oneCell' = true) (hm : n + m ≤ 1000000000) (hby : bytes ≤ 64) (hbase : base ≤ w.heap.size) (c : Nat) :
    ∃ v' w', (Builtin.append_ #[t, t] ty #[v, .slice A m c]).run P w = .ok v' w' ∧ w'.ownsRow base e 1 v' (n + m) (xs ++ news) ∧ Below base w w' := by
  obtain ⟨i, hi, hz0, hz1, hz2⟩ := info_parts T.hi
  rcases A with _ | ad
  · have h0 : m = 0 := by
      rcases Nat.eq_zero_or_pos m with h0 | h0
      · exact h0
      · obtain ⟨_, _, e, _⟩ := hr.2 h0; cases e
    subst h0
    have hn : news = [] := List.eq_nil_of_length_eq_zero hr.1
    subst hn
    refine ⟨v, w, ?_, by simpa using hown, Below.refl _ _⟩
    rcases hown.2 with ⟨rfl, rfl⟩ | ⟨g, cap, cur, rfl, _, _, hnc, _⟩
    · simp [Builtin.append_, run_underlying T.ht, sizeOf, typeInfo, hi, Builtin.lenOf, Builtin.firstCells]
    · simp [Builtin.append_, run_underlying T.ht, sizeOf, typeInfo, hi, Builtin.lenOf, Builtin.firstCells, hnc, storeCells]
  · have hcells : ∀ j u, news[j]? = some u → w.cell? (ad.add j) = some u := by
      intro j u hu
      have hj : j < m := by
        have := (List.getElem?_eq_some_iff.1 hu).1
        have := hr.1
        omega
      obtain ⟨b, off, e, _, hc⟩ := hr.2 (by omega)
      injection e with e
      subst e
      rw [Addr.add_lit, hc j hj, hu]
    have hmul : (n + m) * bytes ≤ 1000000000 * 64 := Nat.mul_le_mul hm hby
    obtain ⟨v', w', hrun, h2, h3, _⟩ := run_append_own (P := P) w base t ty e i z 1 bytes T.ht hi hz0 hz1 hz2 T.hz (by decide) v n xs hown ad m c news (by simp [hr.1]) hcells h1
      (by unfold maxLen; omega) (by omega) hbase
    exact ⟨v', w', hrun, h2, (Below.refl _ _).grown h3 hbase (fun k hk => (hown.lt k hk).1)⟩

theorem wpList_app_rd {P : Program} {ops : Array Oper} {rest : List Oper} {o : Oper} {a : Act} {w : World} {Q : Exit → Act → World → Prop} (hgd : o.guard = none) (s x : Operand) (t : TypeId)
    (ho : o.op = .call { callee := .builtin .append, args := #[s, x], argTypes := #[t, t] }) {e : TypeId} {z : Value} {bytes : Nat} (T : RowTy P t e z bytes)
    (base : Nat) (v : Value) (n : Nat) (xs news : List Value) (hs : a.eval s = v) (hown : w.ownsRow base e 1 v n xs) (A : Option Addr) (m c : Nat) (hx : a.eval x = .slice A m c) (hr : Rd w A m news)
    (h1 : ∀ u ∈ news, u.oneCell' = true) (hm : n + m ≤ 1000000000) (hby : bytes ≤ 64) (hbase : base ≤ w.heap.size)
    (h : ∀ v' w', w'.ownsRow base e 1 v' (n + m) (xs ++ news) → Below base w w' → wpList P ops Q rest (a.put o.dst v') w') : wpList P ops Q (o :: rest) a w := by
  refine wpList_plain hgd fun K hK => ?_
  obtain ⟨v', w', hrun, h2, h3⟩ := append_rd T o.type hown hr h1 hm hby hbase c
  unfold Oper.wp execOp
  simp only [ho, resolve, invoke, builtin, Sem.run_bind, Sem.run_pure, Result.andThen_ok, List.map_toArray, List.map_cons, List.map_nil, hs, hx, hrun]
  exact hK _ _ (h v' w' h2 h3)

theorem step_app_rd {P : Program} {ops : Array Oper} {o : Oper} {a : Act} {w : World} {K : Act → World → Prop} {Q : Exit → Act → World → Prop} {E : Prop} (hgd : o.guard = none) (s x : Operand) (t : TypeId)
    (ho : o.op = .call { callee := .builtin .append, args := #[s, x], argTypes := #[t, t] }) {e : TypeId} {z : Value} {bytes : Nat} (T : RowTy P t e z bytes)
    (base : Nat) (v : Value) (n : Nat) (xs news : List Value) (hs : a.eval s = v) (hown : w.ownsRow base e 1 v n xs) (A : Option Addr) (m c : Nat) (hx : a.eval x = .slice A m c) (hr : Rd w A m news)
    (h1 : ∀ u ∈ news, u.oneCell' = true) (hm : n + m ≤ 1000000000) (hby : bytes ≤ 64) (hbase : base ≤ w.heap.size)
    (h : ∀ v' w', w'.ownsRow base e 1 v' (n + m) (xs ++ news) → Below base w w' → K (a.put o.dst v') w') :
    if Region.wanted o (yielded ops a.tmps) = true then Oper.wp P o a w K Q else E := by
  have hwt : Region.wanted o (yielded ops a.tmps) = true := by simp [Region.wanted, hgd]
  rw [if_pos hwt]
  obtain ⟨v', w', hrun, h2, h3⟩ := append_rd T o.type hown hr h1 hm hby hbase c
  unfold Oper.wp execOp
  simp only [ho, resolve, invoke, builtin, Sem.run_bind, Sem.run_pure, Result.andThen_ok, List.map_toArray, List.map_cons, List.map_nil, hs, hx, hrun]
  exact h v' w' h2 h3

/-- What 'append' leaves where the new cells lie in a block that was just made: the row owns them too; nothing below base has turned. -/
theorem append_new {P : Program} {t e : TypeId} {z : Value} {bytes : Nat} (T : RowTy P t e z bytes) (ty : TypeId) {w wr : World} {base : Nat} {v : Value} {n : Nat} {xs news : List Value}
    (hown : wr.ownsRow base e 1 v n xs) (hw : w.heap = wr.heap.push (.cells news.toArray e)) (hos : w.os = wr.os) (htape : w.tape = wr.tape) (hout : w.output = wr.output)
    (h1 : ∀ u ∈ news, u.oneCell' = true) (hm : n + news.length ≤ 1000000000) (hby : bytes ≤ 64) (hbase : base ≤ wr.heap.size) (m c : Nat) (hmn : m = news.length) :
    ∃ v' w', (Builtin.append_ #[t, t] ty #[v, .slice (some ⟨wr.heap.size, 0, none⟩) m c]).run P w = .ok v' w' ∧ w'.ownsRow base e 1 v' (n + m) (xs ++ news) ∧ Below base wr w' := by
  subst hmn
  obtain ⟨i, hi, hz0, hz1, hz2⟩ := info_parts T.hi
  have hb1 : Below wr.heap.size wr w := ⟨hos, htape, hout, by rw [hw]; simp, fun k hk => by rw [hw, Array.getElem?_push, if_neg (by omega)]⟩
  have hown' : w.ownsRow base e 1 v n xs := by
    refine ⟨hown.1, ?_⟩
    rcases hown.2 with h | ⟨g, cap, cur, h1, h2, h3, h4⟩
    · exact .inl h
    · exact .inr ⟨g, cap, cur, h1, h2, by rw [hb1.block g (Array.getElem?_eq_some_iff.1 h3).1]; exact h3, h4⟩
  have hcells : ∀ j u, news[j]? = some u → w.cell? ((⟨wr.heap.size, 0, none⟩ : Addr).add j) = some u := by
    intro j u hu
    rw [show (⟨wr.heap.size, 0, none⟩ : Addr).add j = ⟨wr.heap.size, 0 + j, none⟩ from Addr.add_lit _ _ _]
    rw [cell_of_row w wr.heap.size (0 + j) news.toArray e (0, 0) (by rw [hw, Array.getElem?_push, if_pos rfl])]
    simpa using hu
  have hmul : (n + news.length) * bytes ≤ 1000000000 * 64 := Nat.mul_le_mul hm hby
  obtain ⟨v', w', hrun, h2, h3, _⟩ := run_append_own (P := P) w base t ty e i z 1 bytes T.ht hi hz0 hz1 hz2 T.hz (by decide) v n xs hown' _ news.length c news (by simp) hcells h1
    (by unfold maxLen; omega) (by omega) (by rw [hw]; simp; omega)
  refine ⟨v', w', hrun, h2, (hb1.mono hbase).trans ?_⟩
  exact (Below.refl _ _).grown h3 (by rw [hw]; simp; omega) (fun k hk => (hown'.lt k hk).1)

theorem step_app_new {P : Program} {ops : Array Oper} {o : Oper} {a : Act} {w : World} {K : Act → World → Prop} {Q : Exit → Act → World → Prop} {E : Prop} (hgd : o.guard = none) (s x : Operand) (t : TypeId)
    (ho : o.op = .call { callee := .builtin .append, args := #[s, x], argTypes := #[t, t] }) {e : TypeId} {z : Value} {bytes : Nat} (T : RowTy P t e z bytes)
    (wr : World) (base : Nat) (v : Value) (n : Nat) (xs news : List Value) (hs : a.eval s = v) (hown : wr.ownsRow base e 1 v n xs) (hw : w.heap = wr.heap.push (.cells news.toArray e))
    (hos : w.os = wr.os) (htape : w.tape = wr.tape) (hout : w.output = wr.output)
    (m c : Nat) (hx : a.eval x = .slice (some ⟨wr.heap.size, 0, none⟩) m c) (hmn : m = news.length)
    (h1 : ∀ u ∈ news, u.oneCell' = true) (hm : n + news.length ≤ 1000000000) (hby : bytes ≤ 64) (hbase : base ≤ wr.heap.size)
    (h : ∀ v' w', w'.ownsRow base e 1 v' (n + m) (xs ++ news) → Below base wr w' → K (a.put o.dst v') w') :
    if Region.wanted o (yielded ops a.tmps) = true then Oper.wp P o a w K Q else E := by
  have hwt : Region.wanted o (yielded ops a.tmps) = true := by simp [Region.wanted, hgd]
  rw [if_pos hwt]
  obtain ⟨v', w', hrun, h2, h3⟩ := append_new T o.type hown hw hos htape hout h1 hm hby hbase m c hmn
  unfold Oper.wp execOp
  simp only [ho, resolve, invoke, builtin, Sem.run_bind, Sem.run_pure, Result.andThen_ok, List.map_toArray, List.map_cons, List.map_nil, hs, hx, hrun]
  exact h v' w' h2 h3

theorem wpList_app_new {P : Program} {ops : Array Oper} {rest : List Oper} {o : Oper} {a : Act} {w : World} {Q : Exit → Act → World → Prop} (hgd : o.guard = none) (s x : Operand) (t : TypeId)
    (ho : o.op = .call { callee := .builtin .append, args := #[s, x], argTypes := #[t, t] }) {e : TypeId} {z : Value} {bytes : Nat} (T : RowTy P t e z bytes)
    (wr : World) (base : Nat) (v : Value) (n : Nat) (xs news : List Value) (hs : a.eval s = v) (hown : wr.ownsRow base e 1 v n xs) (hw : w.heap = wr.heap.push (.cells news.toArray e))
    (hos : w.os = wr.os) (htape : w.tape = wr.tape) (hout : w.output = wr.output)
    (m c : Nat) (hx : a.eval x = .slice (some ⟨wr.heap.size, 0, none⟩) m c) (hmn : m = news.length)
    (h1 : ∀ u ∈ news, u.oneCell' = true) (hm : n + news.length ≤ 1000000000) (hby : bytes ≤ 64) (hbase : base ≤ wr.heap.size)
    (h : ∀ v' w', w'.ownsRow base e 1 v' (n + m) (xs ++ news) → Below base wr w' → wpList P ops Q rest (a.put o.dst v') w') : wpList P ops Q (o :: rest) a w := by
  refine wpList_plain hgd fun K hK => ?_
  obtain ⟨v', w', hrun, h2, h3⟩ := append_new T o.type hown hw hos htape hout h1 hm hby hbase m c hmn
  unfold Oper.wp execOp
  simp only [ho, resolve, invoke, builtin, Sem.run_bind, Sem.run_pure, Result.andThen_ok, List.map_toArray, List.map_cons, List.map_nil, hs, hx, hrun]
  exact hK _ _ (h v' w' h2 h3)

end Go.Proofs.Ytaamkdejediccaa
