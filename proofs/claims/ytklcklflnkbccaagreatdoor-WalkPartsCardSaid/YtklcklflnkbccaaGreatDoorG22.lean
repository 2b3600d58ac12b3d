import Derived.Test.YtklcklflnkbccaaGreatDoorG02
import Derived.Test.YtklcklflnkbccaaGreatDoorG05
import Derived.Test.YtklcklflnkbccaaGreatDoorG07
import Derived.Test.YtklcklflnkbccaaGreatDoorG16
import Derived.Test.YtklcklflnkbccaaGreatDoorG21
/- A survey of an index in memory, and what keeps rows of bytes, words and nodes. No statement of the program. -/
namespace Go.Proofs.YtklcklflnkbccaaGreatDoor
open Go.RowKit

/-- Blocks of bytes, of words and of nodes stay. -/
def KeepB (w w' : World) : Prop := w.heap.size ≤ w'.heap.size ∧ ∀ (g : Nat) (cs : Array Value) (e : TypeId) (fz : Nat × Nat), (e = 5 ∨ e = 33 ∨ e = 96) → w.heap[g]? = some (Obj.cells cs e fz) → w'.heap[g]? = w.heap[g]?

theorem KeepB.refl (w : World) : KeepB w w := ⟨Nat.le_refl _, fun _ _ _ _ _ _ => rfl⟩
theorem KeepB.of_below {w w' : World} (h : Below w.heap.size w w') : KeepB w w' := ⟨h.size, fun g _ _ _ _ hg => h.block g (Array.getElem?_eq_some_iff.1 hg).1⟩
theorem KeepB.trans {a b c : World} (h : KeepB a b) (k : KeepB b c) : KeepB a c :=
  ⟨Nat.le_trans h.1 k.1, fun g cs e fz he hg => by
    have h1 := h.2 g cs e fz he hg
    exact (k.2 g cs e fz he (h1.trans hg)).trans h1⟩
theorem KeepB.of_kept {w w' : World} {g : Nat} (h : Kept w w' (some g)) (hg : ∀ (cs : Array Value) (e : TypeId) (fz : Nat × Nat), (e = 5 ∨ e = 33 ∨ e = 96) → w.heap[g]? ≠ some (Obj.cells cs e fz)) : KeepB w w' :=
  ⟨h.1, fun g' cs e fz he hg' => h.2 g' (Array.getElem?_eq_some_iff.1 hg').1 (fun e' => by injection e' with e'; subst e'; exact hg cs e fz he hg')⟩
theorem KeepB.own {w w' : World} {base k n : Nat} {e : TypeId} {v : Value} {xs : List Value} (h : KeepB w w') (he : e = 5 ∨ e = 33 ∨ e = 96) (ho : w.ownsRow base e k v n xs) : w'.ownsRow base e k v n xs := by
  refine ⟨ho.1, ?_⟩
  rcases ho.2 with h1 | ⟨g, cap, cur, h1, h2, h3, h4⟩
  · exact .inl h1
  · exact .inr ⟨g, cap, cur, h1, h2, (h.2 g _ _ _ he h3).trans h3, h4⟩
theorem KeepB.nd {w w' : World} {base : Nat} {v : Value} {x : Nd} (s : KeepB w w') (h : NdV w base v x) : NdV w' base v x := by
  obtain ⟨A1, c1, A2, c2, A3, c3, e, h1, h2, h3⟩ := h
  exact ⟨A1, c1, A2, c2, A3, c3, e, s.own (.inl rfl) h1, s.own (.inl rfl) h2, s.own (.inr (.inl rfl)) h3⟩
theorem KeepB.box {w w' : World} {g : Nat} {xs : List Value} (s : KeepB w w') (h : Blk w g 96 xs) : Blk w' g 96 xs := (s.2 g _ _ _ (.inr (.inr rfl)) h).trans h

/-- Bytes in a block of bytes, from its first cell on; or none. -/
def Row8 (w : World) (A : Option Addr) (l : List UInt8) : Prop :=
  Bs w A l.length l ∧ (∀ a, A = some a → ∃ (g : Nat) (cs : Array Value) (fz : Nat × Nat), a = ⟨g, 0, none⟩ ∧ w.heap[g]? = some (Obj.cells cs 5 fz)) ∧ (A = none → l = [])

theorem Row8.nil (w : World) : Row8 w none [] := by
  refine ⟨Rd.nil, ?_, fun _ => rfl⟩
  intro a e
  cases e
theorem Row8.keep {w w' : World} {A : Option Addr} {l : List UInt8} (h : Row8 w A l) (s : KeepB w w') : Row8 w' A l := by
  obtain ⟨h1, h2, h3⟩ := h
  refine ⟨⟨h1.1, fun hn => ?_⟩, fun a e => ?_, h3⟩
  · obtain ⟨b, off, e, hb, hc⟩ := h1.2 hn
    obtain ⟨g, cs, fz, e2, hg⟩ := h2 _ e
    injection e2 with e3 e4
    subst e3 e4
    exact ⟨_, _, e, Nat.lt_of_lt_of_le hb s.1, fun j hj => (World.cell?_of_block (w := w) (s.2 _ _ _ _ (.inl rfl) hg)).trans (hc j hj)⟩
  · obtain ⟨g, cs, fz, e2, hg⟩ := h2 a e
    exact ⟨g, cs, fz, e2, (s.2 _ _ _ _ (.inl rfl) hg).trans hg⟩
theorem Row8.cut {w w' : World} {A A' : Option Addr} {l m : List UInt8} (h : Row8 w A l) (hr : Rd w' A' (l.length + m.length) (l.map bv ++ m.map bv)) (hb : Below w.heap.size w w') (hc : CutAt w w' 5 A A' m.length) : Row8 w' A' (l ++ m) := by
  refine ⟨?_, fun a e => ?_, fun e => ?_⟩
  · rw [List.length_append]
    show Rd w' A' _ ((l ++ m).map bv)
    rw [List.map_append]; exact hr
  · rcases hc with ⟨rfl, _⟩ | ⟨g, cs, e1, _, e3⟩
    · obtain ⟨g, cs, fz, e2, hg⟩ := h.2.1 a e
      exact ⟨g, cs, fz, e2, (hb.block _ (Array.getElem?_eq_some_iff.1 hg).1).trans hg⟩
    · rw [e1] at e
      injection e with e
      exact ⟨g, cs, _, e.symm, e3⟩
  · rcases hc with ⟨rfl, e2⟩ | ⟨g, cs, e1, _⟩
    · rw [h.2.2 e, List.eq_nil_of_length_eq_zero e2]; rfl
    · rw [e1] at e; exact nomatch e

/-- An item's cells. -/
def itV (p : List UInt8 × UInt64) : List Value := [.string ⟨p.1.toArray⟩, .int .u64 (p.2.toNat : Int)]

structure SurvAt (w : World) (base sb mb x : Nat) (items : List (List UInt8 × UInt64)) (met : List Int) (v : Value) : Prop where
  box : Blk w sb 128 [.pointer (some ⟨x, 0, none⟩), v, .map (some mb)]
  row : w.ownsRow base 35 2 v items.length (items.map itV).flatten
  map : MapIs w mb (met.map fun o => (o, 1))
  bs : base ≤ sb
  bm : base ≤ mb
  vs : v.ownBlock ≠ some sb
  nod : met.Nodup
  rng : ∀ o ∈ met, 0 ≤ o ∧ o ≤ 65536
  len : items.length ≤ met.length

theorem nodup_le : ∀ (N : Nat) (l : List Int), l.Nodup → (∀ o ∈ l, 0 ≤ o ∧ o < (N : Int)) → l.length ≤ N
  | 0, l, _, h => by
    cases l with
    | nil => simp
    | cons a t => have := h a (List.mem_cons_self ..); omega
  | N + 1, l, hn, h => by
    by_cases hm : (N : Int) ∈ l
    · have h1 := nodup_le N (l.erase (N : Int)) (hn.erase _) (fun o ho => by
        have := (hn.mem_erase_iff).1 ho
        have := h o this.2
        omega)
      rw [List.length_erase_of_mem hm] at h1
      omega
    · have := nodup_le N l hn (fun o ho => by
        have h2 := h o ho
        have : o ≠ (N : Int) := fun e => hm (e ▸ ho)
        omega)
      omega

section
variable {w w' : World} {base sb mb x : Nat} {items : List (List UInt8 × UInt64)} {met : List Int} {v : Value}

theorem SurvAt.few (h : SurvAt w base sb mb x items met v) : items.length ≤ 65537 :=
  Nat.le_trans h.len (nodup_le 65537 met h.nod (fun o ho => by have := h.rng o ho; omega))
theorem SurvAt.sm (h : SurvAt w base sb mb x items met v) : sb ≠ mb := by
  intro e
  have h1 := h.box
  have h2 := h.map
  unfold Blk at h1
  unfold MapIs at h2
  rw [e, h2] at h1
  injection h1 with h1
  cases h1
theorem SurvAt.vm (h : SurvAt w base sb mb x items met v) : v.ownBlock ≠ some mb := by
  intro e
  rcases h.row.2 with ⟨h1, _⟩ | ⟨g, cap, cur, h1, _, h3, _⟩
  · subst h1; exact nomatch e
  · subst h1
    simp only [Value.ownBlock, Option.some.injEq] at e
    subst e
    have h2 := h.map
    unfold MapIs at h2
    rw [h2] at h3
    injection h3 with h3
    cases h3
theorem SurvAt.below (h : SurvAt w base sb mb x items met v) (k : Below w.heap.size w w') : SurvAt w' base sb mb x items met v :=
  ⟨h.box.below k h.box.lt, own_stay h.row (Kept.of_below (r := some sb) k) (.inl (fun e => h.vs e.symm)), h.map.below k, h.bs, h.bm, h.vs, h.nod, h.rng, h.len⟩
/-- The map has one block more. -/
theorem SurvAt.note (h : SurvAt w base sb mb x items met v) {o : Int} (ho : 0 ≤ o ∧ o ≤ 65536) (hn : o ∉ met) : SurvAt (putMap w mb (metE 0 ((met ++ [o]).map fun o => (o, 1))).toArray ((met ++ [o]).map fun o => (o, (1 : Int))).length) base sb mb x items (met ++ [o]) v ∧
    KeepB w (putMap w mb (metE 0 ((met ++ [o]).map fun o => (o, 1))).toArray ((met ++ [o]).map fun o => (o, (1 : Int))).length) ∧ Below base w (putMap w mb (metE 0 ((met ++ [o]).map fun o => (o, 1))).toArray ((met ++ [o]).map fun o => (o, (1 : Int))).length) := by
  have hne : ∀ (cs : Array Value) (e : TypeId) (fz : Nat × Nat), w.heap[mb]? ≠ some (Obj.cells cs e fz) := fun cs e fz hg => by
    have h2 := h.map
    unfold MapIs at h2
    rw [h2] at hg
    injection hg with hg
    cases hg
  have t := putMap_touch w mb (metE 0 ((met ++ [o]).map fun o => (o, 1))).toArray ((met ++ [o]).map fun o => (o, (1 : Int))).length
  refine ⟨⟨h.box.touch t h.sm, own_touch h.row t (fun g hg e => h.vm (by rw [hg, e])), putMap_at _ _ _ _ h.map.lt, h.bs, h.bm, h.vs, ?_, ?_, ?_⟩, ⟨t.size, fun g cs e fz _ hg => t.block g (Array.getElem?_eq_some_iff.1 hg).1 (fun e' => hne cs e fz (e' ▸ hg))⟩, t.below (Nat.le_of_lt (Nat.lt_of_le_of_lt h.bm h.map.lt)) (fun k e => e ▸ h.bm)⟩
  · exact List.nodup_append.2 ⟨h.nod, List.nodup_cons.2 ⟨by simp, List.nodup_nil⟩, fun a ha b hb => by rw [List.mem_singleton] at hb; subst hb; exact fun e => hn (e ▸ ha)⟩
  · intro a ha
    rcases List.mem_append.1 ha with h1 | h1
    · exact h.rng a h1
    · rw [List.mem_singleton] at h1; exact h1 ▸ ho
  · have := h.len; simp; omega

/-- One item more. -/
theorem SurvAt.add (h : SurvAt w base sb mb x items met v) (p : List UInt8 × UInt64) (hl : items.length < met.length) {g6 c6 : Nat} {w6 : World}
    (hO : w6.ownsRow base 35 2 (.slice (some ⟨g6, 0, none⟩) (items.length + 1) c6) (items.length + 1) ((items.map itV).flatten ++ itV p)) (hB : Below base w w6) (hK : Kept w w6 v.ownBlock) (hg : v.ownBlock = some g6 ∨ w.heap.size ≤ g6) :
    SurvAt (w6.setCell ⟨sb, 1, none⟩ (.slice (some ⟨g6, 0, none⟩) (items.length + 1) c6)) base sb mb x (items ++ [p]) met (.slice (some ⟨g6, 0, none⟩) (items.length + 1) c6) ∧
      KeepB w (w6.setCell ⟨sb, 1, none⟩ (.slice (some ⟨g6, 0, none⟩) (items.length + 1) c6)) ∧ Below base w (w6.setCell ⟨sb, 1, none⟩ (.slice (some ⟨g6, 0, none⟩) (items.length + 1) c6)) := by
  have hsl := h.box.lt
  have hml := h.map.lt
  have hgs : g6 ≠ sb := by
    rintro rfl
    rcases hg with e | e
    · exact h.vs e
    · omega
  have B6 : Blk w6 sb 128 [.pointer (some ⟨x, 0, none⟩), v, .map (some mb)] := (hK.2 sb hsl (fun e => h.vs e.symm)).trans h.box
  have M6 : w6.heap[mb]? = w.heap[mb]? := hK.2 mb hml (fun e => h.vm e.symm)
  have k9 := Kept.set_ w6 sb 1 (.slice (some ⟨g6, 0, none⟩) (items.length + 1) c6)
  have s6 : KeepB w w6 := by
    refine ⟨hK.1, fun g cs e fz he hg' => hK.2 g (Array.getElem?_eq_some_iff.1 hg').1 (fun e' => ?_)⟩
    rcases h.row.2 with ⟨h1, _⟩ | ⟨g', cap, cur, h1, _, h3, _⟩
    · subst h1; exact nomatch e'
    · subst h1
      simp only [Value.ownBlock, Option.some.injEq] at e'
      subst e'
      rw [hg'] at h3
      injection h3 with h3
      injection h3 with _ h4
      rw [h4] at he
      exact absurd he (by decide)
  have s9 : KeepB w6 (w6.setCell ⟨sb, 1, none⟩ (.slice (some ⟨g6, 0, none⟩) (items.length + 1) c6)) := KeepB.of_kept k9 (fun cs e fz he hg' => by
    have h3 : w6.heap[sb]? = _ := B6
    rw [hg'] at h3
    injection h3 with h3
    injection h3 with _ h4
    rw [h4] at he
    exact absurd he (by decide))
  refine ⟨⟨B6.set_ 1 _, ?_, ?_, h.bs, h.bm, by simp [Value.ownBlock, hgs], h.nod, h.rng, by simp; omega⟩, s6.trans s9, hB.setCell (p := ⟨sb, 1, none⟩) h.bs _⟩
  · have := own_stay hO k9 (.inl (by simp [Value.ownBlock, Ne.symm hgs]))
    simpa using this
  · show (w6.setCell _ _).heap[mb]? = _
    rw [k9.2 mb (Nat.lt_of_lt_of_le hml hK.1) (fun e => h.sm (Option.some.inj e).symm), M6]
    exact h.map
end

end Go.Proofs.YtklcklflnkbccaaGreatDoor

/- Walks of package index: visit. -/
namespace Go.Proofs.YtklcklflnkbccaaGreatDoor
open Go.RowKit

theorem Tryz.itemTyK : RowTyK Tryz.prog 29 35 (.agg #[.string ⟨#[]⟩, .int .u64 0]) 2 24 := ⟨Tryz.underlying29, by kernel_rfl, rfl⟩
theorem Tryz.metMap : Tryz.prog.underlying 80 = some (.map 3 3) := Tryz.underlying80
theorem Tryz.zeroInt (W : World) : (zeroValue 3).run Tryz.prog W = .ok (.int .i64 0) W := by
  have h : (Tryz.prog.info? 3).map (·.zero) = some (some (.int .i64 0)) := by kernel_rfl
  cases hi : Tryz.prog.info? 3 with
  | none => rw [hi] at h; cases h
  | some i =>
    rw [hi] at h
    simp only [Option.map_some, Option.some.injEq] at h
    simp [zeroValue, typeInfo, hi, h]

def VisPost (r : Option (List (List UInt8 × UInt64) × List Int)) (base sb mb x : Nat) (w : World) (e : Ending) (w' : World) : Prop :=
  Below base w w' ∧ KeepB w w' ∧ match r with
    | none => e = .returned (.int .i64 5)
    | some (items', met') => e = .returned (.int .i64 0) ∧ ∃ v', SurvAt w' base sb mb x items' met' v'

section
variable {w w' : World} {base sb mb x d p L : Nat} {s : St} {F : Nat → Prop}

theorem Ix.past (h : Ix w x d p L s F) (k : Below base w w') (hF : ∀ b, F b → b < base) (hx : x < base) (ht : 0 < base ∧ 1 < base) : Ix w' x d p L s F := by
  have t : Touch (fun b => base ≤ b) w w' := ⟨k.os, k.tape, k.output, k.size, fun b _ hn => k.block b (by omega)⟩
  exact ⟨h.sys.keep t (fun b hb hn => by have := hF b hb; omega) (by omega) (by omega), h.box.touch t (by omega), h.out⟩

theorem mem_parts {o : Int} : ∀ {l : List Int}, o ∈ l → l.Nodup → ∃ l1 l2, l = l1 ++ o :: l2 ∧ o ∉ l1
  | [], h, _ => by cases h
  | a :: t, h, hn => by
    obtain ⟨h1, h2⟩ := List.nodup_cons.1 hn
    rcases List.mem_cons.1 h with rfl | ho
    · exact ⟨[], t, rfl, by simp⟩
    · obtain ⟨l1, l2, e, hno⟩ := mem_parts ho h2
      refine ⟨a :: l1, l2, by rw [e]; rfl, fun hm => ?_⟩
      rcases List.mem_cons.1 hm with rfl | hm
      · exact h1 ho
      · exact hno hm

set_option maxHeartbeats 8000000 in
set_option maxRecDepth 100000 in
/-- The node is not to be read. -/
theorem visit_none (h : Ix w x d p L s F) (_ : ∀ b, F b → b < base) {items : List (List UInt8 × UInt64)} {met : List Int} {v : Value} (hs : SurvAt w base sb mb x items met v) (f : Nat) (name : UInt64) (ahead : List UInt8) (A : Option Addr) (c : Nat) (hr : readP s name = none) :
    Calls Tryz.prog 85 #[.pointer (some ⟨sb, 0, none⟩), .int .u64 (name.toNat : Int), .slice A ahead.length c] w (VisPost (visitP s (f + 1) name ahead (items, met)) base sb mb x w) := by
  have HP : Hid (visitP s (f + 1) name ahead (items, met) = none) := Lib.hid (by rw [visitP, hr])
  have HR := Lib.hid (read_index h name)
  have HRn := Lib.hid hr
  have y0 := hs.box.cell 0
  simp only [List.getElem?_cons_zero] at y0
  have hbs : base ≤ w.heap.size := Nat.le_of_lt (Nat.lt_of_le_of_lt hs.bs hs.box.lt)
  clear h hs hr
  go_enter Tryz.func85, Tryz.ntmps85
  go_wp2_with fail
  refine HR.out.mono ?_
  rintro e w1 ⟨hb1, hp1⟩
  rw [HRn.out] at hp1
  subst hp1
  have HB := Lib.hid (hb1.mono hbs)
  have HKp := Lib.hid (KeepB.of_below hb1)
  clear hb1 HR
  go_wp2_with fail
  go_ret
  refine ⟨HB.out.alloc (Nat.le_trans hbs HB.out.size) _, HKp.out.trans (KeepB.of_below ((Below.refl _ _).alloc (Nat.le_refl _) _)), ?_⟩
  rw [HP.out]
  rfl

set_option maxHeartbeats 8000000 in
set_option maxRecDepth 100000 in
/-- The node was met ahead of this. -/
theorem visit_met (h : Ix w x d p L s F) (_ : ∀ b, F b → b < base) {items : List (List UInt8 × UInt64)} {met : List Int} {v : Value} (hs : SurvAt w base sb mb x items met v) (f : Nat) (name : UInt64) (ahead : List UInt8) (A : Option Addr) (c : Nat) (hA : Row8 w A ahead) (hac : ahead.length ≤ c) (hal : ahead.length ≤ 33) (nd : Nd) (hr : readP s name = some nd) (hm : offOf name ∈ met) :
    Calls Tryz.prog 85 #[.pointer (some ⟨sb, 0, none⟩), .int .u64 (name.toNat : Int), .slice A ahead.length c] w (VisPost (visitP s (f + 1) name ahead (items, met)) base sb mb x w) := by
  have HP : Hid (visitP s (f + 1) name ahead (items, met) = none) := Lib.hid (by rw [visitP, hr]; simp only; rw [if_pos (.inl (by simpa using hm))])
  have HR := Lib.hid (read_index h name)
  have HRn := Lib.hid hr
  have HS := Lib.hid hs
  have hwr : IntKind.i64.wrap (name.toNat : Int) = offOf name := rfl
  have hbl := (read_lens hr).1
  have y0 := hs.box.cell 0
  simp only [List.getElem?_cons_zero] at y0
  have hbs : base ≤ w.heap.size := Nat.le_of_lt (Nat.lt_of_le_of_lt hs.bs hs.box.lt)
  obtain ⟨l1, l2, hl, hno⟩ := mem_parts hm hs.nod
  have HL := Lib.hid hl
  have HNo : Hid (∀ q ∈ l1.map (fun o => (o, (1 : Int))), q.1 ≠ offOf name) := Lib.hid (fun q hq => by
    obtain ⟨o, ho, rfl⟩ := List.mem_map.1 hq
    exact fun e => hno (e ▸ ho))
  have HA := Lib.hid hA
  generalize offOf name = off at *
  clear h hs hr hm hl hno hA
  go_enter Tryz.func85, Tryz.ntmps85
  go_wp2_with fail
  refine HR.out.mono ?_
  rintro e w1 ⟨hb1, hp1⟩
  rw [HRn.out] at hp1
  obtain ⟨vn, rfl, hnd⟩ := hp1
  obtain ⟨A1, c1, A2, c2, A3, c3, rfl, o1, o2, o3⟩ := hnd
  obtain ⟨W2, hW2⟩ : ∃ W2, W2 = w1.alloc (.cells #[.slice A1 nd.pre.length c1, .int .u64 (nd.val.toNat : Int), .slice A2 nd.labels.length c2, .slice A3 nd.kids.length c3] 96) := ⟨_, rfl⟩
  have BN : Blk W2 w1.heap.size 96 [.slice A1 nd.pre.length c1, .int .u64 (nd.val.toNat : Int), .slice A2 nd.labels.length c2, .slice A3 nd.kids.length c3] := hW2 ▸ heap_alloc_new _ _
  have hb12 : Below w1.heap.size w1 W2 := hW2 ▸ (Below.refl _ _).alloc (Nat.le_refl _) _
  have hb2 : Below w.heap.size w W2 := hb1.trans (hb12.mono hb1.size)
  have S2 := HS.out.below hb2
  have hmap : MapIs W2 mb (l1.map (fun o => (o, (1 : Int))) ++ (off, 1) :: l2.map (fun o => (o, (1 : Int)))) := by
    have := S2.map
    rw [HL.out] at this
    simpa using this
  have k1 := look_yes Tryz.metMap Tryz.underlying3 W2 mb _ _ off 1 hmap HNo.out
  have k2 := upd_yes Tryz.metMap Tryz.underlying3 W2 mb _ _ off 1 2 hmap HNo.out
  obtain ⟨W3, hW3⟩ : ∃ W3, W3 = putMap W2 mb (metE 0 (l1.map (fun o => (o, (1 : Int))) ++ (off, 2) :: l2.map (fun o => (o, (1 : Int))))).toArray (l1.map (fun o => (o, (1 : Int))) ++ (off, 2) :: l2.map (fun o => (o, (1 : Int)))).length := ⟨_, rfl⟩
  rw [← hW3] at k2
  have t3 : Touch (fun b => b = mb) W2 W3 := hW3 ▸ putMap_touch _ _ _ _
  have hm3 : MapIs W3 mb (l1.map (fun o => (o, (1 : Int))) ++ (off, 2) :: l2.map (fun o => (o, (1 : Int)))) := by rw [hW3]; exact putMap_at _ _ _ _ hmap.lt
  have hk3 : KeepB W2 W3 := ⟨t3.size, fun g cs e fz _ hg => t3.block g (Array.getElem?_eq_some_iff.1 hg).1 (fun e' => by
    unfold MapIs at hmap
    rw [e', hmap] at hg
    injection hg with hg
    cases hg)⟩
  have hb23 : Below base W2 W3 := t3.below (Nat.le_trans hbs hb2.size) (fun k e => e ▸ S2.bm)
  have BN3 := hk3.box BN
  have HA3 := (HA.out.keep (KeepB.of_below hb2)).keep hk3
  have hpre : Rd W3 A1 nd.pre.length (nd.pre.map bv) := (rd_own (hk3.own (.inl rfl) (own_below o1 hb12))).2
  have S3 : Blk W3 sb 128 [.pointer (some ⟨x, 0, none⟩), v, .map (some mb)] := S2.box.touch t3 S2.sm
  clear hW3
  have z0 := S2.box.cell 0
  have z2 := S2.box.cell 2
  simp only [List.getElem?_cons_zero, List.getElem?_cons_succ] at z0 z2
  rw [hW2] at k1 k2 z0 z2
  have HW2 := Lib.hid hW2
  clear y0 HR hW2
  go_wp2_with fail
  obtain ⟨n0, n1, n2, n3, -⟩ := blk4' BN3
  have HB3 := Lib.hid ((hb2.mono hbs).trans hb23)
  have HK3 := Lib.hid ((KeepB.of_below hb2).trans hk3)
  have HM3 := Lib.hid hm3
  have HS3 := Lib.hid S3
  have HR3 := Lib.hid HA3
  have HP3 := Lib.hid hpre
  clear k1 k2 z0 z2 hb1 hb12 hb2 S2 hmap t3 hk3 hb23 BN BN3 HA3 hpre o1 o2 o3 hm3 S3
  go_region_law (refine step_app_cut rfl (.tmp 42) (.tmp 44) 74 rfl Tryz.bytesTy A ahead.length (ahead.map bv) (by simp [Act.eval]) (by exact HR3.out.1) (fun a e => by obtain ⟨g, _, _, e', _⟩ := HR3.out.2.1 a e; exact ⟨g, e'⟩) (fun e => by rw [HR3.out.2.2 e]; rfl) A1 nd.pre.length c1 (nd.pre.map bv) (by simp [Act.eval]) (by exact HP3.out) (oneCell_bv _) (by omega) (by decide) ?_; intro A4 c4 w4 hc4 hr4 hb4 hcut4)
  all_goals (have hb34 : Below W3.heap.size W3 w4 := ((Dr.drew W3).below _).trans hb4)
  all_goals (have k5 := look_yes Tryz.metMap Tryz.underlying3 w4 mb _ _ off 2 (HM3.out.below hb34) HNo.out)
  all_goals (have S4 := HS3.out.below hb34 HS3.out.lt)
  all_goals (have z0 := S4.cell 0)
  all_goals (have z2 := S4.cell 2)
  all_goals (simp only [List.getElem?_cons_zero, List.getElem?_cons_succ] at z0 z2)
  all_goals (have HB4 := Lib.hid (HB3.out.trans (hb34.mono (Nat.le_trans hbs (by have := HB3.out.size; exact this)))))
  all_goals (have HK4 := Lib.hid (HK3.out.trans (KeepB.of_below hb34)))
  all_goals (clear hb34 hb4 hcut4 hr4 S4 HM3 HS3 HR3 HP3 n0 n1 n2 n3 HA HNo HL HS)
  all_goals (go_wp2_with fail)
  all_goals (go_ret)
  all_goals (refine ⟨HB4.out, HK4.out, ?_⟩)
  all_goals (rw [HP.out])
  all_goals rfl
end

end Go.Proofs.YtklcklflnkbccaaGreatDoor

/- Two lists of items that rise, and their merger: lists alone, no program in sight. -/
namespace Go.Proofs.YtklcklflnkbccaaGreatDoor

/-- A key and its value. -/
structure It where
  k : ByteArray
  v : UInt64

def lessK (a b : It) : Bool := Op.bytesLess a.k.toList b.k.toList
def eqK (a b : It) : Bool := a.k.toList == b.k.toList

theorem bless_total : ∀ (a b : List UInt8), Op.bytesLess a b = false → Op.bytesLess b a = true ∨ a = b
  | [], [], _ => .inr rfl
  | [], _ :: _, h => by simp [Op.bytesLess] at h
  | _ :: _, [], _ => .inl rfl
  | x :: a, y :: b, h => by
    simp only [Op.bytesLess, Bool.or_eq_false_iff, decide_eq_false_iff_not, Bool.and_eq_false_iff, beq_eq_false_iff_ne] at h
    obtain ⟨h1, h2⟩ := h
    simp only [Op.bytesLess, Bool.or_eq_true, decide_eq_true_eq, Bool.and_eq_true, beq_iff_eq, List.cons.injEq]
    by_cases e : x = y
    · subst e
      have h3 := h2.resolve_left (fun h => h rfl)
      rcases bless_total a b h3 with h4 | h4
      · exact .inl (.inr ⟨rfl, h4⟩)
      · exact .inr ⟨rfl, h4⟩
    · refine .inl (.inl ?_)
      rw [UInt8.lt_iff_toNat_lt] at h1 ⊢
      have : x.toNat ≠ y.toNat := fun h => e (UInt8.toNat_inj.1 h)
      omega
theorem bless_irrefl : ∀ (a : List UInt8), Op.bytesLess a a = false
  | [] => rfl
  | x :: a => by simp [Op.bytesLess, bless_irrefl a]
theorem bless_trans : ∀ (a b c : List UInt8), Op.bytesLess a b = true → Op.bytesLess b c = true → Op.bytesLess a c = true
  | _, [], _, h, _ => by simp [Op.bytesLess] at h
  | _, _ :: _, [], _, h => by simp [Op.bytesLess] at h
  | [], _ :: _, _ :: _, _, _ => rfl
  | x :: a, y :: b, z :: c, h, k => by
    simp only [Op.bytesLess, Bool.or_eq_true, decide_eq_true_eq, Bool.and_eq_true, beq_iff_eq] at h k ⊢
    simp only [UInt8.lt_iff_toNat_lt] at h k ⊢
    rcases h with h | ⟨rfl, h⟩
    · rcases k with k | ⟨rfl, k⟩
      · exact .inl (by omega)
      · exact .inl h
    · rcases k with k | ⟨rfl, k⟩
      · exact .inl k
      · exact .inr ⟨rfl, bless_trans a b c h k⟩

theorem lessK_irrefl (a : It) : lessK a a = false := bless_irrefl _
theorem lessK_trans {a b c : It} (h : lessK a b = true) (k : lessK b c = true) : lessK a c = true := bless_trans _ _ _ h k
theorem lessK_not {a b : It} (h : lessK a b = false) (k : eqK a b = false) : lessK b a = true := by
  unfold eqK at k
  rw [beq_eq_false_iff_ne] at k
  exact (bless_total _ _ h).resolve_right k
theorem lessK_eq {a b : It} (h : lessK a b = true) : eqK a b = false := by
  unfold eqK
  rw [beq_eq_false_iff_ne]
  intro e
  unfold lessK at h
  rw [e, bless_irrefl] at h
  cases h
theorem eqK_refl (a : It) : eqK a a = true := by simp [eqK]
theorem lessK_asymm {a b : It} (h : lessK a b = true) : lessK b a = false := by
  cases k : lessK b a
  · rfl
  · have := lessK_trans h k; rw [lessK_irrefl] at this; cases this
theorem lessK_congr {a b c : It} (e : eqK a b = true) : lessK a c = lessK b c ∧ lessK c a = lessK c b := by
  unfold eqK at e
  rw [beq_iff_eq] at e
  unfold lessK
  rw [e]
  exact ⟨rfl, rfl⟩

/-- The merger. -/
def mergeW : List It → List It → List It
  | [], [] => []
  | a :: ta, [] => a :: mergeW ta []
  | [], b :: bs => b :: mergeW [] bs
  | a :: ta, b :: bs => if lessK a b then a :: mergeW ta (b :: bs) else if eqK a b then b :: mergeW ta bs else b :: mergeW (a :: ta) bs
termination_by a b => a.length + b.length

def liveI (x : It) : Bool := x.v.toNat != 0

theorem mergeW_nil : ∀ (a : List It), mergeW a [] = a
  | [] => by simp [mergeW]
  | a :: ta => by rw [mergeW, mergeW_nil ta]
theorem mergeW_nil' : ∀ (b : List It), mergeW [] b = b
  | [] => by simp [mergeW]
  | b :: bs => by rw [mergeW, mergeW_nil' bs]
theorem mergeW_self : ∀ (a : List It), mergeW a a = a
  | [] => by simp [mergeW]
  | a :: ta => by rw [mergeW, lessK_irrefl, eqK_refl]; simp [mergeW_self ta]
theorem mergeW_mem : ∀ (a b : List It) (x : It), x ∈ mergeW a b → x ∈ a ∨ x ∈ b
  | [], [], x, h => by simp [mergeW] at h
  | a :: ta, [], x, h => by rw [mergeW_nil] at h; exact .inl h
  | [], b :: bs, x, h => by rw [mergeW_nil'] at h; exact .inr h
  | a :: ta, b :: bs, x, h => by
    rw [mergeW] at h
    split at h
    · rcases List.mem_cons.1 h with rfl | h
      · exact .inl (List.mem_cons_self ..)
      · exact (mergeW_mem ta (b :: bs) x h).imp (List.mem_cons_of_mem _) id
    · split at h
      · rcases List.mem_cons.1 h with rfl | h
        · exact .inr (List.mem_cons_self ..)
        · exact (mergeW_mem ta bs x h).imp (List.mem_cons_of_mem _) (List.mem_cons_of_mem _)
      · rcases List.mem_cons.1 h with rfl | h
        · exact .inr (List.mem_cons_self ..)
        · exact (mergeW_mem (a :: ta) bs x h).imp id (List.mem_cons_of_mem _)
termination_by a b => a.length + b.length
theorem mergeW_right : ∀ (a b : List It) (x : It), x ∈ b → x ∈ mergeW a b
  | _, [], x, h => by cases h
  | [], b :: bs, x, h => by rw [mergeW_nil']; exact h
  | a :: ta, b :: bs, x, h => by
    rw [mergeW]
    split
    · exact List.mem_cons_of_mem _ (mergeW_right ta (b :: bs) x h)
    · split
      · rcases List.mem_cons.1 h with rfl | h
        · exact List.mem_cons_self ..
        · exact List.mem_cons_of_mem _ (mergeW_right ta bs x h)
      · rcases List.mem_cons.1 h with rfl | h
        · exact List.mem_cons_self ..
        · exact List.mem_cons_of_mem _ (mergeW_right (a :: ta) bs x h)
termination_by a b => a.length + b.length
theorem mergeW_len : ∀ (a b : List It), (mergeW a b).length ≤ a.length + b.length
  | [], [] => by simp [mergeW]
  | a :: ta, [] => by rw [mergeW_nil]; simp
  | [], b :: bs => by rw [mergeW_nil']; simp
  | a :: ta, b :: bs => by
    rw [mergeW]
    split
    · have := mergeW_len ta (b :: bs); simp at this ⊢; omega
    · split
      · have := mergeW_len ta bs; simp at this ⊢; omega
      · have := mergeW_len (a :: ta) bs; simp at this ⊢; omega
termination_by a b => a.length + b.length

/-- Its keys rise. -/
def Up (l : List It) : Prop := l.Pairwise fun a b => lessK a b = true

theorem mergeW_up : ∀ (a b : List It), Up a → Up b → Up (mergeW a b)
  | [], [], _, _ => by rw [mergeW_nil]; exact List.Pairwise.nil
  | a :: ta, [], ha, _ => by rw [mergeW_nil]; exact ha
  | [], b :: bs, _, hb => by rw [mergeW_nil']; exact hb
  | a :: ta, b :: bs, ha, hb => by
    have ha' := List.pairwise_cons.1 ha
    have hb' := List.pairwise_cons.1 hb
    rw [mergeW]
    split
    · rename_i h
      refine List.pairwise_cons.2 ⟨fun x hx => ?_, mergeW_up ta (b :: bs) ha'.2 hb⟩
      rcases mergeW_mem _ _ _ hx with hx | hx
      · exact ha'.1 x hx
      · rcases List.mem_cons.1 hx with rfl | hx
        · exact h
        · exact lessK_trans h (hb'.1 x hx)
    · rename_i h
      split
      · rename_i e
        refine List.pairwise_cons.2 ⟨fun x hx => ?_, mergeW_up ta bs ha'.2 hb'.2⟩
        rcases mergeW_mem _ _ _ hx with hx | hx
        · rw [← (lessK_congr (c := x) e).1]; exact ha'.1 x hx
        · exact hb'.1 x hx
      · rename_i e
        have hba := lessK_not (by simpa using h) (by simpa using e)
        refine List.pairwise_cons.2 ⟨fun x hx => ?_, mergeW_up (a :: ta) bs ha hb'.2⟩
        rcases mergeW_mem _ _ _ hx with hx | hx
        · rcases List.mem_cons.1 hx with rfl | hx
          · exact hba
          · exact lessK_trans hba (ha'.1 x hx)
        · exact hb'.1 x hx
termination_by a b => a.length + b.length

/-- What is kept. -/
def keepW (l : List It) : List It := l.filter liveI
theorem keepW_up {l : List It} (h : Up l) : Up (keepW l) := List.Pairwise.filter _ h

/-- Each key less than the one behind it. -/
def riseB : List It → Bool
  | a :: b :: t => lessK a b && riseB (b :: t)
  | _ => true
theorem riseB_up : ∀ (l : List It), riseB l = true → Up l
  | [], _ => List.Pairwise.nil
  | [a], _ => List.pairwise_singleton _ _
  | a :: b :: t, h => by
    simp only [riseB, Bool.and_eq_true] at h
    have ih := riseB_up (b :: t) h.2
    refine List.pairwise_cons.2 ⟨fun x hx => ?_, ih⟩
    rcases List.mem_cons.1 hx with rfl | hx
    · exact h.1
    · exact lessK_trans h.1 ((List.pairwise_cons.1 ih).1 x hx)
theorem up_riseB : ∀ (l : List It), Up l → riseB l = true
  | [], _ => rfl
  | [a], _ => rfl
  | a :: b :: t, h => by
    obtain ⟨h1, h2⟩ := List.pairwise_cons.1 h
    simp only [riseB, Bool.and_eq_true]
    exact ⟨h1 b (List.mem_cons_self ..), up_riseB (b :: t) h2⟩

/-- What is found at a key. -/
def findI (l : List It) (key : ByteArray) : Option It := l.find? fun x => !Op.bytesLess x.k.toList key.toList
def getI (l : List It) (key : ByteArray) : UInt64 × Int :=
  if 16 < key.size then (0, 3) else
  match findI l key with
  | some x => if x.k.toList == key.toList then (x.v, 0) else (0, 7)
  | none => (0, 7)

theorem find_up : ∀ (l : List It) (x : It), Up l → x ∈ l → findI l x.k = some x
  | [], x, _, h => by cases h
  | a :: t, x, hu, h => by
    obtain ⟨h1, h2⟩ := List.pairwise_cons.1 hu
    unfold findI
    rw [List.find?_cons]
    rcases List.mem_cons.1 h with rfl | h
    · rw [bless_irrefl]; rfl
    · rw [show Op.bytesLess a.k.toList x.k.toList = true from h1 x h]
      exact find_up t x h2 h
theorem get_live (l : List It) (x : It) (hu : Up l) (hx : x ∈ l) (hk : x.k.size ≤ 16) : if x.v.toNat = 0 then getI (keepW l) x.k = (0, 7) else getI (keepW l) x.k = (x.v, 0) := by
  have hg : ∀ l', getI l' x.k = match findI l' x.k with
      | some y => if y.k.toList == x.k.toList then (y.v, 0) else (0, 7)
      | none => (0, 7) := fun l' => by unfold getI; rw [if_neg (by omega)]
  rw [hg]
  by_cases h0 : x.v.toNat = 0
  · rw [if_pos h0]
    cases hf : findI (keepW l) x.k with
    | none => rfl
    | some y =>
      dsimp only
      rw [if_neg]
      intro e
      have hy : y ∈ keepW l := List.mem_of_find?_eq_some hf
      obtain ⟨hyl, hyv⟩ := List.mem_filter.1 hy
      have e1 := find_up l y hu hyl
      have e2 := find_up l x hu hx
      have : findI l y.k = findI l x.k := by unfold findI; rw [beq_iff_eq.1 e]
      rw [e1, e2] at this
      injection this with this
      subst this
      unfold liveI at hyv
      rw [h0] at hyv
      cases hyv
  · rw [if_neg h0]
    have hm : x ∈ keepW l := List.mem_filter.2 ⟨hx, by unfold liveI; simpa using h0⟩
    rw [find_up _ x (keepW_up hu) hm]
    simp

end Go.Proofs.YtklcklflnkbccaaGreatDoor

/- Plain words of the reference of layers 10 and 11: lists of items, found and put. No program in sight. -/
namespace Go.Proofs.YtklcklflnkbccaaGreatDoor

def findR (l : List It) (key : ByteArray) : Nat := l.findIdx fun x => !Op.bytesLess x.k.toList key.toList
def isR (l : List It) (key : ByteArray) : Bool := match l[findR l key]? with
  | some x => x.k.toList == key.toList
  | none => false
def putR (l : List It) (key : ByteArray) (v : UInt64) : List It × Int :=
  if 16 < key.size then (l, 3) else if v.toNat = 0 then (l, 2) else
  (l.take (findR l key) ++ ⟨key, v⟩ :: l.drop (findR l key + if isR l key then 1 else 0), 0)

theorem findR_le (l : List It) (key : ByteArray) : findR l key ≤ l.length := List.findIdx_le_length
theorem findR_at {l : List It} {key : ByteArray} {i : Nat} (hi : i < l.length) (h1 : Op.bytesLess l[i].k.toList key.toList = false) (h2 : ∀ j (h : j < l.length), j < i → Op.bytesLess l[j].k.toList key.toList = true) : findR l key = i ∧ isR l key = (l[i].k.toList == key.toList) := by
  have h : findR l key = i := by
    unfold findR
    rw [List.findIdx_eq hi]
    exact ⟨by rw [h1]; rfl, fun j hj => by rw [h2 j (by omega) hj]; rfl⟩
  refine ⟨h, ?_⟩
  unfold isR
  rw [h, List.getElem?_eq_getElem hi]
theorem findR_no {l : List It} {key : ByteArray} (h2 : ∀ j (h : j < l.length), Op.bytesLess l[j].k.toList key.toList = true) : findR l key = l.length ∧ isR l key = false := by
  have h : findR l key = l.length := by
    unfold findR
    rw [List.findIdx_eq_length]
    intro x hx
    obtain ⟨j, hj, rfl⟩ := List.getElem_of_mem hx
    rw [h2 j hj]; rfl
  refine ⟨h, ?_⟩
  unfold isR
  rw [h, List.getElem?_eq_none (Nat.le_refl _)]
theorem isR_lt {l : List It} {key : ByteArray} (h : isR l key = true) : findR l key < l.length := by
  unfold isR at h
  cases hg : l[findR l key]? with
  | none => rw [hg] at h; cases h
  | some x => exact (List.getElem?_eq_some_iff.1 hg).1
theorem getI_eq (l : List It) (key : ByteArray) : getI l key = if 16 < key.size then (0, 3) else if h : findR l key < l.length then (if isR l key then (l[findR l key].v, 0) else (0, 7)) else (0, 7) := by
  unfold getI
  split
  · rfl
  · have hf : findI l key = l[findR l key]? := by
      unfold findI findR
      exact List.find?_eq_getElem?_findIdx ..
    rw [hf]
    split
    · rename_i x hx
      obtain ⟨h1, h2⟩ := List.getElem?_eq_some_iff.1 hx
      rw [dif_pos h1]
      unfold isR
      rw [hx, h2]
    · rename_i hx
      rw [dif_neg (by have := List.getElem?_eq_none_iff.1 hx; omega)]
theorem putR_len (l : List It) (key : ByteArray) (v : UInt64) : (putR l key v).1.length ≤ l.length + 1 := by
  have := findR_le l key
  unfold putR
  split
  · simp
  · split
    · simp
    · simp only [List.length_append, List.length_take, List.length_cons, List.length_drop]
      omega

end Go.Proofs.YtklcklflnkbccaaGreatDoor

/- The tree of an index: what it is, what leaves it as it was, what a survey tells of it. Plain words alone, no program in sight. -/
namespace Go.Proofs.YtklcklflnkbccaaGreatDoor

abbrev Kv := List UInt8 × UInt64
structure Part where
  items : List Kv
  blocks : List Nat

def ownItems (nd : Nd) : List Kv := if nd.val ≠ 0 then [(nd.pre, nd.val)] else []
def underI (pre : List UInt8) (lb : UInt8) (l : List Kv) : List Kv := l.map fun kv => (pre ++ lb :: kv.1, kv.2)
def kidItems (pre : List UInt8) : List UInt8 → List Part → List Kv
  | lb :: ls, p :: ps => underI pre lb p.items ++ kidItems pre ls ps
  | _, _ => []
def kidBlocks (ps : List Part) : List Nat := (ps.map Part.blocks).flatten

/-- A tree: the node that is named, and those below; r: how many nibbles there may be. -/
inductive TreeAt (s : St) : Nat → UInt64 → List Kv → List Nat → Prop
  | mk (r : Nat) (name : UInt64) (nd : Nd) (parts : List Part) (hrd : readP s name = some nd) (hpre : nd.pre.length ≤ r) (hkid : nd.kids ≠ [] → nd.pre.length + 1 ≤ r) (hlen : parts.length = nd.kids.length)
      (hk : ∀ i (h1 : i < nd.kids.length) (h2 : i < parts.length), TreeAt s (r - nd.pre.length - 1) nd.kids[i] parts[i].items parts[i].blocks) :
      TreeAt s r name (ownItems nd ++ kidItems nd.pre nd.labels parts) ((offOf name).toNat :: kidBlocks parts)

section
variable {L : Nat} {s s' : St}

theorem lines_class {c d : Nat} (hc : c = 1 ∨ c = 2) (hd : d = 1 ∨ d = 2) (h : linesN c = linesN d) : c = d := by
  rcases hc with rfl | rfl <;> rcases hd with rfl | rfl <;> first | rfl | (simp [linesN] at h)
theorem classN_12 (x : Nd) : classN x = 1 ∨ classN x = 2 := by unfold classN; split <;> simp
theorem encW_lines' (x : Nd) : (encW x).length = 8 * linesN (classN x) := by
  rw [encW_length]
  unfold classN
  split <;> rfl

/-- What is read. -/
theorem read_some (ok : PoolOk L s) {name : UInt64} {nd : Nd} (h : readP s name = some nd) :
    ∃ o : Nat, offOf name = o ∧ TakenAt s o (classN nd) ∧ rightB nd = true ∧ wordsAt s.ws (o / 8) (8 * linesN (classN nd)) = encW nd := by
  unfold readP at h
  split at h
  · cases h
  · rename_i h0
    split at h
    · rename_i hd
      injection h with h
      have hc0 : classP s (offOf name) ≠ 0 := fun e => h0 (by rw [e]; rfl)
      obtain ⟨o, ho, ht⟩ := taken_of_class ok rfl hc0
      obtain ⟨h1, h2⟩ := decOk_iff _ hd
      rw [h] at h1 h2
      have h12 := ht.cls ok
      have hcc : classP s (offOf name) = classN nd := by
        refine lines_class h12 (classN_12 nd) ?_
        have := congrArg List.length h2
        rw [encW_lines'] at this
        simp [wordsAt] at this
        omega
      rw [hcc] at ht h2
      rw [ho, Int.toNat_natCast] at h2
      exact ⟨o, ho, ht, h1, h2.symm⟩
    · cases h
theorem read_of (ok : PoolOk L s) {name : UInt64} {nd : Nd} {o : Nat} (ho : offOf name = o) (ht : TakenAt s o (classN nd)) (hr : rightB nd = true) (hw : wordsAt s.ws (o / 8) (8 * linesN (classN nd)) = encW nd) : readP s name = some nd := by
  have hc := ht.class ok
  have h12 := classN_12 nd
  unfold readP
  rw [ho, hc, Int.toNat_natCast, hw, if_neg (by have := (lines_blocks h12).2.1; omega), if_pos (decOk_enc nd hr), cand_enc nd hr]

/-- The blocks of B stay. -/
def KeepT (s s' : St) (B : Nat → Prop) : Prop := ∀ o c, B o → TakenAt s o c → TakenAt s' o c ∧ ∀ j, inBlk o c j → s'.ws j = s.ws j

theorem KeepT.mono {B C : Nat → Prop} (h : KeepT s s' B) (k : ∀ o, C o → B o) : KeepT s s' C := fun o c hb ht => h o c (k o hb) ht
theorem KeepT.trans {s'' : St} {B : Nat → Prop} (h : KeepT s s' B) (k : KeepT s' s'' B) : KeepT s s'' B := fun o c hb ht => by
  obtain ⟨h1, h2⟩ := h o c hb ht
  obtain ⟨k1, k2⟩ := k o c hb h1
  exact ⟨k1, fun j hj => (k2 j hj).trans (h2 j hj)⟩
theorem KeepT.refl (s : St) (B : Nat → Prop) : KeepT s s B := fun _ _ _ h => ⟨h, fun _ _ => rfl⟩

theorem words_same {o c : Nat} (h : ∀ j, inBlk o c j → s'.ws j = s.ws j) : wordsAt s'.ws (o / 8) (8 * linesN c) = wordsAt s.ws (o / 8) (8 * linesN c) := by
  unfold wordsAt
  refine List.map_congr_left fun t ht => ?_
  have := List.mem_range.1 ht
  exact h _ ⟨by omega, by omega⟩

theorem read_keep (ok : PoolOk L s) (ok' : PoolOk L s') {B : Nat → Prop} (k : KeepT s s' B) {name : UInt64} {nd : Nd} (hb : B (offOf name).toNat) (h : readP s name = some nd) : readP s' name = some nd := by
  obtain ⟨o, ho, ht, hr, hw⟩ := read_some ok h
  rw [ho, Int.toNat_natCast] at hb
  obtain ⟨h1, h2⟩ := k o _ hb ht
  exact read_of ok' ho h1 hr ((words_same h2).trans hw)

theorem kidBlocks_mem {ps : List Part} {i : Nat} (h : i < ps.length) {o : Nat} (ho : o ∈ ps[i].blocks) : o ∈ kidBlocks ps := by
  unfold kidBlocks
  exact List.mem_flatten.2 ⟨_, List.mem_map.2 ⟨_, List.getElem_mem h, rfl⟩, ho⟩

theorem TreeAt.keep (ok : PoolOk L s) (ok' : PoolOk L s') {B : Nat → Prop} (k : KeepT s s' B) {r : Nat} {name : UInt64} {items : List Kv} {blocks : List Nat} (h : TreeAt s r name items blocks) (hb : ∀ o ∈ blocks, B o) : TreeAt s' r name items blocks := by
  induction h with
  | mk r name nd parts hrd hpre hkid hlen hk ih =>
    refine .mk r name nd parts (read_keep ok ok' k (hb _ (List.mem_cons_self ..)) hrd) hpre hkid hlen fun i h1 h2 => ih i h1 h2 fun o ho => hb o (List.mem_cons_of_mem _ (kidBlocks_mem h2 ho))

/-- All its blocks are taken. -/
theorem TreeAt.taken (ok : PoolOk L s) {r : Nat} {name : UInt64} {items : List Kv} {blocks : List Nat} (h : TreeAt s r name items blocks) : ∀ o ∈ blocks, ∃ c, TakenAt s o c := by
  induction h with
  | mk r name nd parts hrd hpre hkid hlen hk ih =>
    intro o ho
    rcases List.mem_cons.1 ho with rfl | ho
    · obtain ⟨o, ho, ht, _⟩ := read_some ok hrd
      rw [ho, Int.toNat_natCast]
      exact ⟨_, ht⟩
    · unfold kidBlocks at ho
      obtain ⟨l, hl, ho⟩ := List.mem_flatten.1 ho
      obtain ⟨p, hp, rfl⟩ := List.mem_map.1 hl
      obtain ⟨i, hi, rfl⟩ := List.getElem_of_mem hp
      exact ih i (by omega) hi o ho

/-- Its keys are of nibbles, and not too long. -/
theorem kidItems_mem {pre : List UInt8} : ∀ {ls : List UInt8} {ps : List Part} {kv : Kv}, kv ∈ kidItems pre ls ps → ∃ (i : Nat) (h1 : i < ls.length) (h2 : i < ps.length) (kv' : Kv), kv' ∈ ps[i].items ∧ kv = (pre ++ ls[i] :: kv'.1, kv'.2)
  | [], _, kv, h => by simp [kidItems] at h
  | _ :: _, [], kv, h => by simp [kidItems] at h
  | lb :: ls, p :: ps, kv, h => by
    rw [kidItems] at h
    rcases List.mem_append.1 h with h | h
    · obtain ⟨kv', hk, e⟩ := List.mem_map.1 h
      exact ⟨0, by simp, by simp, kv', hk, e.symm⟩
    · obtain ⟨i, h1, h2, kv', hk, e⟩ := kidItems_mem h
      exact ⟨i + 1, by simp; omega, by simp; omega, kv', hk, e⟩
theorem ownItems_mem {nd : Nd} {kv : Kv} (h : kv ∈ ownItems nd) : kv = (nd.pre, nd.val) ∧ nd.val ≠ 0 := by
  unfold ownItems at h
  split at h
  · rename_i h0
    exact ⟨List.mem_singleton.1 h, h0⟩
  · cases h

theorem TreeAt.nib (ok : PoolOk L s) {r : Nat} {name : UInt64} {items : List Kv} {blocks : List Nat} (h : TreeAt s r name items blocks) : ∀ kv ∈ items, kv.1.all isNib = true ∧ kv.1.length ≤ r ∧ kv.2 ≠ 0 := by
  induction h with
  | mk r name nd parts hrd hpre hkid hlen hk ih =>
    obtain ⟨o, ho, ht, hr, _⟩ := read_some ok hrd
    have hr' := (rightB_iff nd).1 hr
    intro kv hkv
    rcases List.mem_append.1 hkv with h1 | h1
    · obtain ⟨rfl, h0⟩ := ownItems_mem h1
      exact ⟨hr'.2.1, hpre, h0⟩
    · obtain ⟨i, h2, h3, kv', h4, rfl⟩ := kidItems_mem h1
      obtain ⟨h5, h6, h7⟩ := ih i (by omega) h3 kv' h4
      have h8 := hkid (by intro e; rw [e] at hlen; exact absurd h3 (by rw [hlen]; simp))
      have h9 := List.all_eq_true.1 hr'.2.2.2.1 _ (List.getElem_mem h2)
      refine ⟨by simp only [List.all_append, List.all_cons, hr'.2.1, h9, h5, Bool.and_self], ?_, h7⟩
      simp only [List.length_append, List.length_cons]
      omega

/-- How keys stand. -/
theorem bless_app (p a b : List UInt8) : Op.bytesLess (p ++ a) (p ++ b) = Op.bytesLess a b := by
  induction p with
  | nil => rfl
  | cons x p ih => simp [Op.bytesLess, ih]
theorem bless_pre (p : List UInt8) (x : UInt8) (t : List UInt8) : Op.bytesLess p (p ++ x :: t) = true := by
  induction p with
  | nil => rfl
  | cons y p ih => simp [Op.bytesLess, ih]
theorem bless_head {x y : UInt8} (h : x.toNat < y.toNat) (a b : List UInt8) : Op.bytesLess (x :: a) (y :: b) = true := by
  simp only [Op.bytesLess, Bool.or_eq_true, decide_eq_true_eq]
  exact .inl (UInt8.lt_iff_toNat_lt.2 h)

def UpK (l : List Kv) : Prop := l.Pairwise fun a b => Op.bytesLess a.1 b.1 = true

theorem underI_up {pre : List UInt8} {lb : UInt8} {l : List Kv} (h : UpK l) : UpK (underI pre lb l) := by
  unfold UpK underI
  rw [List.pairwise_map]
  refine h.imp fun {a b} hab => ?_
  show Op.bytesLess (pre ++ lb :: a.1) (pre ++ lb :: b.1) = true
  rw [bless_app]
  simp [Op.bytesLess, hab]
theorem kidItems_up {pre : List UInt8} : ∀ {ls : List UInt8} {ps : List Part}, risingB ls = true → (∀ p ∈ ps, UpK p.items) → UpK (kidItems pre ls ps)
  | [], _, _, _ => by simp [kidItems, UpK]
  | _ :: _, [], _, _ => by simp [kidItems, UpK]
  | lb :: ls, p :: ps, hr, h => by
    obtain ⟨h1, h2⟩ := rising_tail hr
    rw [kidItems]
    refine List.pairwise_append.2 ⟨underI_up (h p (List.mem_cons_self ..)), kidItems_up h1 (fun q hq => h q (List.mem_cons_of_mem _ hq)), fun a ha b hb => ?_⟩
    obtain ⟨a', _, rfl⟩ := List.mem_map.1 ha
    obtain ⟨i, h3, h4, b', _, rfl⟩ := kidItems_mem hb
    show Op.bytesLess (pre ++ lb :: a'.1) (pre ++ ls[i] :: b'.1) = true
    rw [bless_app]
    exact bless_head (h2 _ (List.getElem_mem h3)) _ _

theorem TreeAt.up (ok : PoolOk L s) {r : Nat} {name : UInt64} {items : List Kv} {blocks : List Nat} (h : TreeAt s r name items blocks) : UpK items := by
  induction h with
  | mk r name nd parts hrd hpre hkid hlen hk ih =>
    obtain ⟨o, ho, ht, hr, _⟩ := read_some ok hrd
    have hr' := (rightB_iff nd).1 hr
    refine List.pairwise_append.2 ⟨?_, kidItems_up hr'.2.2.2.2.1 (fun p hp => ?_), fun a ha b hb => ?_⟩
    · unfold ownItems; split <;> simp
    · obtain ⟨i, hi, rfl⟩ := List.getElem_of_mem hp
      exact ih i (by omega) hi
    · obtain ⟨rfl, _⟩ := ownItems_mem ha
      obtain ⟨i, h3, h4, b', _, rfl⟩ := kidItems_mem hb
      exact bless_pre _ _ _

/-- What a survey tells. -/
theorem visit_kids {f : Nat} {ahead pre : List UInt8} : ∀ (ls : List UInt8) (ks : List UInt64) (ps : List Part) (i0 : List Kv) (m0 : List Int), ls.length = ks.length → ps.length = ks.length →
    (∀ i (h1 : i < ls.length) (h2 : i < ks.length) (h3 : i < ps.length) (i0 : List Kv) (m0 : List Int), (∀ o ∈ ps[i].blocks, (o : Int) ∉ m0) → visitP s f ks[i] (ahead ++ pre ++ [ls[i]]) (i0, m0) = some (i0 ++ ps[i].items.map (fun kv => (pairs (ahead ++ pre ++ ls[i] :: kv.1), kv.2)), m0 ++ ps[i].blocks.map Int.ofNat)) →
    (kidBlocks ps).Nodup → (∀ o ∈ kidBlocks ps, (o : Int) ∉ m0) →
    (ls.zip ks).foldlM (fun st (lk : UInt8 × UInt64) => visitP s f lk.2 (ahead ++ pre ++ [lk.1]) st) (i0, m0) = some (i0 ++ (kidItems pre ls ps).map (fun kv => (pairs (ahead ++ kv.1), kv.2)), m0 ++ (kidBlocks ps).map Int.ofNat)
  | [], ks, ps, i0, m0, h1, h2, _, _, _ => by
    have : ks = [] := List.eq_nil_of_length_eq_zero (by simpa using h1.symm)
    subst this
    have : ps = [] := List.eq_nil_of_length_eq_zero (by simpa using h2)
    subst this
    simp [kidItems, kidBlocks]
  | lb :: ls, [], ps, i0, m0, h1, _, _, _, _ => by simp at h1
  | lb :: ls, k :: ks, [], i0, m0, _, h2, _, _, _ => by simp at h2
  | lb :: ls, k :: ks, p :: ps, i0, m0, h1, h2, H, hn, hm => by
    have e : kidBlocks (p :: ps) = p.blocks ++ kidBlocks ps := rfl
    rw [e] at hn hm
    obtain ⟨hn1, hn2, hn3⟩ := List.nodup_append.1 hn
    have h0 := H 0 (by simp) (by simp) (by simp) i0 m0 (fun o ho => hm o (List.mem_append_left _ ho))
    simp only [List.getElem_cons_zero] at h0
    rw [List.zip_cons_cons, List.foldlM_cons, h0]
    simp only [Option.bind_eq_bind, Option.bind_some]
    rw [visit_kids ls ks ps _ _ (by simpa using h1) (by simpa using h2) (fun i h1 h2 h3 i0 m0 hd => ?_) hn2 (fun o ho => ?_)]
    · rw [e, kidItems]
      simp [underI, List.append_assoc, Function.comp_def]
    · have := H (i + 1) (by simp; omega) (by simp; omega) (by simp; omega) i0 m0 hd
      simpa using this
    · rw [List.mem_append]
      rintro (h | h)
      · exact hm o (List.mem_append_right _ ho) h
      · obtain ⟨o', ho', e2⟩ := List.mem_map.1 h
        have : o' = o := Int.ofNat.inj e2
        subst this
        exact hn3 o' ho' o' ho rfl

theorem TreeAt.survey (ok : PoolOk L s) {r : Nat} {name : UInt64} {items : List Kv} {blocks : List Nat} (h : TreeAt s r name items blocks) : ∀ (f : Nat) (ahead : List UInt8) (i0 : List Kv) (m0 : List Int), r < f → ahead.length + r ≤ 32 → blocks.Nodup → (∀ o ∈ blocks, (o : Int) ∉ m0) → (∀ kv ∈ items, keyOk (ahead ++ kv.1) = true) →
    visitP s f name ahead (i0, m0) = some (i0 ++ items.map (fun kv => (pairs (ahead ++ kv.1), kv.2)), m0 ++ blocks.map Int.ofNat) := by
  induction h with
  | mk r name nd parts hrd hpre hkid hlen hk ih =>
    intro f ahead i0 m0 hf hal hn hm hkey
    obtain ⟨o, ho, ht, hr, _⟩ := read_some ok hrd
    have hr' := (rightB_iff nd).1 hr
    obtain ⟨f, rfl⟩ : ∃ g, f = g + 1 := ⟨f - 1, by omega⟩
    obtain ⟨hn1, hn2⟩ := List.nodup_cons.1 hn
    rw [visitP, hrd]
    dsimp only
    have hmo := hm (offOf name).toNat (List.mem_cons_self ..)
    rw [ho, Int.toNat_natCast] at hmo
    rw [if_neg (by
      rw [ho]
      rintro (h | h)
      · exact hmo (List.contains_iff_mem.1 h)
      · simp only [List.length_append] at h; omega)]
    rw [if_neg (by
      rintro ⟨h1, h2⟩
      have := hkey (nd.pre, nd.val) (List.mem_append_left _ (by unfold ownItems; rw [if_pos h1]; exact List.mem_singleton.2 rfl))
      rw [this] at h2; cases h2)]
    have hkb : ∀ o' ∈ kidBlocks parts, ((o' : Int)) ∉ m0 ++ [offOf name] := fun o' ho' hc => by
      rcases List.mem_append.1 hc with h | h
      · exact hm o' (List.mem_cons_of_mem _ ho') h
      · rw [List.mem_singleton, ho] at h
        refine hn1 ?_
        rw [ho, Int.toNat_natCast]
        have : o' = o := by omega
        exact this ▸ ho'
    rw [visit_kids nd.labels nd.kids parts _ _ hr'.2.2.1 hlen (fun i h1 h2 h3 i0 m0 hd => ?_) hn2 hkb]
    · simp only [ho, List.map_append, List.map_cons, Int.toNat_natCast, List.append_assoc, List.cons_append, List.nil_append]
      unfold ownItems
      split <;> simp
    · have h8 := hkid (by intro e; rw [e] at h2; simp at h2)
      have hnd : parts[i].blocks.Nodup := by
        have := (List.pairwise_flatten.1 hn2).1
        exact this _ (List.mem_map.2 ⟨_, List.getElem_mem h3, rfl⟩)
      have := ih i h2 h3 f (ahead ++ nd.pre ++ [nd.labels[i]]) i0 m0 (by omega) (by simp only [List.length_append, List.length_cons, List.length_nil]; omega) hnd hd (fun kv hkv => ?_)
      · rw [this]; simp
      · have := hkey (nd.pre ++ nd.labels[i] :: kv.1, kv.2) (List.mem_append_right _ ?_)
        · simpa using this
        · clear ih hk hkey hm hkb hn hn2 hrd hkid hlen
          have : ∀ (ls : List UInt8) (ps : List Part) (i : Nat) (h1 : i < ls.length) (h3 : i < ps.length), kv ∈ ps[i].items → (nd.pre ++ ls[i] :: kv.1, kv.2) ∈ kidItems nd.pre ls ps := by
            intro ls
            induction ls with
            | nil => intro ps i h1; simp at h1
            | cons lb ls ih =>
              intro ps i h1 h3 hk
              cases ps with
              | nil => simp at h3
              | cons p ps =>
                rw [kidItems]
                cases i with
                | zero => exact List.mem_append_left _ (List.mem_map.2 ⟨kv, by simpa using hk, rfl⟩)
                | succ i => exact List.mem_append_right _ (by simpa using ih ps i (by simpa using h1) (by simpa using h3) (by simpa using hk))
          exact this _ _ i h1 h3 hkv
end

end Go.Proofs.YtklcklflnkbccaaGreatDoor

/- New nodes: build, leaf, above. Plain words alone, no program in sight. -/
namespace Go.Proofs.YtklcklflnkbccaaGreatDoor

/-- A job that made the blocks B, and nothing else. -/
structure Grown (L : Nat) (s0 : St) (j : Jb) (B : List Nat) : Prop where
  ok : PoolOk L j.s
  sh : j.s.sh = s0.sh
  nh : ∀ o d, ¬ HeldAt j.s o d
  made : j.made = B.map Int.ofNat
  nod : B.Nodup
  new : ∀ o ∈ B, ∀ d, ¬ TakenAt s0 o d
  tk : ∀ o, (∃ d, TakenAt j.s o d) ↔ (∃ d, TakenAt s0 o d) ∨ o ∈ B
  keep : KeepT s0 j.s (fun _ => True)
  low : ∀ i, i < 16 → j.s.ws i = s0.ws i

theorem Grown.start {L : Nat} {s : St} (ok : PoolOk L s) (nh : ∀ o d, ¬ HeldAt s o d) : Grown L s ⟨s, []⟩ [] :=
  ⟨ok, rfl, nh, rfl, List.nodup_nil, (fun _ h => nomatch h), (fun o => by simp), KeepT.refl _ _, fun _ _ => rfl⟩

theorem offOf_ofNat {o : Nat} (h : o ≤ 65536) : offOf (UInt64.ofNat o) = o := by
  unfold offOf
  rw [ofNat_toNat_lt (by omega)]
  exact wrap64 _ (by omega) (by omega)

section
variable {L : Nat} {s0 : St} {j : Jb} {B : List Nat}

theorem build_ok (g : Grown L s0 j B) {n : Nd} (hr : rightB n = true) :
    buildP j n = (j, 0, 6) ∨ ∃ j' name o, buildP j n = (j', name, 0) ∧ o ∉ B ∧ Grown L s0 j' (B ++ [o]) ∧ offOf name = (o : Nat) ∧ name ≠ 0 ∧ readP j'.s name = some n ∧ KeepT j.s j'.s (fun _ => True) := by
  unfold buildP
  rw [hr]
  simp only [Bool.not_true, Bool.false_eq_true, if_false]
  cases hres : reserveP j.s (classN n) with
  | none => exact .inl rfl
  | some p =>
    obtain ⟨off, s1⟩ := p
    right
    obtain ⟨ok1, hw1, hsh1, htk1, hh1, _, hh2, ht1⟩ := reserve_ok g.ok (classN_12 n) hres
    have hb1 := hh1.bounds ok1
    have htf := ok1.sh.tfits
    have hL1 := g.ok.L1
    have h12 := classN_12 n
    have hlen := encW_lines' n
    obtain ⟨l1, l2, l3, l4⟩ := lines_blocks h12
    have hput : ∀ i, ¬ inBlk off (classN n) i → putWs s1.ws (off / 8) (encW n) i = s1.ws i := fun i hi => by
      unfold putWs
      rw [if_neg]
      intro h
      exact hi ⟨h.1, by rw [hlen] at h; exact h.2⟩
    have hnot : ∀ i, i < 16 + s1.sh.slabs → ¬ inBlk off (classN n) i := fun i hi h => by
      unfold inBlk at h; omega
    obtain ⟨s1', hs1'⟩ : ∃ s1', s1' = ({ s1 with ws := putWs s1.ws (off / 8) (encW n) } : St) := ⟨_, rfl⟩
    have ok1' : PoolOk L s1' := hs1' ▸ ok1.words (fun i hi => hput _ (hnot _ (by omega)))
    have hh1' : HeldAt s1' off (classN n) := by rw [hs1']; exact hh1
    obtain ⟨s2, e2, ok2, hsh2, hw2, ht2, hh2'⟩ := take_ok ok1' hh1'
    have hsh1' : s1'.sh = s1.sh := by rw [hs1']
    have ht1' : ∀ o d, TakenAt s1' o d ↔ TakenAt j.s o d := fun o d => by rw [hs1']; exact ht1 o d
    have hoff := offOf_ofNat (o := off) (by omega)
    have hkeep : KeepT j.s s2 (fun _ => True) := fun o c _ ht => by
      have ht1'' := (ht1' o c).2 ht
      obtain ⟨hne, hap⟩ := held_apart ok1' hh1' ht1''
      have hbo := ht1''.bounds ok1'
      refine ⟨(ht2 o c).2 (.inl ht1''), fun i hi => ?_⟩
      rw [hw2 i (.inr (ok1'.table_words hbo.1 hi)), hs1']
      show putWs s1.ws (off / 8) (encW n) i = _
      rw [hput i (fun h => apart_words hap hb1.2.2 hbo.2.2 h hi), hw1]
    have hnew : ∀ d, ¬ TakenAt j.s off d := fun d hd => (held_apart ok1' hh1' ((ht1' off d).2 hd)).1 rfl
    have hnB : off ∉ B := fun h => by
      obtain ⟨d, hd⟩ := (g.tk off).2 (.inr h)
      exact hnew d hd
    have hrd : readP s2 (UInt64.ofNat off) = some n := by
      refine read_of ok2 hoff ((ht2 _ _).2 (.inr ⟨rfl, rfl⟩)) hr ?_
      unfold wordsAt
      refine List.ext_getElem (by simp [hlen]) fun t h1 h2 => ?_
      simp only [List.getElem_map, List.getElem_range]
      have htl : t < 8 * linesN (classN n) := by simpa using h1
      have hib : inBlk off (classN n) (off / 8 + t) := ⟨by omega, by omega⟩
      rw [hw2 _ (.inr (ok1'.table_words (by rw [hsh1']; exact hb1.1) hib)), hs1']
      show putWs s1.ws (off / 8) (encW n) (off / 8 + t) = _
      unfold putWs
      rw [if_pos ⟨by omega, by omega⟩, Nat.add_sub_cancel_left, List.getD_eq_getElem?_getD, List.getElem?_eq_getElem h2]
      rfl
    refine ⟨⟨s2, j.made ++ [(off : Int)]⟩, UInt64.ofNat off, off, ?_, hnB, ⟨ok2, by rw [hsh2, hsh1', hsh1, g.sh], fun o d h => ?_, by rw [g.made]; simp, ?_, fun o ho d hd => ?_, fun o => ?_, g.keep.trans hkeep, fun i hi => ?_⟩, hoff, ?_, hrd, hkeep⟩
    · rw [hs1'] at e2
      simp only [e2, if_true]
    · obtain ⟨h1, h2⟩ := (hh2' o d).1 h
      rw [hs1'] at h1
      rcases hh2 o d h1 with h3 | h3
      · exact g.nh o d h3
      · exact h2 h3
    · exact List.nodup_append.2 ⟨g.nod, by simp, fun a ha b hb e => by rw [List.mem_singleton] at hb; subst hb; exact hnB (e ▸ ha)⟩
    · rcases List.mem_append.1 ho with h | h
      · exact g.new o h d hd
      · rw [List.mem_singleton] at h
        subst h
        obtain ⟨d', hd'⟩ := (g.tk o).2 (.inl ⟨d, hd⟩)
        exact hnew d' hd'
    · have h1 : (∃ d, TakenAt s2 o d) ↔ (∃ d, TakenAt j.s o d) ∨ o = off := by
        constructor
        · rintro ⟨d, hd⟩
          rcases (ht2 o d).1 hd with h | h
          · exact .inl ⟨d, (ht1' o d).1 h⟩
          · exact .inr h.1
        · rintro (⟨d, hd⟩ | rfl)
          · exact ⟨d, (ht2 o d).2 (.inl ((ht1' o d).2 hd))⟩
          · exact ⟨_, (ht2 _ _).2 (.inr ⟨rfl, rfl⟩)⟩
      show (∃ d, TakenAt s2 o d) ↔ _
      rw [h1, g.tk o, List.mem_append, List.mem_singleton, or_assoc]
    · show s2.ws i = _
      rw [hw2 i (.inl hi), hs1']
      show putWs s1.ws (off / 8) (encW n) i = _
      rw [hput i (hnot i (by omega)), hw1, g.low i hi]
    · intro e
      have := congrArg UInt64.toNat e
      rw [ofNat_toNat_lt (by omega)] at this
      simp at this
      omega

/-- Where new nodes end: the job's blocks, or no room. -/
def LeafPost (L : Nat) (s0 : St) (j : Jb) (B : List Nat) (r : Nat) (l : List UInt8) (value : UInt64) (res : Jb × UInt64 × Int) : Prop :=
  (res.2.2 = 6 ∧ ∃ B', Grown L s0 res.1 B') ∨
  (res.2.2 = 0 ∧ ∃ C bl, Grown L s0 res.1 (B ++ C) ∧ KeepT j.s res.1.s (fun _ => True) ∧ res.2.1 ≠ 0 ∧ TreeAt res.1.s r res.2.1 [(l, value)] bl ∧ bl.Perm C)

theorem tree_leaf {s : St} {name : UInt64} {l : List UInt8} {value : UInt64} {r o : Nat} (h : readP s name = some ⟨l, value, [], []⟩) (ho : offOf name = o) (hl : l.length ≤ r) (hv : value ≠ 0) : TreeAt s r name [(l, value)] [o] := by
  have := TreeAt.mk r name ⟨l, value, [], []⟩ [] h hl (fun h => absurd rfl h) rfl (fun i h1 _ => absurd h1 (by simp))
  rw [ho, Int.toNat_natCast] at this
  simpa [ownItems, kidItems, kidBlocks, hv] using this

/-- A node without kids that has one now. -/
theorem withOne_ok {pre : List UInt8} {val : UInt64} {label : UInt8} {kid : UInt64} (hp : pre.length ≤ 15) (hn : pre.all isNib = true) (h16 : isNib label = true) (hk : kid ≠ 0) : withOkP ⟨pre, val, [], []⟩ label kid = true ∧ withP ⟨pre, val, [], []⟩ label kid = ⟨pre, val, [label], [kid]⟩ ∧ rightB ⟨pre, val, [label], [kid]⟩ = true ∧ rightB ⟨pre, val, [], []⟩ = true := by
  have hr0 : rightB ⟨pre, val, [], []⟩ = true := by
    rw [rightB_iff]
    exact ⟨hp, hn, rfl, rfl, rfl, fun i h => absurd h (by simp)⟩
  have hk' : kid.toNat ≠ 0 := fun e => hk (UInt64.toNat_inj.1 (by simpa using e))
  refine ⟨?_, rfl, ?_, hr0⟩
  · rw [withOkP_iff]
    exact ⟨hr0, by simpa [isNib] using h16, hk', rfl⟩
  · rw [rightB_iff]
    refine ⟨hp, hn, rfl, by simp [h16], rfl, fun i h => ?_⟩
    simp only [List.length_cons, List.length_nil] at h
    have : i = 0 := by omega
    subst this
    exact hk'

/-- A node with one below. -/
theorem tree_one {s : St} {name kid : UInt64} {pre : List UInt8} {val : UInt64} {label : UInt8} {r o : Nat} {il : List Kv} {bl : List Nat} (h : readP s name = some ⟨pre, val, [label], [kid]⟩) (ho : offOf name = o) (hl : pre.length + 1 ≤ r) (ht : TreeAt s (r - pre.length - 1) kid il bl) :
    TreeAt s r name ((if val ≠ 0 then [(pre, val)] else []) ++ underI pre label il) (o :: bl) := by
  have := TreeAt.mk r name ⟨pre, val, [label], [kid]⟩ [⟨il, bl⟩] h (by simp only; omega) (fun _ => hl) rfl (fun i h1 h2 => by
    simp only [List.length_cons, List.length_nil] at h1
    have : i = 0 := by omega
    subst this
    exact ht)
  rw [ho, Int.toNat_natCast] at this
  simpa [ownItems, kidItems, kidBlocks] using this

theorem leaf_ok : ∀ (f : Nat) {j : Jb} {B : List Nat} (_ : Grown L s0 j B) (r : Nat) (l : List UInt8) (value : UInt64), l.length < f → l.length ≤ r → l.all isNib = true → value ≠ 0 → LeafPost L s0 j B r l value (leafP f j l value)
  | 0, _, _, _, _, _, _, h, _, _, _ => absurd h (by omega)
  | f + 1, j, B, g, r, l, value, hf, hlr, hn, hv => by
    rw [leafP]
    by_cases h15 : l.length ≤ 15
    · rw [if_pos h15]
      have hr : rightB ⟨l, value, [], []⟩ = true := by
        rw [rightB_iff]
        exact ⟨h15, hn, rfl, rfl, rfl, fun i h => absurd h (by simp)⟩
      rcases build_ok g hr with e | ⟨j', name, o, e, ho, g', hoff, hn0, hrd, hk⟩
      · rw [e]; exact .inl ⟨rfl, B, g⟩
      · rw [e]; exact .inr ⟨rfl, [o], [o], g', hk, hn0, tree_leaf hrd hoff hlr hv, List.Perm.refl _⟩
    · rw [if_neg h15]
      have ih := leaf_ok f g (r - 15 - 1) (l.drop 16) value (by rw [List.length_drop]; omega) (by rw [List.length_drop]; omega) (all_drop _ _ _ hn) hv
      generalize leafP f j (l.drop 16) value = res at ih
      obtain ⟨j1, kid, e⟩ := res
      simp only
      unfold aboveP
      rcases ih with ⟨e1, B', g1⟩ | ⟨e1, C, bl, g1, hk1, hn1, ht1, hp1⟩
      · simp only at e1 g1
        subst e1
        rw [if_pos (by decide)]
        exact .inl ⟨rfl, B', g1⟩
      · simp only at e1 g1 hk1 hn1 ht1
        subst e1
        rw [if_neg (by simp)]
        have hlt : (l.take 15).length = 15 := by simp; omega
        have hg15 : l.getD 15 0 = l[15]'(by omega) := by rw [List.getD_eq_getElem?_getD, List.getElem?_eq_getElem (by omega)]; rfl
        have hlab : isNib (l.getD 15 0) = true := by rw [hg15]; exact List.all_eq_true.1 hn _ (List.getElem_mem _)
        obtain ⟨w1, w2, w3, _⟩ := withOne_ok (val := 0) (Nat.le_of_eq hlt) (all_take _ _ 15 hn) hlab hn1
        rw [if_pos w1, w2]
        rcases build_ok g1 w3 with e | ⟨j', name, o, e, ho, g', hoff, hn0, hrd, hk⟩
        · rw [e]; exact .inl ⟨rfl, _, g1⟩
        · rw [e]
          refine .inr ⟨rfl, C ++ [o], o :: bl, by rw [← List.append_assoc]; exact g', hk1.trans hk, hn0, ?_, ?_⟩
          · have := tree_one (r := r) hrd hoff (by rw [hlt]; omega) (by rw [hlt]; exact ht1.keep g1.ok g'.ok hk (fun _ _ => trivial))
            have e2 : l.take 15 ++ l.getD 15 0 :: l.drop 16 = l := by
              rw [hg15]
              conv => rhs; rw [← List.take_append_drop 15 l]
              rw [List.drop_eq_getElem_cons (by omega : 15 < l.length)]
            rw [if_neg (by simp), List.nil_append] at this
            unfold underI at this
            simp only [List.map_cons, List.map_nil, e2] at this
            exact this
          · refine List.Perm.trans ?_ (List.perm_append_singleton o C).symm
            exact List.Perm.cons _ hp1
end

end Go.Proofs.YtklcklflnkbccaaGreatDoor
