import Derived.Test.YtgdomldfjiobfaaGreatDoorG02
import Derived.Test.YtgdomldfjiobfaaGreatDoorG05
import Derived.Test.YtgdomldfjiobfaaGreatDoorG21
/- A survey of an index in memory, and what keeps rows of bytes, words and nodes. No statement of the program. -/
namespace Go.Proofs.YtgdomldfjiobfaaGreatDoor
open Go.RowKit

/-- Blocks of bytes, of words and of nodes stay. -/
def KeepB (w w' : World) : Prop := w.heap.size ≤ w'.heap.size ∧ ∀ (g : Nat) (cs : Array Value) (e : TypeId) (fz : Nat × Nat), (e = 5 ∨ e = 31 ∨ e = 121) → w.heap[g]? = some (Obj.cells cs e fz) → w'.heap[g]? = w.heap[g]?

theorem KeepB.refl (w : World) : KeepB w w := ⟨Nat.le_refl _, fun _ _ _ _ _ _ => rfl⟩
theorem KeepB.of_below {w w' : World} (h : Below w.heap.size w w') : KeepB w w' := ⟨h.size, fun g _ _ _ _ hg => h.block g (Array.getElem?_eq_some_iff.1 hg).1⟩
theorem KeepB.trans {a b c : World} (h : KeepB a b) (k : KeepB b c) : KeepB a c :=
  ⟨Nat.le_trans h.1 k.1, fun g cs e fz he hg => by
    have h1 := h.2 g cs e fz he hg
    exact (k.2 g cs e fz he (h1.trans hg)).trans h1⟩
theorem KeepB.of_kept {w w' : World} {g : Nat} (h : Kept w w' (some g)) (hg : ∀ (cs : Array Value) (e : TypeId) (fz : Nat × Nat), (e = 5 ∨ e = 31 ∨ e = 121) → w.heap[g]? ≠ some (Obj.cells cs e fz)) : KeepB w w' :=
  ⟨h.1, fun g' cs e fz he hg' => h.2 g' (Array.getElem?_eq_some_iff.1 hg').1 (fun e' => by injection e' with e'; subst e'; exact hg cs e fz he hg')⟩
theorem KeepB.own {w w' : World} {base k n : Nat} {e : TypeId} {v : Value} {xs : List Value} (h : KeepB w w') (he : e = 5 ∨ e = 31 ∨ e = 121) (ho : w.ownsRow base e k v n xs) : w'.ownsRow base e k v n xs := by
  refine ⟨ho.1, ?_⟩
  rcases ho.2 with h1 | ⟨g, cap, cur, h1, h2, h3, h4⟩
  · exact .inl h1
  · exact .inr ⟨g, cap, cur, h1, h2, (h.2 g _ _ _ he h3).trans h3, h4⟩
theorem KeepB.nd {w w' : World} {base : Nat} {v : Value} {x : Nd} (s : KeepB w w') (h : NdV w base v x) : NdV w' base v x := by
  obtain ⟨A1, c1, A2, c2, A3, c3, e, h1, h2, h3⟩ := h
  exact ⟨A1, c1, A2, c2, A3, c3, e, s.own (.inl rfl) h1, s.own (.inl rfl) h2, s.own (.inr (.inl rfl)) h3⟩
theorem KeepB.box {w w' : World} {g : Nat} {xs : List Value} (s : KeepB w w') (h : Blk w g 121 xs) : Blk w' g 121 xs := (s.2 g _ _ _ (.inr (.inr rfl)) h).trans h

/-- Bytes in a block of bytes, from its first cell on; or none. -/
def Row8 (w : World) (A : Option Addr) (l : List UInt8) : Prop :=
  Bs w A l.length l ∧ (∀ a, A = some a → ∃ (g : Nat) (cs : Array Value) (fz : Nat × Nat), a = ⟨g, 0, none⟩ ∧ w.heap[g]? = some (Obj.cells cs 5 fz)) ∧ (A = none → l = [])

theorem Row8.nil (w : World) : Row8 w none [] := by
  refine ⟨Rd.nil, ?_, fun _ => rfl⟩
  intro a e
  cases e
theorem Row8.keep {w w' : World} {A : Option Addr} {l : List UInt8} (h : Row8 w A l) (s : KeepB w w') : Row8 w' A l := by
  obtain ⟨h1, h2, h3⟩ := h
  refine ⟨⟨h1.1, fun hn => ?_⟩, fun a e => ?_, h3⟩
  · obtain ⟨b, off, e, hb, hc⟩ := h1.2 hn
    obtain ⟨g, cs, fz, e2, hg⟩ := h2 _ e
    injection e2 with e3 e4
    subst e3 e4
    exact ⟨_, _, e, Nat.lt_of_lt_of_le hb s.1, fun j hj => (World.cell?_of_block (w := w) (s.2 _ _ _ _ (.inl rfl) hg)).trans (hc j hj)⟩
  · obtain ⟨g, cs, fz, e2, hg⟩ := h2 a e
    exact ⟨g, cs, fz, e2, (s.2 _ _ _ _ (.inl rfl) hg).trans hg⟩
theorem Row8.cut {w w' : World} {A A' : Option Addr} {l m : List UInt8} (h : Row8 w A l) (hr : Rd w' A' (l.length + m.length) (l.map bv ++ m.map bv)) (hb : Below w.heap.size w w') (hc : CutAt w w' 5 A A' m.length) : Row8 w' A' (l ++ m) := by
  refine ⟨?_, fun a e => ?_, fun e => ?_⟩
  · rw [List.length_append]
    show Rd w' A' _ ((l ++ m).map bv)
    rw [List.map_append]; exact hr
  · rcases hc with ⟨rfl, _⟩ | ⟨g, cs, e1, _, e3⟩
    · obtain ⟨g, cs, fz, e2, hg⟩ := h.2.1 a e
      exact ⟨g, cs, fz, e2, (hb.block _ (Array.getElem?_eq_some_iff.1 hg).1).trans hg⟩
    · rw [e1] at e
      injection e with e
      exact ⟨g, cs, _, e.symm, e3⟩
  · rcases hc with ⟨rfl, e2⟩ | ⟨g, cs, e1, _⟩
    · rw [h.2.2 e, List.eq_nil_of_length_eq_zero e2]; rfl
    · rw [e1] at e; exact nomatch e

/-- An item's cells. -/
def itV (p : List UInt8 × UInt64) : List Value := [.string ⟨p.1.toArray⟩, .int .u64 (p.2.toNat : Int)]

structure SurvAt (w : World) (base sb mb x : Nat) (items : List (List UInt8 × UInt64)) (met : List Int) (v : Value) : Prop where
  box : Blk w sb 136 [.pointer (some ⟨x, 0, none⟩), v, .map (some mb)]
  row : w.ownsRow base 105 2 v items.length (items.map itV).flatten
  map : MapIs w mb (met.map fun o => (o, 1))
  bs : base ≤ sb
  bm : base ≤ mb
  vs : v.ownBlock ≠ some sb
  nod : met.Nodup
  rng : ∀ o ∈ met, 0 ≤ o ∧ o ≤ 65536
  len : items.length ≤ met.length

theorem nodup_le : ∀ (N : Nat) (l : List Int), l.Nodup → (∀ o ∈ l, 0 ≤ o ∧ o < (N : Int)) → l.length ≤ N
  | 0, l, _, h => by
    cases l with
    | nil => simp
    | cons a t => have := h a (List.mem_cons_self ..); omega
  | N + 1, l, hn, h => by
    by_cases hm : (N : Int) ∈ l
    · have h1 := nodup_le N (l.erase (N : Int)) (hn.erase _) (fun o ho => by
        have := (hn.mem_erase_iff).1 ho
        have := h o this.2
        omega)
      rw [List.length_erase_of_mem hm] at h1
      omega
    · have := nodup_le N l hn (fun o ho => by
        have h2 := h o ho
        have : o ≠ (N : Int) := fun e => hm (e ▸ ho)
        omega)
      omega

section
variable {w w' : World} {base sb mb x : Nat} {items : List (List UInt8 × UInt64)} {met : List Int} {v : Value}

theorem SurvAt.few (h : SurvAt w base sb mb x items met v) : items.length ≤ 65537 :=
  Nat.le_trans h.len (nodup_le 65537 met h.nod (fun o ho => by have := h.rng o ho; omega))
theorem SurvAt.sm (h : SurvAt w base sb mb x items met v) : sb ≠ mb := by
  intro e
  have h1 := h.box
  have h2 := h.map
  unfold Blk at h1
  unfold MapIs at h2
  rw [e, h2] at h1
  injection h1 with h1
  cases h1
theorem SurvAt.vm (h : SurvAt w base sb mb x items met v) : v.ownBlock ≠ some mb := by
  intro e
  rcases h.row.2 with ⟨h1, _⟩ | ⟨g, cap, cur, h1, _, h3, _⟩
  · subst h1; exact nomatch e
  · subst h1
    simp only [Value.ownBlock, Option.some.injEq] at e
    subst e
    have h2 := h.map
    unfold MapIs at h2
    rw [h2] at h3
    injection h3 with h3
    cases h3
theorem SurvAt.below (h : SurvAt w base sb mb x items met v) (k : Below w.heap.size w w') : SurvAt w' base sb mb x items met v :=
  ⟨h.box.below k h.box.lt, own_stay h.row (Kept.of_below (r := some sb) k) (.inl (fun e => h.vs e.symm)), h.map.below k, h.bs, h.bm, h.vs, h.nod, h.rng, h.len⟩
/-- The map has one block more. -/
theorem SurvAt.note (h : SurvAt w base sb mb x items met v) {o : Int} (ho : 0 ≤ o ∧ o ≤ 65536) (hn : o ∉ met) : SurvAt (putMap w mb (metE 0 ((met ++ [o]).map fun o => (o, 1))).toArray ((met ++ [o]).map fun o => (o, (1 : Int))).length) base sb mb x items (met ++ [o]) v ∧
    KeepB w (putMap w mb (metE 0 ((met ++ [o]).map fun o => (o, 1))).toArray ((met ++ [o]).map fun o => (o, (1 : Int))).length) ∧ Below base w (putMap w mb (metE 0 ((met ++ [o]).map fun o => (o, 1))).toArray ((met ++ [o]).map fun o => (o, (1 : Int))).length) := by
  have hne : ∀ (cs : Array Value) (e : TypeId) (fz : Nat × Nat), w.heap[mb]? ≠ some (Obj.cells cs e fz) := fun cs e fz hg => by
    have h2 := h.map
    unfold MapIs at h2
    rw [h2] at hg
    injection hg with hg
    cases hg
  have t := putMap_touch w mb (metE 0 ((met ++ [o]).map fun o => (o, 1))).toArray ((met ++ [o]).map fun o => (o, (1 : Int))).length
  refine ⟨⟨h.box.touch t h.sm, own_touch h.row t (fun g hg e => h.vm (by rw [hg, e])), putMap_at _ _ _ _ h.map.lt, h.bs, h.bm, h.vs, ?_, ?_, ?_⟩, ⟨t.size, fun g cs e fz _ hg => t.block g (Array.getElem?_eq_some_iff.1 hg).1 (fun e' => hne cs e fz (e' ▸ hg))⟩, t.below (Nat.le_of_lt (Nat.lt_of_le_of_lt h.bm h.map.lt)) (fun k e => e ▸ h.bm)⟩
  · exact List.nodup_append.2 ⟨h.nod, List.nodup_cons.2 ⟨by simp, List.nodup_nil⟩, fun a ha b hb => by rw [List.mem_singleton] at hb; subst hb; exact fun e => hn (e ▸ ha)⟩
  · intro a ha
    rcases List.mem_append.1 ha with h1 | h1
    · exact h.rng a h1
    · rw [List.mem_singleton] at h1; exact h1 ▸ ho
  · have := h.len; simp; omega

/-- One item more. -/
theorem SurvAt.add (h : SurvAt w base sb mb x items met v) (p : List UInt8 × UInt64) (hl : items.length < met.length) {g6 c6 : Nat} {w6 : World}
    (hO : w6.ownsRow base 105 2 (.slice (some ⟨g6, 0, none⟩) (items.length + 1) c6) (items.length + 1) ((items.map itV).flatten ++ itV p)) (hB : Below base w w6) (hK : Kept w w6 v.ownBlock) (hg : v.ownBlock = some g6 ∨ w.heap.size ≤ g6) :
    SurvAt (w6.setCell ⟨sb, 1, none⟩ (.slice (some ⟨g6, 0, none⟩) (items.length + 1) c6)) base sb mb x (items ++ [p]) met (.slice (some ⟨g6, 0, none⟩) (items.length + 1) c6) ∧
      KeepB w (w6.setCell ⟨sb, 1, none⟩ (.slice (some ⟨g6, 0, none⟩) (items.length + 1) c6)) ∧ Below base w (w6.setCell ⟨sb, 1, none⟩ (.slice (some ⟨g6, 0, none⟩) (items.length + 1) c6)) := by
  have hsl := h.box.lt
  have hml := h.map.lt
  have hgs : g6 ≠ sb := by
    rintro rfl
    rcases hg with e | e
    · exact h.vs e
    · omega
  have B6 : Blk w6 sb 136 [.pointer (some ⟨x, 0, none⟩), v, .map (some mb)] := (hK.2 sb hsl (fun e => h.vs e.symm)).trans h.box
  have M6 : w6.heap[mb]? = w.heap[mb]? := hK.2 mb hml (fun e => h.vm e.symm)
  have k9 := Kept.set_ w6 sb 1 (.slice (some ⟨g6, 0, none⟩) (items.length + 1) c6)
  have s6 : KeepB w w6 := by
    refine ⟨hK.1, fun g cs e fz he hg' => hK.2 g (Array.getElem?_eq_some_iff.1 hg').1 (fun e' => ?_)⟩
    rcases h.row.2 with ⟨h1, _⟩ | ⟨g', cap, cur, h1, _, h3, _⟩
    · subst h1; exact nomatch e'
    · subst h1
      simp only [Value.ownBlock, Option.some.injEq] at e'
      subst e'
      rw [hg'] at h3
      injection h3 with h3
      injection h3 with _ h4
      rw [h4] at he
      exact absurd he (by decide)
  have s9 : KeepB w6 (w6.setCell ⟨sb, 1, none⟩ (.slice (some ⟨g6, 0, none⟩) (items.length + 1) c6)) := KeepB.of_kept k9 (fun cs e fz he hg' => by
    have h3 : w6.heap[sb]? = _ := B6
    rw [hg'] at h3
    injection h3 with h3
    injection h3 with _ h4
    rw [h4] at he
    exact absurd he (by decide))
  refine ⟨⟨B6.set_ 1 _, ?_, ?_, h.bs, h.bm, by simp [Value.ownBlock, hgs], h.nod, h.rng, by simp; omega⟩, s6.trans s9, hB.setCell (p := ⟨sb, 1, none⟩) h.bs _⟩
  · have := own_stay hO k9 (.inl (by simp [Value.ownBlock, Ne.symm hgs]))
    simpa using this
  · show (w6.setCell _ _).heap[mb]? = _
    rw [k9.2 mb (Nat.lt_of_lt_of_le hml hK.1) (fun e => h.sm (Option.some.inj e).symm), M6]
    exact h.map
end

end Go.Proofs.YtgdomldfjiobfaaGreatDoor

/- Walks of package index: visit. -/
namespace Go.Proofs.YtgdomldfjiobfaaGreatDoor
open Go.RowKit

theorem Tryz.itemTyK : RowTyK Tryz.prog 26 105 (.agg #[.string ⟨#[]⟩, .int .u64 0]) 2 24 := ⟨Tryz.underlying26, by kernel_rfl, rfl⟩
theorem Tryz.metMap : Tryz.prog.underlying 134 = some (.map 3 3) := Tryz.underlying134
theorem Tryz.zeroInt (W : World) : (zeroValue 3).run Tryz.prog W = .ok (.int .i64 0) W := by
  have h : (Tryz.prog.info? 3).map (·.zero) = some (some (.int .i64 0)) := by kernel_rfl
  cases hi : Tryz.prog.info? 3 with
  | none => rw [hi] at h; cases h
  | some i =>
    rw [hi] at h
    simp only [Option.map_some, Option.some.injEq] at h
    simp [zeroValue, typeInfo, hi, h]

def VisPost (r : Option (List (List UInt8 × UInt64) × List Int)) (base sb mb x : Nat) (w : World) (e : Ending) (w' : World) : Prop :=
  Below base w w' ∧ KeepB w w' ∧ match r with
    | none => e = .returned (.int .i64 5)
    | some (items', met') => e = .returned (.int .i64 0) ∧ ∃ v', SurvAt w' base sb mb x items' met' v'

section
variable {w w' : World} {base sb mb x d p L : Nat} {s : St} {F : Nat → Prop}

theorem Ix.past (h : Ix w x d p L s F) (k : Below base w w') (hF : ∀ b, F b → b < base) (hx : x < base) (ht : 0 < base ∧ 1 < base) : Ix w' x d p L s F := by
  have t : Touch (fun b => base ≤ b) w w' := ⟨k.os, k.tape, k.output, k.size, fun b _ hn => k.block b (by omega)⟩
  exact ⟨h.sys.keep t (fun b hb hn => by have := hF b hb; omega) (by omega) (by omega), h.box.touch t (by omega), h.out⟩

theorem mem_parts {o : Int} : ∀ {l : List Int}, o ∈ l → l.Nodup → ∃ l1 l2, l = l1 ++ o :: l2 ∧ o ∉ l1
  | [], h, _ => by cases h
  | a :: t, h, hn => by
    obtain ⟨h1, h2⟩ := List.nodup_cons.1 hn
    rcases List.mem_cons.1 h with rfl | ho
    · exact ⟨[], t, rfl, by simp⟩
    · obtain ⟨l1, l2, e, hno⟩ := mem_parts ho h2
      refine ⟨a :: l1, l2, by rw [e]; rfl, fun hm => ?_⟩
      rcases List.mem_cons.1 hm with rfl | hm
      · exact h1 ho
      · exact hno hm

set_option maxHeartbeats 8000000 in
set_option maxRecDepth 100000 in
/-- The node is not to be read. -/
theorem visit_none (h : Ix w x d p L s F) (_ : ∀ b, F b → b < base) {items : List (List UInt8 × UInt64)} {met : List Int} {v : Value} (hs : SurvAt w base sb mb x items met v) (f : Nat) (name : UInt64) (ahead : List UInt8) (A : Option Addr) (c : Nat) (hr : readP s name = none) :
    Calls Tryz.prog 115 #[.pointer (some ⟨sb, 0, none⟩), .int .u64 (name.toNat : Int), .slice A ahead.length c] w (VisPost (visitP s (f + 1) name ahead (items, met)) base sb mb x w) := by
  have HP : Hid (visitP s (f + 1) name ahead (items, met) = none) := Lib.hid (by rw [visitP, hr])
  have HR := Lib.hid (read_index h name)
  have HRn := Lib.hid hr
  have y0 := hs.box.cell 0
  simp only [List.getElem?_cons_zero] at y0
  have hbs : base ≤ w.heap.size := Nat.le_of_lt (Nat.lt_of_le_of_lt hs.bs hs.box.lt)
  clear h hs hr
  go_enter Tryz.func115, Tryz.ntmps115
  go_wp2_with fail
  refine HR.out.mono ?_
  rintro e w1 ⟨hb1, hp1⟩
  rw [HRn.out] at hp1
  subst hp1
  have HB := Lib.hid (hb1.mono hbs)
  have HKp := Lib.hid (KeepB.of_below hb1)
  clear hb1 HR
  go_wp2_with fail
  go_ret
  refine ⟨HB.out.alloc (Nat.le_trans hbs HB.out.size) _, HKp.out.trans (KeepB.of_below ((Below.refl _ _).alloc (Nat.le_refl _) _)), ?_⟩
  rw [HP.out]
  rfl

set_option maxHeartbeats 8000000 in
set_option maxRecDepth 100000 in
/-- The node was met ahead of this. -/
theorem visit_met (h : Ix w x d p L s F) (_ : ∀ b, F b → b < base) {items : List (List UInt8 × UInt64)} {met : List Int} {v : Value} (hs : SurvAt w base sb mb x items met v) (f : Nat) (name : UInt64) (ahead : List UInt8) (A : Option Addr) (c : Nat) (hA : Row8 w A ahead) (hac : ahead.length ≤ c) (hal : ahead.length ≤ 33) (nd : Nd) (hr : readP s name = some nd) (hm : offOf name ∈ met) :
    Calls Tryz.prog 115 #[.pointer (some ⟨sb, 0, none⟩), .int .u64 (name.toNat : Int), .slice A ahead.length c] w (VisPost (visitP s (f + 1) name ahead (items, met)) base sb mb x w) := by
  have HP : Hid (visitP s (f + 1) name ahead (items, met) = none) := Lib.hid (by rw [visitP, hr]; simp only; rw [if_pos (.inl (by simpa using hm))])
  have HR := Lib.hid (read_index h name)
  have HRn := Lib.hid hr
  have HS := Lib.hid hs
  have hwr : IntKind.i64.wrap (name.toNat : Int) = offOf name := rfl
  have hbl := (read_lens hr).1
  have y0 := hs.box.cell 0
  simp only [List.getElem?_cons_zero] at y0
  have hbs : base ≤ w.heap.size := Nat.le_of_lt (Nat.lt_of_le_of_lt hs.bs hs.box.lt)
  obtain ⟨l1, l2, hl, hno⟩ := mem_parts hm hs.nod
  have HL := Lib.hid hl
  have HNo : Hid (∀ q ∈ l1.map (fun o => (o, (1 : Int))), q.1 ≠ offOf name) := Lib.hid (fun q hq => by
    obtain ⟨o, ho, rfl⟩ := List.mem_map.1 hq
    exact fun e => hno (e ▸ ho))
  have HA := Lib.hid hA
  generalize offOf name = off at *
  clear h hs hr hm hl hno hA
  go_enter Tryz.func115, Tryz.ntmps115
  go_wp2_with fail
  refine HR.out.mono ?_
  rintro e w1 ⟨hb1, hp1⟩
  rw [HRn.out] at hp1
  obtain ⟨vn, rfl, hnd⟩ := hp1
  obtain ⟨A1, c1, A2, c2, A3, c3, rfl, o1, o2, o3⟩ := hnd
  obtain ⟨W2, hW2⟩ : ∃ W2, W2 = w1.alloc (.cells #[.slice A1 nd.pre.length c1, .int .u64 (nd.val.toNat : Int), .slice A2 nd.labels.length c2, .slice A3 nd.kids.length c3] 121) := ⟨_, rfl⟩
  have BN : Blk W2 w1.heap.size 121 [.slice A1 nd.pre.length c1, .int .u64 (nd.val.toNat : Int), .slice A2 nd.labels.length c2, .slice A3 nd.kids.length c3] := hW2 ▸ heap_alloc_new _ _
  have hb12 : Below w1.heap.size w1 W2 := hW2 ▸ (Below.refl _ _).alloc (Nat.le_refl _) _
  have hb2 : Below w.heap.size w W2 := hb1.trans (hb12.mono hb1.size)
  have S2 := HS.out.below hb2
  have hmap : MapIs W2 mb (l1.map (fun o => (o, (1 : Int))) ++ (off, 1) :: l2.map (fun o => (o, (1 : Int)))) := by
    have := S2.map
    rw [HL.out] at this
    simpa using this
  have k1 := look_yes Tryz.metMap Tryz.underlying3 W2 mb _ _ off 1 hmap HNo.out
  have k2 := upd_yes Tryz.metMap Tryz.underlying3 W2 mb _ _ off 1 2 hmap HNo.out
  obtain ⟨W3, hW3⟩ : ∃ W3, W3 = putMap W2 mb (metE 0 (l1.map (fun o => (o, (1 : Int))) ++ (off, 2) :: l2.map (fun o => (o, (1 : Int))))).toArray (l1.map (fun o => (o, (1 : Int))) ++ (off, 2) :: l2.map (fun o => (o, (1 : Int)))).length := ⟨_, rfl⟩
  rw [← hW3] at k2
  have t3 : Touch (fun b => b = mb) W2 W3 := hW3 ▸ putMap_touch _ _ _ _
  have hm3 : MapIs W3 mb (l1.map (fun o => (o, (1 : Int))) ++ (off, 2) :: l2.map (fun o => (o, (1 : Int)))) := by rw [hW3]; exact putMap_at _ _ _ _ hmap.lt
  have hk3 : KeepB W2 W3 := ⟨t3.size, fun g cs e fz _ hg => t3.block g (Array.getElem?_eq_some_iff.1 hg).1 (fun e' => by
    unfold MapIs at hmap
    rw [e', hmap] at hg
    injection hg with hg
    cases hg)⟩
  have hb23 : Below base W2 W3 := t3.below (Nat.le_trans hbs hb2.size) (fun k e => e ▸ S2.bm)
  have BN3 := hk3.box BN
  have HA3 := (HA.out.keep (KeepB.of_below hb2)).keep hk3
  have hpre : Rd W3 A1 nd.pre.length (nd.pre.map bv) := (rd_own (hk3.own (.inl rfl) (own_below o1 hb12))).2
  have S3 : Blk W3 sb 136 [.pointer (some ⟨x, 0, none⟩), v, .map (some mb)] := S2.box.touch t3 S2.sm
  clear hW3
  have z0 := S2.box.cell 0
  have z2 := S2.box.cell 2
  simp only [List.getElem?_cons_zero, List.getElem?_cons_succ] at z0 z2
  rw [hW2] at k1 k2 z0 z2
  have HW2 := Lib.hid hW2
  clear y0 HR hW2
  go_wp2_with fail
  obtain ⟨n0, n1, n2, n3, -⟩ := blk4' BN3
  have HB3 := Lib.hid ((hb2.mono hbs).trans hb23)
  have HK3 := Lib.hid ((KeepB.of_below hb2).trans hk3)
  have HM3 := Lib.hid hm3
  have HS3 := Lib.hid S3
  have HR3 := Lib.hid HA3
  have HP3 := Lib.hid hpre
  clear k1 k2 z0 z2 hb1 hb12 hb2 S2 hmap t3 hk3 hb23 BN BN3 HA3 hpre o1 o2 o3 hm3 S3
  go_region_law (refine step_app_cut rfl (.tmp 42) (.tmp 44) 83 rfl Tryz.bytesTy A ahead.length (ahead.map bv) (by simp [Act.eval]) (by exact HR3.out.1) (fun a e => by obtain ⟨g, _, _, e', _⟩ := HR3.out.2.1 a e; exact ⟨g, e'⟩) (fun e => by rw [HR3.out.2.2 e]; rfl) A1 nd.pre.length c1 (nd.pre.map bv) (by simp [Act.eval]) (by exact HP3.out) (oneCell_bv _) (by omega) (by decide) ?_; intro A4 c4 w4 hc4 hr4 hb4 hcut4)
  all_goals (have hb34 : Below W3.heap.size W3 w4 := ((Dr.drew W3).below _).trans hb4)
  all_goals (have k5 := look_yes Tryz.metMap Tryz.underlying3 w4 mb _ _ off 2 (HM3.out.below hb34) HNo.out)
  all_goals (have S4 := HS3.out.below hb34 HS3.out.lt)
  all_goals (have z0 := S4.cell 0)
  all_goals (have z2 := S4.cell 2)
  all_goals (simp only [List.getElem?_cons_zero, List.getElem?_cons_succ] at z0 z2)
  all_goals (have HB4 := Lib.hid (HB3.out.trans (hb34.mono (Nat.le_trans hbs (by have := HB3.out.size; exact this)))))
  all_goals (have HK4 := Lib.hid (HK3.out.trans (KeepB.of_below hb34)))
  all_goals (clear hb34 hb4 hcut4 hr4 S4 HM3 HS3 HR3 HP3 n0 n1 n2 n3 HA HNo HL HS)
  all_goals (go_wp2_with fail)
  all_goals (go_ret)
  all_goals (refine ⟨HB4.out, HK4.out, ?_⟩)
  all_goals (rw [HP.out])
  all_goals rfl
end

end Go.Proofs.YtgdomldfjiobfaaGreatDoor

/- Two lists of items that rise, and their merger: lists alone, no program in sight. -/
namespace Go.Proofs.YtgdomldfjiobfaaGreatDoor

/-- A key and its value. -/
structure It where
  k : ByteArray
  v : UInt64

def lessK (a b : It) : Bool := Op.bytesLess a.k.toList b.k.toList
def eqK (a b : It) : Bool := a.k.toList == b.k.toList

theorem bless_total : ∀ (a b : List UInt8), Op.bytesLess a b = false → Op.bytesLess b a = true ∨ a = b
  | [], [], _ => .inr rfl
  | [], _ :: _, h => by simp [Op.bytesLess] at h
  | _ :: _, [], _ => .inl rfl
  | x :: a, y :: b, h => by
    simp only [Op.bytesLess, Bool.or_eq_false_iff, decide_eq_false_iff_not, Bool.and_eq_false_iff, beq_eq_false_iff_ne] at h
    obtain ⟨h1, h2⟩ := h
    simp only [Op.bytesLess, Bool.or_eq_true, decide_eq_true_eq, Bool.and_eq_true, beq_iff_eq, List.cons.injEq]
    by_cases e : x = y
    · subst e
      have h3 := h2.resolve_left (fun h => h rfl)
      rcases bless_total a b h3 with h4 | h4
      · exact .inl (.inr ⟨rfl, h4⟩)
      · exact .inr ⟨rfl, h4⟩
    · refine .inl (.inl ?_)
      rw [UInt8.lt_iff_toNat_lt] at h1 ⊢
      have : x.toNat ≠ y.toNat := fun h => e (UInt8.toNat_inj.1 h)
      omega
theorem bless_irrefl : ∀ (a : List UInt8), Op.bytesLess a a = false
  | [] => rfl
  | x :: a => by simp [Op.bytesLess, bless_irrefl a]
theorem bless_trans : ∀ (a b c : List UInt8), Op.bytesLess a b = true → Op.bytesLess b c = true → Op.bytesLess a c = true
  | _, [], _, h, _ => by simp [Op.bytesLess] at h
  | _, _ :: _, [], _, h => by simp [Op.bytesLess] at h
  | [], _ :: _, _ :: _, _, _ => rfl
  | x :: a, y :: b, z :: c, h, k => by
    simp only [Op.bytesLess, Bool.or_eq_true, decide_eq_true_eq, Bool.and_eq_true, beq_iff_eq] at h k ⊢
    simp only [UInt8.lt_iff_toNat_lt] at h k ⊢
    rcases h with h | ⟨rfl, h⟩
    · rcases k with k | ⟨rfl, k⟩
      · exact .inl (by omega)
      · exact .inl h
    · rcases k with k | ⟨rfl, k⟩
      · exact .inl k
      · exact .inr ⟨rfl, bless_trans a b c h k⟩

theorem lessK_irrefl (a : It) : lessK a a = false := bless_irrefl _
theorem lessK_trans {a b c : It} (h : lessK a b = true) (k : lessK b c = true) : lessK a c = true := bless_trans _ _ _ h k
theorem lessK_not {a b : It} (h : lessK a b = false) (k : eqK a b = false) : lessK b a = true := by
  unfold eqK at k
  rw [beq_eq_false_iff_ne] at k
  exact (bless_total _ _ h).resolve_right k
theorem lessK_eq {a b : It} (h : lessK a b = true) : eqK a b = false := by
  unfold eqK
  rw [beq_eq_false_iff_ne]
  intro e
  unfold lessK at h
  rw [e, bless_irrefl] at h
  cases h
theorem eqK_refl (a : It) : eqK a a = true := by simp [eqK]
theorem lessK_asymm {a b : It} (h : lessK a b = true) : lessK b a = false := by
  cases k : lessK b a
  · rfl
  · have := lessK_trans h k; rw [lessK_irrefl] at this; cases this
theorem lessK_congr {a b c : It} (e : eqK a b = true) : lessK a c = lessK b c ∧ lessK c a = lessK c b := by
  unfold eqK at e
  rw [beq_iff_eq] at e
  unfold lessK
  rw [e]
  exact ⟨rfl, rfl⟩

/-- The merger. -/
def mergeW : List It → List It → List It
  | [], [] => []
  | a :: ta, [] => a :: mergeW ta []
  | [], b :: bs => b :: mergeW [] bs
  | a :: ta, b :: bs => if lessK a b then a :: mergeW ta (b :: bs) else if eqK a b then b :: mergeW ta bs else b :: mergeW (a :: ta) bs
termination_by a b => a.length + b.length

def liveI (x : It) : Bool := x.v.toNat != 0

theorem mergeW_nil : ∀ (a : List It), mergeW a [] = a
  | [] => by simp [mergeW]
  | a :: ta => by rw [mergeW, mergeW_nil ta]
theorem mergeW_nil' : ∀ (b : List It), mergeW [] b = b
  | [] => by simp [mergeW]
  | b :: bs => by rw [mergeW, mergeW_nil' bs]
theorem mergeW_self : ∀ (a : List It), mergeW a a = a
  | [] => by simp [mergeW]
  | a :: ta => by rw [mergeW, lessK_irrefl, eqK_refl]; simp [mergeW_self ta]
theorem mergeW_mem : ∀ (a b : List It) (x : It), x ∈ mergeW a b → x ∈ a ∨ x ∈ b
  | [], [], x, h => by simp [mergeW] at h
  | a :: ta, [], x, h => by rw [mergeW_nil] at h; exact .inl h
  | [], b :: bs, x, h => by rw [mergeW_nil'] at h; exact .inr h
  | a :: ta, b :: bs, x, h => by
    rw [mergeW] at h
    split at h
    · rcases List.mem_cons.1 h with rfl | h
      · exact .inl (List.mem_cons_self ..)
      · exact (mergeW_mem ta (b :: bs) x h).imp (List.mem_cons_of_mem _) id
    · split at h
      · rcases List.mem_cons.1 h with rfl | h
        · exact .inr (List.mem_cons_self ..)
        · exact (mergeW_mem ta bs x h).imp (List.mem_cons_of_mem _) (List.mem_cons_of_mem _)
      · rcases List.mem_cons.1 h with rfl | h
        · exact .inr (List.mem_cons_self ..)
        · exact (mergeW_mem (a :: ta) bs x h).imp id (List.mem_cons_of_mem _)
termination_by a b => a.length + b.length
theorem mergeW_right : ∀ (a b : List It) (x : It), x ∈ b → x ∈ mergeW a b
  | _, [], x, h => by cases h
  | [], b :: bs, x, h => by rw [mergeW_nil']; exact h
  | a :: ta, b :: bs, x, h => by
    rw [mergeW]
    split
    · exact List.mem_cons_of_mem _ (mergeW_right ta (b :: bs) x h)
    · split
      · rcases List.mem_cons.1 h with rfl | h
        · exact List.mem_cons_self ..
        · exact List.mem_cons_of_mem _ (mergeW_right ta bs x h)
      · rcases List.mem_cons.1 h with rfl | h
        · exact List.mem_cons_self ..
        · exact List.mem_cons_of_mem _ (mergeW_right (a :: ta) bs x h)
termination_by a b => a.length + b.length
theorem mergeW_len : ∀ (a b : List It), (mergeW a b).length ≤ a.length + b.length
  | [], [] => by simp [mergeW]
  | a :: ta, [] => by rw [mergeW_nil]; simp
  | [], b :: bs => by rw [mergeW_nil']; simp
  | a :: ta, b :: bs => by
    rw [mergeW]
    split
    · have := mergeW_len ta (b :: bs); simp at this ⊢; omega
    · split
      · have := mergeW_len ta bs; simp at this ⊢; omega
      · have := mergeW_len (a :: ta) bs; simp at this ⊢; omega
termination_by a b => a.length + b.length

/-- Its keys rise. -/
def Up (l : List It) : Prop := l.Pairwise fun a b => lessK a b = true

theorem mergeW_up : ∀ (a b : List It), Up a → Up b → Up (mergeW a b)
  | [], [], _, _ => by rw [mergeW_nil]; exact List.Pairwise.nil
  | a :: ta, [], ha, _ => by rw [mergeW_nil]; exact ha
  | [], b :: bs, _, hb => by rw [mergeW_nil']; exact hb
  | a :: ta, b :: bs, ha, hb => by
    have ha' := List.pairwise_cons.1 ha
    have hb' := List.pairwise_cons.1 hb
    rw [mergeW]
    split
    · rename_i h
      refine List.pairwise_cons.2 ⟨fun x hx => ?_, mergeW_up ta (b :: bs) ha'.2 hb⟩
      rcases mergeW_mem _ _ _ hx with hx | hx
      · exact ha'.1 x hx
      · rcases List.mem_cons.1 hx with rfl | hx
        · exact h
        · exact lessK_trans h (hb'.1 x hx)
    · rename_i h
      split
      · rename_i e
        refine List.pairwise_cons.2 ⟨fun x hx => ?_, mergeW_up ta bs ha'.2 hb'.2⟩
        rcases mergeW_mem _ _ _ hx with hx | hx
        · rw [← (lessK_congr (c := x) e).1]; exact ha'.1 x hx
        · exact hb'.1 x hx
      · rename_i e
        have hba := lessK_not (by simpa using h) (by simpa using e)
        refine List.pairwise_cons.2 ⟨fun x hx => ?_, mergeW_up (a :: ta) bs ha hb'.2⟩
        rcases mergeW_mem _ _ _ hx with hx | hx
        · rcases List.mem_cons.1 hx with rfl | hx
          · exact hba
          · exact lessK_trans hba (ha'.1 x hx)
        · exact hb'.1 x hx
termination_by a b => a.length + b.length

/-- What is kept. -/
def keepW (l : List It) : List It := l.filter liveI
theorem keepW_up {l : List It} (h : Up l) : Up (keepW l) := List.Pairwise.filter _ h

/-- Each key less than the one behind it. -/
def riseB : List It → Bool
  | a :: b :: t => lessK a b && riseB (b :: t)
  | _ => true
theorem riseB_up : ∀ (l : List It), riseB l = true → Up l
  | [], _ => List.Pairwise.nil
  | [a], _ => List.pairwise_singleton _ _
  | a :: b :: t, h => by
    simp only [riseB, Bool.and_eq_true] at h
    have ih := riseB_up (b :: t) h.2
    refine List.pairwise_cons.2 ⟨fun x hx => ?_, ih⟩
    rcases List.mem_cons.1 hx with rfl | hx
    · exact h.1
    · exact lessK_trans h.1 ((List.pairwise_cons.1 ih).1 x hx)
theorem up_riseB : ∀ (l : List It), Up l → riseB l = true
  | [], _ => rfl
  | [a], _ => rfl
  | a :: b :: t, h => by
    obtain ⟨h1, h2⟩ := List.pairwise_cons.1 h
    simp only [riseB, Bool.and_eq_true]
    exact ⟨h1 b (List.mem_cons_self ..), up_riseB (b :: t) h2⟩

/-- What is found at a key. -/
def findI (l : List It) (key : ByteArray) : Option It := l.find? fun x => !Op.bytesLess x.k.toList key.toList
def getI (l : List It) (key : ByteArray) : UInt64 × Int :=
  if 16 < key.size then (0, 3) else
  match findI l key with
  | some x => if x.k.toList == key.toList then (x.v, 0) else (0, 7)
  | none => (0, 7)

theorem find_up : ∀ (l : List It) (x : It), Up l → x ∈ l → findI l x.k = some x
  | [], x, _, h => by cases h
  | a :: t, x, hu, h => by
    obtain ⟨h1, h2⟩ := List.pairwise_cons.1 hu
    unfold findI
    rw [List.find?_cons]
    rcases List.mem_cons.1 h with rfl | h
    · rw [bless_irrefl]; rfl
    · rw [show Op.bytesLess a.k.toList x.k.toList = true from h1 x h]
      exact find_up t x h2 h
theorem get_live (l : List It) (x : It) (hu : Up l) (hx : x ∈ l) (hk : x.k.size ≤ 16) : if x.v.toNat = 0 then getI (keepW l) x.k = (0, 7) else getI (keepW l) x.k = (x.v, 0) := by
  have hg : ∀ l', getI l' x.k = match findI l' x.k with
      | some y => if y.k.toList == x.k.toList then (y.v, 0) else (0, 7)
      | none => (0, 7) := fun l' => by unfold getI; rw [if_neg (by omega)]
  rw [hg]
  by_cases h0 : x.v.toNat = 0
  · rw [if_pos h0]
    cases hf : findI (keepW l) x.k with
    | none => rfl
    | some y =>
      dsimp only
      rw [if_neg]
      intro e
      have hy : y ∈ keepW l := List.mem_of_find?_eq_some hf
      obtain ⟨hyl, hyv⟩ := List.mem_filter.1 hy
      have e1 := find_up l y hu hyl
      have e2 := find_up l x hu hx
      have : findI l y.k = findI l x.k := by unfold findI; rw [beq_iff_eq.1 e]
      rw [e1, e2] at this
      injection this with this
      subst this
      unfold liveI at hyv
      rw [h0] at hyv
      cases hyv
  · rw [if_neg h0]
    have hm : x ∈ keepW l := List.mem_filter.2 ⟨hx, by unfold liveI; simpa using h0⟩
    rw [find_up _ x (keepW_up hu) hm]
    simp

end Go.Proofs.YtgdomldfjiobfaaGreatDoor

/- Plain words of the reference of layers 10 and 11: lists of items, found and put. No program in sight. -/
namespace Go.Proofs.YtgdomldfjiobfaaGreatDoor

def findR (l : List It) (key : ByteArray) : Nat := l.findIdx fun x => !Op.bytesLess x.k.toList key.toList
def isR (l : List It) (key : ByteArray) : Bool := match l[findR l key]? with
  | some x => x.k.toList == key.toList
  | none => false
def putR (l : List It) (key : ByteArray) (v : UInt64) : List It × Int :=
  if 16 < key.size then (l, 3) else if v.toNat = 0 then (l, 2) else
  (l.take (findR l key) ++ ⟨key, v⟩ :: l.drop (findR l key + if isR l key then 1 else 0), 0)

theorem findR_le (l : List It) (key : ByteArray) : findR l key ≤ l.length := List.findIdx_le_length
theorem findR_at {l : List It} {key : ByteArray} {i : Nat} (hi : i < l.length) (h1 : Op.bytesLess l[i].k.toList key.toList = false) (h2 : ∀ j (h : j < l.length), j < i → Op.bytesLess l[j].k.toList key.toList = true) : findR l key = i ∧ isR l key = (l[i].k.toList == key.toList) := by
  have h : findR l key = i := by
    unfold findR
    rw [List.findIdx_eq hi]
    exact ⟨by rw [h1]; rfl, fun j hj => by rw [h2 j (by omega) hj]; rfl⟩
  refine ⟨h, ?_⟩
  unfold isR
  rw [h, List.getElem?_eq_getElem hi]
theorem findR_no {l : List It} {key : ByteArray} (h2 : ∀ j (h : j < l.length), Op.bytesLess l[j].k.toList key.toList = true) : findR l key = l.length ∧ isR l key = false := by
  have h : findR l key = l.length := by
    unfold findR
    rw [List.findIdx_eq_length]
    intro x hx
    obtain ⟨j, hj, rfl⟩ := List.getElem_of_mem hx
    rw [h2 j hj]; rfl
  refine ⟨h, ?_⟩
  unfold isR
  rw [h, List.getElem?_eq_none (Nat.le_refl _)]
theorem isR_lt {l : List It} {key : ByteArray} (h : isR l key = true) : findR l key < l.length := by
  unfold isR at h
  cases hg : l[findR l key]? with
  | none => rw [hg] at h; cases h
  | some x => exact (List.getElem?_eq_some_iff.1 hg).1
theorem getI_eq (l : List It) (key : ByteArray) : getI l key = if 16 < key.size then (0, 3) else if h : findR l key < l.length then (if isR l key then (l[findR l key].v, 0) else (0, 7)) else (0, 7) := by
  unfold getI
  split
  · rfl
  · have hf : findI l key = l[findR l key]? := by
      unfold findI findR
      exact List.find?_eq_getElem?_findIdx ..
    rw [hf]
    split
    · rename_i x hx
      obtain ⟨h1, h2⟩ := List.getElem?_eq_some_iff.1 hx
      rw [dif_pos h1]
      unfold isR
      rw [hx, h2]
    · rename_i hx
      rw [dif_neg (by have := List.getElem?_eq_none_iff.1 hx; omega)]
theorem putR_len (l : List It) (key : ByteArray) (v : UInt64) : (putR l key v).1.length ≤ l.length + 1 := by
  have := findR_le l key
  unfold putR
  split
  · simp
  · split
    · simp
    · simp only [List.length_append, List.length_take, List.length_cons, List.length_drop]
      omega

end Go.Proofs.YtgdomldfjiobfaaGreatDoor
