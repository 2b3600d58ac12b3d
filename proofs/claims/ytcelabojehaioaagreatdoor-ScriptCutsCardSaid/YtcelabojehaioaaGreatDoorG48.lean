import Derived.Test.YtcelabojehaioaaGreatDoorG13
import Derived.Test.YtcelabojehaioaaGreatDoorG21
import Derived.Test.YtcelabojehaioaaGreatDoorG36
import Derived.Test.YtcelabojehaioaaGreatDoorG44
import Derived.Test.YtcelabojehaioaaGreatDoorG47
/- An engine that leaves a set of blocks to others: its states through one transaction of one write, call by call. -/
namespace Go.Proofs.YtcelabojehaioaaGreatDoor
open Go.RowKit

/-- None of X's is the engine's, its index' or its device's. -/
structure Apart (X F : Nat → Prop) (g x : Nat) : Prop where
  ng : ¬ X g
  nx : ¬ X x
  nf : ∀ q, F q → ¬ X q
  c1 : ¬ X 0
  c2 : ¬ X 1

section
variable {w w' : World} {g d p x tt bk L : Nat} {s s2 : St} {b : Bk} {t : Tb} {F F2 J X X' : Nat → Prop} {slot : UInt64} {jv : Value} {id : Int} {sv : Value} {st : UInt64} {jb : Nat}

theorem EngAt.congrJ (h : EngAt w g d p x tt bk L s b t F J slot jv id sv st) {J' : Nat → Prop} (e : ∀ q, J q ↔ J' q) : EngAt w g d p x tt bk L s b t F J' slot jv id sv st := by
  have : J = J' := funext fun q => propext (e q)
  exact this ▸ h

theorem Apart.more (h : Apart X F g x) (he : EngAt w g d p x tt bk L s b t F J slot jv id sv st) (hX : ∀ q, X' q → X q ∨ (w.heap.size ≤ q ∧ q < w'.heap.size)) : Apart X' F g x := by
  have l1 := he.box.lt
  have l2 := he.ix.box.lt
  have l3 := he.ix.sys.lt
  have l4 := he.ix.sys.tabs.lt
  exact ⟨fun hx => (hX _ hx).elim h.ng (fun e => by omega), fun hx => (hX _ hx).elim h.nx (fun e => by omega), fun q hq hx => (hX _ hx).elim (h.nf q hq) (fun e => by have := l3 q hq; omega), fun hx => (hX _ hx).elim h.c1 (fun e => by omega), fun hx => (hX _ hx).elim h.c2 (fun e => by omega)⟩

/-- Others' blocks turn, and there are more of them. -/
theorem EngAt.frame (h : EngAt w g d p x tt bk L s b t F (fun q => J q ∨ X q) slot jv id sv st) (a : Apart X F g x) (k : Touch X w w') (hX : ∀ q, X' q → X q ∨ (w.heap.size ≤ q ∧ q < w'.heap.size)) : EngAt w' g d p x tt bk L s b t F (fun q => J q ∨ X' q) slot jv id sv st := by
  have hm : Moved (fun q => F q ∨ (J q ∨ X q)) (fun q => F q ∨ (J q ∨ X' q)) w w' := ⟨k.mono (fun q hq => .inr (.inr hq)), fun q hq => by
    rcases hq with hq | hq | hq
    · exact .inl (.inl hq)
    · exact .inl (.inr (.inl hq))
    · exact (hX q hq).imp (fun h => .inr (.inr h)) (fun h => h.1)⟩
  refine ⟨⟨h.ix.sys.keep k (fun c hc => a.nf c hc) a.c1 a.c2, h.ix.box.touch k a.nx, h.ix.out⟩, h.tb.moved hm, ?_, fun q hq => ?_, h.box.touch k a.ng, h.fg, h.g1, h.g2, h.g3, h.g4, h.x1, h.x2, h.c1, h.c2, h.c3⟩
  · rcases h.jg with hj | hj
    · exact .inl hj
    · exact absurd hj a.ng
  · rcases hq with hq | hq
    · exact Nat.lt_of_lt_of_le (h.jl q (.inl hq)) k.size
    · rcases hX q hq with h1 | h1
      · exact Nat.lt_of_lt_of_le (h.jl q (.inr h1)) k.size
      · exact h1.2
end

/-- An engine whose job is not on. -/
def EgI (g d p x tt bk L : Nat) (s : St) (t : Tb) (slot : UInt64) (m : Nat) (P : Bk → Prop) (W : World) (X : Nat → Prop) : Prop :=
  ∃ (b : Bk) (J F : Nat → Prop), EngAt W g d p x tt bk L s b t F (fun q => J q ∨ X q) slot .nilIface 0 (.slice none 0 0) 0 ∧ b.many = m ∧ P b ∧ Apart X F g x
/-- An engine whose job, of one write, is on: n of its writes are done. -/
def EgJ (g d p x tt bk L : Nat) (s : St) (t : Tb) (slot : UInt64) (m i : Nat) (y : Wr) (n : Nat) (W : World) (X : Nat → Prop) : Prop :=
  ∃ (b : Bk) (J F : Nat → Prop) (jb : Nat) (A : Option Addr) (c : Nat) (vd sv : Value), EngAt W g d p x tt bk L s b t F (fun q => J q ∨ X q) slot (.iface 41 (.pointer (some ⟨jb, 0, none⟩))) (i : Int) sv (slot + 1) ∧ b.many = m ∧ J jb ∧ jb ≠ g ∧ x ≠ jb ∧ (0 ≠ jb ∧ 1 ≠ jb) ∧ ¬ X jb ∧
    JobB W jb x d p (slot + 1) (.slice A 1 c) vd false 0 F ∧ (n = 0 ∧ vd = .slice none 0 0 ∨ n = 1 ∧ ∃ B c2, vd = .slice B 1 c2) ∧
    SetR W (EF F (fun q => J q ∨ X q) bk b.nt jb) (.slice A 1 c) [y] ∧ SetR W (EF F (fun q => J q ∨ X q) bk b.nt jb) sv [y] ∧ Apart X F g x

section
variable {g d p x tt bk L : Nat} {s s2 : St} {t : Tb} {slot : UInt64} {m i : Nat} {P : Bk → Prop} {y : Wr}

theorem EgI.frames : Frames (EgI g d p x tt bk L s t slot m P) := by
  rintro W W' X X' ⟨b, J, F, h, hm, hp, a⟩ k hX
  exact ⟨b, J, F, h.frame a k hX, hm, hp, a.more h hX⟩
theorem EgJ.frames {n : Nat} : Frames (EgJ g d p x tt bk L s t slot m i y n) := by
  rintro W W' X X' ⟨b, J, F, jb, A, c, vd, sv, h, hm, h1, h2, h3, h4, h5, hj, hv, hs1, hs2, a⟩ k hX
  have hjl := hj.box.lt
  have mv : Moved (EF F (fun q => J q ∨ X q) bk b.nt jb) (EF F (fun q => J q ∨ X' q) bk b.nt jb) W W' := ⟨k.mono (fun q hq => .inr (.inl (.inr hq))), fun q hq => by
    rcases hq with hq | (hq | hq) | hq
    · exact .inl (.inl hq)
    · exact .inl (.inr (.inl (.inl hq)))
    · exact (hX q hq).imp (fun h => .inr (.inl (.inr h))) (fun h => h.1)
    · exact .inl (.inr (.inr hq))⟩
  exact ⟨b, J, F, jb, A, c, vd, sv, h.frame a k hX, hm, h1, h2, h3, h4, fun hx => (hX _ hx).elim h5 (fun e => by omega), ⟨hj.box.touch k h5, hj.out⟩, hv, hs1.moved mv, hs2.moved mv, a.more h hX⟩

theorem EngAt.apart {W : World} {b : Bk} {F J X : Nat → Prop} {jv sv : Value} {id : Int} {st : UInt64} (h : EngAt W g d p x tt bk L s b t F (fun q => J q ∨ X q) slot jv id sv st) : ¬ X bk ∧ ¬ X b.nt ∧ ¬ X tt :=
  ⟨fun hx => h.tb.fb (.inr (.inr hx)), fun hx => h.tb.fn (.inr (.inr hx)), fun hx => h.tb.ft (.inr (.inr hx))⟩

theorem Ix.noTab {W : World} {F : Nat → Prop} (h : Ix W x d p L s F) : ¬ F 0 ∧ ¬ F 1 := by
  obtain ⟨tb, hb, n, cT, cH, own, hr, hF⟩ := h.sys
  exact ⟨fun hf => hr.g1 ((hF _).1 hf), fun hf => hr.g2 ((hF _).1 hf)⟩
theorem outs_of {X : Nat → Prop} {q : Nat} (h1 : ¬ X q) (h2 : q ≠ 0) (h3 : q ≠ 1) : Outs X q := fun h => h.elim h1 (fun h => h.elim h2 h3)

theorem sBegin (ho : openW t.wt = some i) (hm16 : m < 16) : Steps (EgI g d p x tt bk L s t slot m P) (EgI g d p x tt bk L s (beginT t i slot) slot (m + 1) (fun b => b.st i = .slice none 0 0)) 22 #[.pointer (some ⟨g, 0, none⟩)] (.tuple #[.int .i64 (i : Int), .int .i64 0]) := by
  rintro W X ⟨b, J, F, h, hm, hp, a⟩
  refine (egBegin h ho (by rw [hm]; exact hm16)).mono ?_
  rintro e w' ⟨rfl, b', h1, h2, h3, h4, h5⟩
  exact ⟨rfl, ⟨b', J, F, h4, by rw [h1, hm], h3, a⟩, h5.mono (fun q e => e ▸ outs_of h.apart.1 h.c1.1 h.c1.2)⟩

theorem sPut (hi : i < 8) (ho : t.wt.ops i = true) (ky tx : ByteArray) (hy : rightWr ⟨ky, tx, false⟩ = true) : Steps (EgI g d p x tt bk L s t slot m (fun b => b.st i = .slice none 0 0)) (EgI g d p x tt bk L s (writeT t i [⟨ky, tx, false⟩]) slot m (fun _ => True)) 28 #[.pointer (some ⟨g, 0, none⟩), .int .i64 (i : Int), .string ky, .string tx] (.int .i64 0) := by
  rintro W X ⟨b, J, F, h, hm, hp, a⟩
  refine (egPut h hi ho hp ky tx hy).mono ?_
  rintro e w' ⟨rfl, b', h1, h2, h4, h5⟩
  exact ⟨rfl, ⟨b', J, F, h4, by rw [h1, hm], trivial, a⟩, h5.mono (fun q e => e ▸ outs_of h.apart.1 h.c1.1 h.c1.2)⟩

theorem sCommit (hi : i < 8) (ho : t.wt.ops i = true) (hs : t.sets i = [y]) (hy : rightWr y = true) (hcl : clashS t.noted [y] (t.wt.ats i) = false) (h1 : slot.toNat < 60000) (h8 : (s.ws 8).toNat ≤ slot.toNat) :
    Steps (EgI g d p x tt bk L s t slot m P) (EgJ g d p x tt bk L s t slot m i y 0) 30 #[.pointer (some ⟨g, 0, none⟩), .int .i64 (i : Int)] (.int .i64 0) := by
  rintro W X ⟨b, J, F, h, hm, hp, a⟩
  have hgl := h.box.lt
  have hxl := h.ix.box.lt
  have htl := h.ix.sys.tabs.lt
  refine (egCommit h hi ho hs hy hcl h1 h8).mono ?_
  rintro e w' ⟨rfl, jb, vs, sv, hjs, hE, hJ, hV, hS, hT⟩
  obtain ⟨A, c, rfl⟩ := hV.slice
  have hE' : EngAt w' g d p x tt bk L s b t F (fun q => (J q ∨ q = jb) ∨ X q) slot (.iface 41 (.pointer (some ⟨jb, 0, none⟩))) (i : Int) sv (slot + 1) := hE.congrJ (fun q => by constructor <;> (intro h; rcases h with (h | h) | h <;> simp [h]))
  have hmo : ∀ {v : Value}, SetR w' (EF F (fun q => J q ∨ X q) bk b.nt jb) v [y] → SetR w' (EF F (fun q => (J q ∨ q = jb) ∨ X q) bk b.nt jb) v [y] := fun hv => hv.mono (fun q _ hq => by
    rcases hq with hq | ((hq | hq) | hq) | hq
    · exact .inl hq
    · exact .inr (.inl (.inl hq))
    · exact .inr (.inr (.inr (.inr hq)))
    · exact .inr (.inl (.inr hq))
    · exact .inr (.inr hq))
  have hX : ¬ X jb := fun hx => by have := h.jl jb (.inr hx); omega
  exact ⟨rfl, ⟨b, _, F, jb, A, c, _, sv, hE', hm, .inr rfl, by omega, by omega, ⟨by omega, by omega⟩, hX, hJ, .inl ⟨rfl, rfl⟩, hmo hV, hmo hS, a⟩, hT.mono (fun q e => e ▸ outs_of a.ng h.c3.1 h.c3.2)⟩

theorem sWork1 (hk : y.key.size ≤ 16) (htx : y.text.size ≤ 40) (hge : getP s y.key.data.toList = (0, 7)) (hgo : y.gone = false)
    (hTk : ∀ off s1, reserveP s 1 = some (off, s1) → (takeP { s1 with ws := putWs s1.ws (off / 8) (encRc ⟨slot + 1, 0, y.gone, y.text⟩) } off).2 = 0)
    {s1 : St} {place : UInt64} (ha : addP s ⟨slot + 1, 0, y.gone, y.text⟩ = (s1, place, 0)) (hp : putK s1 y.key.data.toList place = (s2, 0)) :
    Steps (EgJ g d p x tt bk L s t slot m i y 0) (EgJ g d p x tt bk L s2 t slot m i y 1) 25 #[.pointer (some ⟨g, 0, none⟩)] (.tuple #[.int .i64 (i : Int), .bool false, .int .i64 0]) := by
  rintro W X ⟨b, J, F, jb, A, c, vd, sv, h, hm, h1, h2, h3, h4, h5, hj, hv, hs1, hs2, a⟩
  obtain rfl : vd = .slice none 0 0 := by
    rcases hv with hv | hv
    · exact hv.2
    · exact absurd hv.1 (by decide)
  refine (egStep h (fun w' => (∃ F' B c2, EngAt w' g d p x tt bk L s2 b t F' (fun q => J q ∨ X q) slot (.iface 41 (.pointer (some ⟨jb, 0, none⟩))) (i : Int) sv (slot + 1) ∧ JobB w' jb x d p (slot + 1) (.slice A 1 c) (.slice B 1 c2) false 0 F' ∧ Moved (fun b => F b ∨ b = jb) (fun b => F' b ∨ b = jb) W w')) (G := fun q => F q ∨ q = jb) (fun q hq => hq.elim (h.ix.sys.lt q) (fun e => by rw [e]; exact hj.box.lt)) (fun W1 hb => ?_) (by obtain ⟨B, c2, e⟩ := hs2.slice; exact ⟨B, _, c2, e⟩)).mono ?_
  · have hsr : SetR W1 (fun b => F b ∨ b = jb) (.slice A 1 c) [y] := (hs1.below hb).mono (fun q _ hq => hq.imp id (fun e => .inr (.inr (.inr e))))
    refine (jobStep (h.ix.below hb) ⟨hj.box.below hb hj.box.lt, hj.out⟩ h3 h4 y hsr hk htx hge hgo hTk ha hp).mono ?_
    rintro e w' ⟨rfl, F', B, c2, hx, hj', mv⟩
    exact ⟨rfl, ⟨F', B, c2, (h.below hb).job (.inl h1) h2 hx mv, hj', (Moved.of_below hb).trans mv⟩, mv.touch⟩
  · rintro e w' ⟨rfl, F', B, c2, hE, hj', mv⟩
    have hmv : Moved (EF F (fun q => J q ∨ X q) bk b.nt jb) (EF F' (fun q => J q ∨ X q) bk b.nt jb) W w' := ⟨mv.touch.mono (fun q hq => hq.imp id (fun e => .inr (.inr (.inr e)))), fun q hq => by
      rcases hq with hq | hq
      · exact (mv.own q (.inl hq)).imp (fun h => h.imp id (fun e => .inr (.inr (.inr e)))) id
      · exact .inl (.inr hq)⟩
    have hX : ∀ q, X q → q < W.heap.size := fun q hq => h.jl q (.inr hq)
    exact ⟨rfl, ⟨b, J, F', jb, A, c, _, sv, hE, hm, h1, h2, h3, h4, h5, hj', .inr ⟨rfl, B, c2, rfl⟩, hs1.moved hmv, hs2.moved hmv,
      ⟨a.ng, a.nx, fun q hq hx => (mv.own q (.inl hq)).elim (fun h => h.elim (fun hf => a.nf q hf hx) (fun e => h5 (e ▸ hx))) (fun hle => by have := hX q hx; omega), a.c1, a.c2⟩⟩,
      mv.touch.mono (fun q hq => hq.elim (fun hf => outs_of (a.nf q hf) (fun e => h.ix.noTab.1 (e ▸ hf)) (fun e => h.ix.noTab.2 (e ▸ hf))) (fun e => e ▸ outs_of h5 (fun e => h4.1 e.symm) (fun e => h4.2 e.symm)))⟩

theorem sWork2 (hi : i < 8) (ho : t.wt.ops i = true) :
    Steps (EgJ g d p x tt bk L s t slot m i y 1) (EgI g d p x tt bk L { s with ws := put1 s.ws 8 (slot + 1) } (noteT (endT t i) [y] (slot + 1)) (slot + 1) m (fun _ => True)) 25 #[.pointer (some ⟨g, 0, none⟩)] (.tuple #[.int .i64 (i : Int), .bool true, .int .i64 0]) := by
  rintro W X ⟨b, J, F, jb, A, c, vd, sv, h, hm, h1, h2, h3, h4, h5, hj, hv, hs1, hs2, a⟩
  obtain ⟨B, c2, rfl⟩ : ∃ B c2, vd = .slice B 1 c2 := by
    rcases hv with hv | hv
    · exact absurd hv.1 (by decide)
    · exact hv.2
  obtain ⟨B2, c3, rfl⟩ := hs2.slice
  refine (egStepEnd (s2 := { s with ws := put1 s.ws 8 (slot + 1) }) h (.inl h1) h2 hi ho hs2 (by simp) (fun W1 hb => ?_)).mono ?_
  · refine (jobEnd (h.ix.below hb) ⟨hj.box.below hb hj.box.lt, hj.out⟩ h3 h4).mono ?_
    rintro e w' ⟨rfl, F', hx, hj', mv⟩
    exact ⟨rfl, F', hx, mv⟩
  · rintro e w' ⟨rfl, b', F', hm', hn', hE, mv⟩
    have hX : ∀ q, X q → q < W.heap.size := fun q hq => h.jl q (.inr hq)
    exact ⟨rfl, ⟨b', J, F', hE, by rw [hm', hm], trivial, ⟨a.ng, a.nx, fun q hq hx => (mv.own q (.inl hq)).elim (fun h9 => by
      rcases h9 with h9 | h9 | h9 | h9 | h9
      · exact a.nf q h9 hx
      · exact h5 (h9 ▸ hx)
      · exact a.ng (h9 ▸ hx)
      · exact h.apart.1 (h9 ▸ hx)
      · exact h.apart.2.1 (h9 ▸ hx)) (fun hle => by have := hX q hx; omega), a.c1, a.c2⟩⟩, mv.touch.mono (fun q hq => by
      rcases hq with h9 | h9 | h9 | h9 | h9
      · exact outs_of (a.nf q h9) (fun e => h.ix.noTab.1 (e ▸ h9)) (fun e => h.ix.noTab.2 (e ▸ h9))
      · exact h9 ▸ outs_of h5 (fun e => h4.1 e.symm) (fun e => h4.2 e.symm)
      · exact h9 ▸ outs_of a.ng h.c3.1 h.c3.2
      · exact h9 ▸ outs_of h.apart.1 h.c1.1 h.c1.2
      · exact h9 ▸ outs_of h.apart.2.1 h.c2.1 h.c2.2)⟩
end

end Go.Proofs.YtcelabojehaioaaGreatDoor

/- Law 21's alive, plain parts: what its script does, step by step. -/
namespace Go.Proofs.YtcelabojehaioaaGreatDoor
open Go.RowKit

def sh100' : Sh := { lines := 100, slabs := 6, table := 128, data := 192 }
theorem shape100' : shapeOf 100 = some sh100' := by decide +kernel

/-- The states of an engine through one transaction of one write. -/
def oneS (g d p x tt bk L : Nat) (sh : Sh) (ky tx : ByteArray) : Nat → World → (Nat → Prop) → Prop
  | 0 => EgI g d p x tt bk L (st0 sh) tb0 0 0 (fun _ => True)
  | 1 => EgI g d p x tt bk L (st0 sh) (beginT tb0 0 0) 0 1 (fun b => b.st 0 = .slice none 0 0)
  | 2 => EgI g d p x tt bk L (st0 sh) (writeT (beginT tb0 0 0) 0 [⟨ky, tx, false⟩]) 0 1 (fun _ => True)
  | 3 => EgJ g d p x tt bk L (st0 sh) (writeT (beginT tb0 0 0) 0 [⟨ky, tx, false⟩]) 0 1 0 ⟨ky, tx, false⟩ 0
  | 4 => EgJ g d p x tt bk L (one2 sh ky tx) (writeT (beginT tb0 0 0) 0 [⟨ky, tx, false⟩]) 0 1 0 ⟨ky, tx, false⟩ 1
  | _ => EgI g d p x tt bk L (one3 sh ky tx) (noteT (endT (writeT (beginT tb0 0 0) 0 [⟨ky, tx, false⟩]) 0) [⟨ky, tx, false⟩] 1) 1 1 (fun _ => True)

section
variable {g d p x tt bk L : Nat} {sh : Sh} {ky tx : ByteArray}

theorem oneS.frames (k : Nat) : Frames (oneS g d p x tt bk L sh ky tx k) := by
  match k with
  | 0 => exact EgI.frames
  | 1 => exact EgI.frames
  | 2 => exact EgI.frames
  | 3 => exact EgJ.frames
  | 4 => exact EgJ.frames
  | _ + 5 => exact EgI.frames

theorem one_s0 : Steps (oneS g d p x tt bk L sh ky tx 0) (oneS g d p x tt bk L sh ky tx 1) 22 #[.pointer (some ⟨g, 0, none⟩)] (.tuple #[.int .i64 0, .int .i64 0]) :=
  sBegin (i := 0) (slot := 0) (t := tb0) (by decide) (by decide)
theorem one_s1 (hk : ky.size ≤ 16) (ht : tx.size ≤ 40) : Steps (oneS g d p x tt bk L sh ky tx 1) (oneS g d p x tt bk L sh ky tx 2) 28 #[.pointer (some ⟨g, 0, none⟩), .int .i64 0, .string ky, .string tx] (.int .i64 0) :=
  sPut (i := 0) (by decide) rfl ky tx (by simp [rightWr, hk, ht])
theorem one_s2 (hk : ky.size ≤ 16) (ht : tx.size ≤ 40) : Steps (oneS g d p x tt bk L sh ky tx 2) (oneS g d p x tt bk L sh ky tx 3) 30 #[.pointer (some ⟨g, 0, none⟩), .int .i64 0] (.int .i64 0) :=
  sCommit (i := 0) (by decide) rfl rfl (by simp [rightWr, hk, ht]) rfl (by decide) (by rw [show (st0 sh).ws 8 = 0 from format_above sh 8 (by decide)]; decide)
theorem one_s3 (hk : ky.size ≤ 16) (ht : tx.size ≤ 40) (h : oneB sh ky tx = true) : Steps (oneS g d p x tt bk L sh ky tx 3) (oneS g d p x tt bk L sh ky tx 4) 25 #[.pointer (some ⟨g, 0, none⟩)] (.tuple #[.int .i64 0, .bool false, .int .i64 0]) :=
  sWork1 (i := 0) (slot := 0) hk ht (one_get sh ky hk) rfl (one_take h) (one_add h) (one_put h)
theorem one_s4 : Steps (oneS g d p x tt bk L sh ky tx 4) (oneS g d p x tt bk L sh ky tx 5) 25 #[.pointer (some ⟨g, 0, none⟩)] (.tuple #[.int .i64 0, .bool true, .int .i64 0]) :=
  sWork2 (i := 0) (slot := 0) (by decide) rfl

/-- The steps of a script that does it, and what comes of them. -/
def oneL (ky tx : ByteArray) : List Sp := [⟨0, 0, ⟨#[]⟩, ⟨#[]⟩⟩, ⟨1, 0, ky, tx⟩, ⟨5, 0, ⟨#[]⟩, ⟨#[]⟩⟩, ⟨6, 0, ⟨#[]⟩, ⟨#[]⟩⟩, ⟨6, 0, ⟨#[]⟩, ⟨#[]⟩⟩]
end
end Go.Proofs.YtcelabojehaioaaGreatDoor

/- Law 21's alive. -/
namespace Go.Proofs.YtcelabojehaioaaGreatDoor
open Go.RowKit

def bs21 : List UInt8 := [0, 0, 0, 1, 97, 18, 5, 0, 0, 6, 0, 0, 6, 0, 0, 7]
theorem dec21 : decP bs21 = oneL ⟨#[97]⟩ ⟨#[117, 117]⟩ := by rfl
theorem one21 : oneB sh100' ⟨#[97]⟩ ⟨#[117, 117]⟩ = true := by decide +kernel
def az21 : List Av := [⟨⟨#[]⟩, .slice none 0 0, 0, false, 0⟩, ⟨⟨#[]⟩, .slice none 0 0, 0, false, 0⟩, ⟨⟨#[]⟩, .slice none 0 0, 0, false, 0⟩, ⟨⟨#[]⟩, .slice none 0 0, 0, false, 0⟩, ⟨⟨#[]⟩, .slice none 0 0, 0, true, 0⟩]

theorem Tryz.eqStep (a1 a2 b1 b2 : Int) (a3 a4 b3 b4 : ByteArray) (w : World) : (Op.equalIn 10000 93 (.agg #[.int .i64 a1, .int .i64 a2, .string a3, .string a4]) (.agg #[.int .i64 b1, .int .i64 b2, .string b3, .string b4])).run Tryz.prog w = .ok ((a1 == b1 && a2 == b2) && (a3.toList == b3.toList && a4.toList == b4.toList)) w := by
  have hS : Tryz.prog.underlying 93 = some (.struct (Tryz.prog.fieldsOf 93)) := by kernel_rfl
  rw [show (10000 : Nat) = 9999 + 1 from rfl]
  first
    | rw [run_equalIn_agg w 9999 93 _ _ hS (by kernel_rfl)]
    | rw [run_equalIn_agg w 9999 93 _ _ hS (fun w => by kernel_rfl)]
  have u9 := Tryz.underlying9
  have u3 := Tryz.underlying3
  simp only [Program.fieldsOf, Tryz.underlying93]
  go_simp
  by_cases h1 : a1 = b1 <;> by_cases h2 : a2 = b2 <;> by_cases h3 : a3.toList = b3.toList <;> by_cases h4 : a4.toList = b4.toList <;> simp [h1, h2, h3, h4]

/-- A store that is begun leaves alone what was there, and more that is new. -/
theorem EngAt.begun {w : World} {g d p x tt bk nt L B : Nat} {s : St} {F X : Nat → Prop} {slot : UInt64} (h : EngAt w g d p x tt bk L s (bk0 nt) tb0 F (fun k => k = g) slot .nilIface 0 (.slice none 0 0) 0) (f : Fresh B g x tt bk nt F) (hX : ∀ q, X q → q < B ∧ q ≠ 0 ∧ q ≠ 1) :
    EgI g d p x tt bk L s tb0 slot 0 (fun _ => True) w X := by
  have hn : ∀ q, B ≤ q → ¬ X q := fun q hq hx => by have := (hX q hx).1; omega
  have hB : B ≤ w.heap.size := by have := h.box.lt; have := f.g; omega
  refine ⟨bk0 nt, fun k => k = g, F, ⟨h.ix, ?_, .inl rfl, fun q hq => hq.elim (fun e => by rw [e]; exact h.box.lt) (fun hx => by have := (hX q hx).1; omega), h.box, h.fg, h.g1, h.g2, h.g3, h.g4, h.x1, h.x2, h.c1, h.c2, h.c3⟩, rfl, trivial, ⟨hn g f.g, hn x f.x, fun q hq => hn q (f.f q hq), fun hx => (hX _ hx).2.1 rfl, fun hx => (hX _ hx).2.2 rfl⟩⟩
  refine ⟨h.tb.box, h.tb.book, h.tb.map, h.tb.wt, fun _ _ => SetR.nil, h.tb.pile, ?_, ?_, ?_, h.tb.ne1, h.tb.ne2, h.tb.ne3⟩
  · exact fun hf => hf.elim (fun h1 => h.tb.fb (.inl h1)) (fun h1 => h1.elim (fun h2 => h.tb.fb (.inr h2)) (hn bk f.bk))
  · exact fun hf => hf.elim (fun h1 => h.tb.fn (.inl h1)) (fun h1 => h1.elim (fun h2 => h.tb.fn (.inr h2)) (hn nt f.nt))
  · exact fun hf => hf.elim (fun h1 => h.tb.ft (.inl h1)) (fun h1 => h1.elim (fun h2 => h.tb.ft (.inr h2)) (hn tt f.tt))

set_option maxHeartbeats 8000000 in
set_option maxRecDepth 100000 in
theorem alive21 {w : World} (hT : Tabs w) : Calls Tryz.prog 40 #[] w fun e w' => e = .returned (.bool true) ∧ Below w.heap.size w w' := by
  have htl := hT.lt
  obtain ⟨W1, hW1⟩ : ∃ W1, W1 = w.alloc (.cells #[.int .u8 0, .int .u8 0, .int .u8 0, .int .u8 1, .int .u8 97, .int .u8 18, .int .u8 5, .int .u8 0, .int .u8 0, .int .u8 6, .int .u8 0, .int .u8 0, .int .u8 6, .int .u8 0, .int .u8 0, .int .u8 7] 5) := ⟨_, rfl⟩
  have hb1 : Below w.heap.size w W1 := hW1 ▸ (Below.refl _ _).alloc (Nat.le_refl _) _
  have hr1 : Bs W1 (some ⟨w.heap.size, 0, none⟩) bs21.length bs21 := by
    have h := rd_new w 5 (bs21.map bv) 16 rfl
    rw [show (bs21.map bv).toArray = #[.int .u8 0, .int .u8 0, .int .u8 0, .int .u8 1, .int .u8 97, .int .u8 18, .int .u8 5, .int .u8 0, .int .u8 0, .int .u8 6, .int .u8 0, .int .u8 0, .int .u8 6, .int .u8 0, .int .u8 0, .int .u8 7] from rfl, ← hW1] at h
    exact h
  have HD := scrDecode bs21 (some ⟨w.heap.size, 0, none⟩) 16 W1 (by decide) (by decide) hr1
  rw [dec21] at HD
  have HD := Lib.hid HD
  have HB1 := Lib.hid hb1
  have HW1 := Lib.hid hW1
  have HT := Lib.hid hT
  rw [show bs21.length = 16 from rfl] at HD
  clear hb1 hr1 hW1 hT
  go_enter Tryz.func40, Tryz.ntmps40
  go_wp2_with fail
  rw [← HW1.out]
  refine HD.out.mono ?_
  rintro e w2 ⟨v2, rfl, ho2, hb2⟩
  obtain ⟨L5, hL5⟩ : ∃ L5, L5 = oneL ⟨#[97]⟩ ⟨#[117, 117]⟩ := ⟨_, rfl⟩
  have hl5 : L5.length = 5 := by rw [hL5]; rfl
  rw [← hL5, hl5] at ho2
  obtain ⟨Al, cl, rfl, hcl, hrl⟩ := own_rowk ho2
  have hAl := own_at ho2
  have hb12 := HB1.out.trans (hb2.mono HB1.out.size)
  have HB2 := Lib.hid hb12
  have HBg := egBegun (L := 100) (sh := sh100') (by decide) (by decide) shape100' (HT.out.below hb12)
  rw [show ((100 : Nat) : Int) = 100 from rfl] at HBg
  have HBg := Lib.hid HBg
  have HR2 := Lib.hid hrl
  have HA2 := Lib.hid hAl
  have HL5 := Lib.hid hL5
  have hsz1 := HB1.out.size
  clear HD hb2 hb12 ho2 hrl hcl hAl hL5
  go_wp2_with fail
  refine HBg.out.mono ?_
  rintro e w3 ⟨d, g, p, x, tt, bk, nt, F, rfl, hE, hb3, hf⟩
  have hI := hE.begun hf (X := fun q => q < w2.heap.size ∧ q ≠ 0 ∧ q ≠ 1) (fun q hq => hq)
  have hR3 : SpR w3 Al L5 := by
    have h := Rd.below HR2.out hb3
    unfold SpR
    rw [hl5]
    exact h
  have HRn := scrRun g L5 Al cl w3 (by omega) hR3 az21 (by rw [hl5]; rfl) (fun k hk => ⟨none, 0, 0, by
      have h5 : k < 5 := hk
      rcases (show k = 0 ∨ k = 1 ∨ k = 2 ∨ k = 3 ∨ k = 4 by omega) with rfl | rfl | rfl | rfl | rfl <;> rfl⟩)
    (oneS g d p x tt bk 100 sh100' ⟨#[97]⟩ ⟨#[117, 117]⟩) (fun k W W' X X' => oneS.frames k W W' X X')
    (fun k W X hk hk2 hS => by
      have h5 : k < 5 := hk2
      have hLL := HL5.out
      subst hLL
      rcases (show k = 0 ∨ k = 1 ∨ k = 2 ∨ k = 3 ∨ k = 4 by omega) with rfl | rfl | rfl | rfl | rfl
      · exact do_frame (oneS.frames 0) (oneS.frames 1) one_s0 hS (fun hG hc => doBegin g 0 ⟨#[]⟩ ⟨#[]⟩ 0 0 _ hG hc)
      · exact do_frame (oneS.frames 1) (oneS.frames 2) (one_s1 (by decide) (by decide)) hS (fun hG hc => doPut g 0 ⟨#[97]⟩ ⟨#[117, 117]⟩ 0 _ hG hc)
      · exact do_frame (oneS.frames 2) (oneS.frames 3) (one_s2 (by decide) (by decide)) hS (fun hG hc => doCommit g 0 ⟨#[]⟩ ⟨#[]⟩ 0 _ hG hc)
      · exact do_frame (oneS.frames 3) (oneS.frames 4) (one_s3 (by decide) (by decide) one21) hS (fun hG hc => doWork g 0 ⟨#[]⟩ ⟨#[]⟩ 0 false 0 _ hG hc)
      · exact do_frame (oneS.frames 4) (oneS.frames 5) one_s4 hS (fun hG hc => doWork g 0 ⟨#[]⟩ ⟨#[]⟩ 0 true 0 _ hG hc))
    (X0 := fun q => q < w2.heap.size ∧ q ≠ 0 ∧ q ≠ 1) hI (fun a ea => ⟨(HA2.out a ea).2, by have := (HA2.out a ea).1; omega, by have := (HA2.out a ea).1; omega⟩)
  rw [hl5, show az21.length = 5 from rfl] at HRn
  have HRn := Lib.hid HRn
  have HB3 := Lib.hid (HB2.out.trans (hb3.mono HB2.out.size))
  have HR3 := Lib.hid hR3
  clear HBg hE hb3 hf hI hR3
  go_wp2_with fail
  refine HRn.out.mono ?_
  rintro e w4 ⟨v4, X, rfl, ho4, hS4, hX1, hX2, hX3, hT4⟩
  obtain ⟨Av, cv, rfl, hcv, hrv⟩ := own_rowk ho4
  obtain ⟨vb, vo, rfl, hvb, hvc⟩ := hrv.2 (by decide)
  have hRl := Rd.touch HR3.out hT4 (fun a ea h => h (.inl ⟨(HA2.out a ea).2, by have := (HA2.out a ea).1; omega, by have := (HA2.out a ea).1; omega⟩))
  rw [hl5] at hRl
  obtain ⟨lb, lo, rfl, hlb, hlc⟩ := hRl.2 (by decide)
  have hb4 : Below w.heap.size w w4 := HB3.out.trans (hT4.below HB3.out.size (fun q h => by
    by_cases hq : w.heap.size ≤ q
    · exact hq
    · exact absurd (show _ from by
        by_cases h1 : q = 0
        · exact .inr (.inl h1)
        · by_cases h2 : q = 1
          · exact .inr (.inr h2)
          · exact .inl ⟨by have := HB2.out.size; omega, h1, h2⟩) h))
  obtain ⟨b, J, F5, hE5, hm5, _, ha5⟩ := (show EgI g d p x tt bk 100 (one3 sh100' ⟨#[97]⟩ ⟨#[117, 117]⟩) _ 1 1 (fun _ => True) w4 X from hS4)
  have HSl := Lib.hid (fun W (k : Below w4.heap.size w4 W) => egSlot (hE5.below k))
  have HSm := Lib.hid (fun W => scrSame ⟨⟨#[]⟩, [], 0, false, 0⟩ ⟨⟨#[]⟩, [], 0, false, 0⟩ none none 0 0 W (by decide) (PrR.nil W) (PrR.nil W))
  rw [sameAn_refl] at HSm
  have HSn := Lib.hid (fun W => scrSame ⟨⟨#[]⟩, [], 0, false, 0⟩ ⟨⟨#[]⟩, [], 0, true, 0⟩ none none 0 0 W (by decide) (PrR.nil W) (PrR.nil W))
  rw [show sameAn ⟨⟨#[]⟩, [], 0, false, 0⟩ ⟨⟨#[]⟩, [], 0, true, 0⟩ = false by simp [sameAn]] at HSn
  unfold anW at HSm HSn
  simp only [List.length_nil] at HSm HSn
  have HOd := Lib.hid (fun W => doOdd g 9 (by decide) 0 ⟨#[]⟩ ⟨#[]⟩ W)
  unfold anV at HOd
  rw [show ((0 : Nat) : Int) = 0 from rfl] at HOd
  rw [show (((1 : UInt64).toNat : Nat) : Int) = 1 from rfl] at HSl
  have HK : Hid (∀ w', Below w4.heap.size w4 w' → w'.cell? ⟨lb, lo + 4, none⟩ = some (.int .i64 1) ∧ w'.cell? ⟨lb, lo + 5, none⟩ = some (.int .i64 0) ∧ w'.cell? ⟨lb, lo + 6, none⟩ = some (.string ⟨#[97]⟩) ∧ w'.cell? ⟨lb, lo + 7, none⟩ = some (.string ⟨#[117, 117]⟩) ∧ w'.cell? ⟨vb, vo, none⟩ = some (.string ⟨#[]⟩) ∧ w'.cell? ⟨vb, vo + 1, none⟩ = some (.slice none 0 0) ∧ w'.cell? ⟨vb, vo + 2, none⟩ = some (.int .i64 0) ∧ w'.cell? ⟨vb, vo + 3, none⟩ = some (.bool false) ∧ w'.cell? ⟨vb, vo + 4, none⟩ = some (.int .i64 0) ∧ w'.cell? ⟨vb, vo + 10, none⟩ = some (.string ⟨#[]⟩) ∧ w'.cell? ⟨vb, vo + 11, none⟩ = some (.slice none 0 0) ∧ w'.cell? ⟨vb, vo + 12, none⟩ = some (.int .i64 0) ∧ w'.cell? ⟨vb, vo + 13, none⟩ = some (.bool false) ∧ w'.cell? ⟨vb, vo + 14, none⟩ = some (.int .i64 0) ∧ w'.cell? ⟨vb, vo + 15, none⟩ = some (.string ⟨#[]⟩) ∧ w'.cell? ⟨vb, vo + 16, none⟩ = some (.slice none 0 0) ∧ w'.cell? ⟨vb, vo + 17, none⟩ = some (.int .i64 0) ∧ w'.cell? ⟨vb, vo + 18, none⟩ = some (.bool false) ∧ w'.cell? ⟨vb, vo + 19, none⟩ = some (.int .i64 0) ∧ w'.cell? ⟨vb, vo + 20, none⟩ = some (.string ⟨#[]⟩) ∧ w'.cell? ⟨vb, vo + 21, none⟩ = some (.slice none 0 0) ∧ w'.cell? ⟨vb, vo + 22, none⟩ = some (.int .i64 0) ∧ w'.cell? ⟨vb, vo + 23, none⟩ = some (.bool true) ∧ w'.cell? ⟨vb, vo + 24, none⟩ = some (.int .i64 0)) := Lib.hid (fun w' k => by
    obtain ⟨vb', vo', ev, _, hvc'⟩ := (Rd.below hrv k).2 (by decide)
    injection ev with ev
    injection ev with ev1 ev2
    subst ev1 ev2
    obtain ⟨lb', lo', el, _, hlc'⟩ := (Rd.below hRl k).2 (by decide)
    injection el with el
    injection el with el1 el2
    subst el1 el2
    rw [HL5.out] at hlc'
    exact ⟨hlc' 4 (by decide), hlc' 5 (by decide), hlc' 6 (by decide), hlc' 7 (by decide), hvc' 0 (by decide), hvc' 1 (by decide), hvc' 2 (by decide), hvc' 3 (by decide), hvc' 4 (by decide), hvc' 10 (by decide), hvc' 11 (by decide), hvc' 12 (by decide), hvc' 13 (by decide), hvc' 14 (by decide), hvc' 15 (by decide), hvc' 16 (by decide), hvc' 17 (by decide), hvc' 18 (by decide), hvc' 19 (by decide), hvc' 20 (by decide), hvc' 21 (by decide), hvc' 22 (by decide), hvc' 23 (by decide), hvc' 24 (by decide)⟩)
  obtain ⟨z0, z1, z2, z3, z4, z5, z6, z7, z8, z9, z10, z11, z12, z13, z14, z15, z16, z17, z18, z19, z20, z21, z22, z23⟩ := HK.out w4 (Below.refl _ _)
  have HB4 := Lib.hid hb4
  have hm : Tryz.prog.eqGuardType Tryz.prog.depth 93 = false := by kernel_rfl
  have hq := fun W => Tryz.eqStep 1 0 1 0 ⟨#[97]⟩ ⟨#[117, 117]⟩ ⟨#[97]⟩ ⟨#[117, 117]⟩ W
  have hqq : ((((1 : Int) == 1) && ((0 : Int) == 0)) && ((ByteArray.toList ⟨#[97]⟩ == ByteArray.toList ⟨#[97]⟩) && (ByteArray.toList ⟨#[117, 117]⟩ == ByteArray.toList ⟨#[117, 117]⟩))) = true := by simp
  rw [hqq] at hq
  have hs1 := HK.out
  clear HRn ho4 hS4 hX1 hX2 hX3 hT4 hcv hrv hvc hRl hlc hE5 hm5 ha5 hb4 hs1 hqq
  go_wp2_with fail
  refine wp_region_held_drew (S := (fun w' => w'.cell? ⟨lb, lo + 4, none⟩ = some (.int .i64 1) ∧ w'.cell? ⟨lb, lo + 5, none⟩ = some (.int .i64 0) ∧ w'.cell? ⟨lb, lo + 6, none⟩ = some (.string ⟨#[97]⟩) ∧ w'.cell? ⟨lb, lo + 7, none⟩ = some (.string ⟨#[117, 117]⟩) ∧ w'.cell? ⟨vb, vo, none⟩ = some (.string ⟨#[]⟩) ∧ w'.cell? ⟨vb, vo + 1, none⟩ = some (.slice none 0 0) ∧ w'.cell? ⟨vb, vo + 2, none⟩ = some (.int .i64 0) ∧ w'.cell? ⟨vb, vo + 3, none⟩ = some (.bool false) ∧ w'.cell? ⟨vb, vo + 4, none⟩ = some (.int .i64 0) ∧ w'.cell? ⟨vb, vo + 10, none⟩ = some (.string ⟨#[]⟩) ∧ w'.cell? ⟨vb, vo + 11, none⟩ = some (.slice none 0 0) ∧ w'.cell? ⟨vb, vo + 12, none⟩ = some (.int .i64 0) ∧ w'.cell? ⟨vb, vo + 13, none⟩ = some (.bool false) ∧ w'.cell? ⟨vb, vo + 14, none⟩ = some (.int .i64 0) ∧ w'.cell? ⟨vb, vo + 15, none⟩ = some (.string ⟨#[]⟩) ∧ w'.cell? ⟨vb, vo + 16, none⟩ = some (.slice none 0 0) ∧ w'.cell? ⟨vb, vo + 17, none⟩ = some (.int .i64 0) ∧ w'.cell? ⟨vb, vo + 18, none⟩ = some (.bool false) ∧ w'.cell? ⟨vb, vo + 19, none⟩ = some (.int .i64 0) ∧ w'.cell? ⟨vb, vo + 20, none⟩ = some (.string ⟨#[]⟩) ∧ w'.cell? ⟨vb, vo + 21, none⟩ = some (.slice none 0 0) ∧ w'.cell? ⟨vb, vo + 22, none⟩ = some (.int .i64 0) ∧ w'.cell? ⟨vb, vo + 23, none⟩ = some (.bool true) ∧ w'.cell? ⟨vb, vo + 24, none⟩ = some (.int .i64 0))) (by kernel_rfl) ⟨z0, z1, z2, z3, z4, z5, z6, z7, z8, z9, z10, z11, z12, z13, z14, z15, z16, z17, z18, z19, z20, z21, z22, z23⟩ (fun hHeld => ?_)
  refine wpAnyH_take (i := 0) (v := .slice (some ⟨lb, lo, none⟩) 5 cl) rfl (by kernel_rfl) (by kernel_rfl) (by kernel_rfl) (fun _ _ _ h => h) (Or.inl ⟨by rfl, fun w hSw => by clear hSw; go_simp⟩) (by assumption) ?_
  try simp only [Act.put, List.getElem_toArray, List.getElem_cons_zero, List.setIfInBounds_toArray, List.set_cons_zero, List.set_cons_succ]
  refine wpAnyH_take (i := 1) (v := .pointer (some ⟨lb, lo + 4, none⟩)) rfl (by kernel_rfl) (by kernel_rfl) (by kernel_rfl) (fun _ _ _ h => h) (Or.inl ⟨by rfl, fun w hSw => by clear hSw; go_simp⟩) (by assumption) ?_
  try simp only [Act.put, List.getElem_toArray, List.getElem_cons_succ, List.getElem_cons_zero, List.setIfInBounds_toArray, List.set_cons_zero, List.set_cons_succ]
  refine wpAnyH_take (i := 2) (v := .agg #[.int .i64 1, .int .i64 0, .string ⟨#[97]⟩, .string ⟨#[117, 117]⟩]) rfl (by kernel_rfl) (by kernel_rfl) (by kernel_rfl) (fun _ _ _ h => h) (Or.inl ⟨by rfl, fun w hSw => by obtain ⟨s0, s1, s2, s3, s4, s5, s6, s7, s8, s9, s10, s11, s12, s13, s14, s15, s16, s17, s18, s19, s20, s21, s22, s23⟩ := hSw; go_simp⟩) (by assumption) ?_
  try simp only [Act.put, List.getElem_toArray, List.getElem_cons_succ, List.getElem_cons_zero, List.setIfInBounds_toArray, List.set_cons_zero, List.set_cons_succ]
  refine wpAnyH_take (i := 3) (v := .agg #[.int .i64 1, .int .i64 0, .string ⟨#[97]⟩, .string ⟨#[117, 117]⟩]) rfl (by kernel_rfl) (by kernel_rfl) (by kernel_rfl) (fun _ _ _ h => h) (Or.inl ⟨by rfl, fun w hSw => by clear hSw; go_simp⟩) (by assumption) ?_
  try simp only [Act.put, List.getElem_toArray, List.getElem_cons_succ, List.getElem_cons_zero, List.setIfInBounds_toArray, List.set_cons_zero, List.set_cons_succ]
  refine wpAnyH_take (i := 4) (v := .bool true) rfl (by kernel_rfl) (by kernel_rfl) (by kernel_rfl) (fun _ _ _ h => h) (Or.inl ⟨by rfl, fun w hSw => by clear hSw; go_simp⟩) (by assumption) ?_
  try simp only [Act.put, List.getElem_toArray, List.getElem_cons_succ, List.getElem_cons_zero, List.setIfInBounds_toArray, List.set_cons_zero, List.set_cons_succ]
  refine wpAnyH_take (i := 5) (v := .bool true) rfl (by kernel_rfl) (by kernel_rfl) (by kernel_rfl) (fun _ _ _ h => h) (Or.inl ⟨by rfl, fun w hSw => by clear hSw; go_simp⟩) (by assumption) ?_
  try simp only [Act.put, List.getElem_toArray, List.getElem_cons_succ, List.getElem_cons_zero, List.setIfInBounds_toArray, List.set_cons_zero, List.set_cons_succ]
  refine wpAnyH_take (i := 6) (v := .slice (some ⟨vb, vo, none⟩) 5 cv) rfl (by kernel_rfl) (by kernel_rfl) (by kernel_rfl) (fun _ _ _ h => h) (Or.inl ⟨by rfl, fun w hSw => by clear hSw; go_simp⟩) (by assumption) ?_
  try simp only [Act.put, List.getElem_toArray, List.getElem_cons_succ, List.getElem_cons_zero, List.setIfInBounds_toArray, List.set_cons_zero, List.set_cons_succ]
  refine wpAnyH_take (i := 7) (v := .int .i64 5) rfl (by kernel_rfl) (by kernel_rfl) (by kernel_rfl) (fun _ _ _ h => h) (Or.inl ⟨by rfl, fun w hSw => by clear hSw; go_simp⟩) (by assumption) ?_
  try simp only [Act.put, List.getElem_toArray, List.getElem_cons_succ, List.getElem_cons_zero, List.setIfInBounds_toArray, List.set_cons_zero, List.set_cons_succ]
  refine wpAnyH_take (i := 8) (v := .bool true) rfl (by kernel_rfl) (by kernel_rfl) (by kernel_rfl) (fun _ _ _ h => h) (Or.inl ⟨by rfl, fun w hSw => by clear hSw; go_simp⟩) (by assumption) ?_
  try simp only [Act.put, List.getElem_toArray, List.getElem_cons_succ, List.getElem_cons_zero, List.setIfInBounds_toArray, List.set_cons_zero, List.set_cons_succ]
  refine wpAnyH_take (i := 9) (v := .bool true) rfl (by kernel_rfl) (by kernel_rfl) (by kernel_rfl) (fun _ _ _ h => h) (Or.inl ⟨by rfl, fun w hSw => by clear hSw; go_simp⟩) (by assumption) ?_
  try simp only [Act.put, List.getElem_toArray, List.getElem_cons_succ, List.getElem_cons_zero, List.setIfInBounds_toArray, List.set_cons_zero, List.set_cons_succ]
  refine wpAnyH_take (i := 10) (v := .bool true) rfl (by kernel_rfl) (by kernel_rfl) (by kernel_rfl) (fun _ _ _ h => h) (Or.inl ⟨by rfl, fun w hSw => by clear hSw; go_simp⟩) (by assumption) ?_
  try simp only [Act.put, List.getElem_toArray, List.getElem_cons_succ, List.getElem_cons_zero, List.setIfInBounds_toArray, List.set_cons_zero, List.set_cons_succ]
  refine wpAnyH_take (i := 11) (v := .slice (some ⟨vb, vo, none⟩) 5 cv) rfl (by kernel_rfl) (by kernel_rfl) (by kernel_rfl) (fun _ _ _ h => h) (Or.inl ⟨by rfl, fun w hSw => by clear hSw; go_simp⟩) (by assumption) ?_
  try simp only [Act.put, List.getElem_toArray, List.getElem_cons_succ, List.getElem_cons_zero, List.setIfInBounds_toArray, List.set_cons_zero, List.set_cons_succ]
  refine wpAnyH_take (i := 12) (v := .pointer (some ⟨vb, vo + 20, none⟩)) rfl (by kernel_rfl) (by kernel_rfl) (by kernel_rfl) (fun _ _ _ h => h) (Or.inl ⟨by rfl, fun w hSw => by clear hSw; go_simp⟩) (by assumption) ?_
  try simp only [Act.put, List.getElem_toArray, List.getElem_cons_succ, List.getElem_cons_zero, List.setIfInBounds_toArray, List.set_cons_zero, List.set_cons_succ]
  refine wpAnyH_take (i := 13) (v := .pointer (some ⟨vb, vo + 23, none⟩)) rfl (by kernel_rfl) (by kernel_rfl) (by kernel_rfl) (fun _ _ _ h => h) (Or.inl ⟨by rfl, fun w hSw => by clear hSw; go_simp⟩) (by assumption) ?_
  try simp only [Act.put, List.getElem_toArray, List.getElem_cons_succ, List.getElem_cons_zero, List.setIfInBounds_toArray, List.set_cons_zero, List.set_cons_succ]
  refine wpAnyH_take (i := 14) (v := .bool true) rfl (by kernel_rfl) (by kernel_rfl) (by kernel_rfl) (fun _ _ _ h => h) (Or.inl ⟨by rfl, fun w hSw => by obtain ⟨s0, s1, s2, s3, s4, s5, s6, s7, s8, s9, s10, s11, s12, s13, s14, s15, s16, s17, s18, s19, s20, s21, s22, s23⟩ := hSw; go_simp⟩) (by assumption) ?_
  try simp only [Act.put, List.getElem_toArray, List.getElem_cons_succ, List.getElem_cons_zero, List.setIfInBounds_toArray, List.set_cons_zero, List.set_cons_succ]
  refine wpAnyH_take (i := 15) (v := .bool true) rfl (by kernel_rfl) (by kernel_rfl) (by kernel_rfl) (fun _ _ _ h => h) (Or.inl ⟨by rfl, fun w hSw => by clear hSw; go_simp⟩) (by assumption) ?_
  try simp only [Act.put, List.getElem_toArray, List.getElem_cons_succ, List.getElem_cons_zero, List.setIfInBounds_toArray, List.set_cons_zero, List.set_cons_succ]
  refine wpAnyH_take (i := 16) (v := .bool true) rfl (by kernel_rfl) (by kernel_rfl) (by kernel_rfl) (fun _ _ _ h => h) (Or.inl ⟨by rfl, fun w hSw => by clear hSw; go_simp⟩) (by assumption) ?_
  try simp only [Act.put, List.getElem_toArray, List.getElem_cons_succ, List.getElem_cons_zero, List.setIfInBounds_toArray, List.set_cons_zero, List.set_cons_succ]
  refine wpAnyH_take (i := 17) (v := .slice (some ⟨vb, vo, none⟩) 5 cv) rfl (by kernel_rfl) (by kernel_rfl) (by kernel_rfl) (fun _ _ _ h => h) (Or.inl ⟨by rfl, fun w hSw => by clear hSw; go_simp⟩) (by assumption) ?_
  try simp only [Act.put, List.getElem_toArray, List.getElem_cons_succ, List.getElem_cons_zero, List.setIfInBounds_toArray, List.set_cons_zero, List.set_cons_succ]
  refine wpAnyH_take (i := 18) (v := .pointer (some ⟨vb, vo + 20, none⟩)) rfl (by kernel_rfl) (by kernel_rfl) (by kernel_rfl) (fun _ _ _ h => h) (Or.inl ⟨by rfl, fun w hSw => by clear hSw; go_simp⟩) (by assumption) ?_
  try simp only [Act.put, List.getElem_toArray, List.getElem_cons_succ, List.getElem_cons_zero, List.setIfInBounds_toArray, List.set_cons_zero, List.set_cons_succ]
  refine wpAnyH_take (i := 19) (v := .pointer (some ⟨vb, vo + 24, none⟩)) rfl (by kernel_rfl) (by kernel_rfl) (by kernel_rfl) (fun _ _ _ h => h) (Or.inl ⟨by rfl, fun w hSw => by clear hSw; go_simp⟩) (by assumption) ?_
  try simp only [Act.put, List.getElem_toArray, List.getElem_cons_succ, List.getElem_cons_zero, List.setIfInBounds_toArray, List.set_cons_zero, List.set_cons_succ]
  refine wpAnyH_take (i := 20) (v := .int .i64 0) rfl (by kernel_rfl) (by kernel_rfl) (by kernel_rfl) (fun _ _ _ h => h) (Or.inl ⟨by rfl, fun w hSw => by obtain ⟨s0, s1, s2, s3, s4, s5, s6, s7, s8, s9, s10, s11, s12, s13, s14, s15, s16, s17, s18, s19, s20, s21, s22, s23⟩ := hSw; go_simp⟩) (by assumption) ?_
  try simp only [Act.put, List.getElem_toArray, List.getElem_cons_succ, List.getElem_cons_zero, List.setIfInBounds_toArray, List.set_cons_zero, List.set_cons_succ]
  refine wpAnyH_take (i := 21) (v := .bool true) rfl (by kernel_rfl) (by kernel_rfl) (by kernel_rfl) (fun _ _ _ h => h) (Or.inl ⟨by rfl, fun w hSw => by clear hSw; go_simp⟩) (by assumption) ?_
  try simp only [Act.put, List.getElem_toArray, List.getElem_cons_succ, List.getElem_cons_zero, List.setIfInBounds_toArray, List.set_cons_zero, List.set_cons_succ]
  refine wpAnyH_take (i := 22) (v := .bool true) rfl (by kernel_rfl) (by kernel_rfl) (by kernel_rfl) (fun _ _ _ h => h) (Or.inl ⟨by rfl, fun w hSw => by clear hSw; go_simp⟩) (by assumption) ?_
  try simp only [Act.put, List.getElem_toArray, List.getElem_cons_succ, List.getElem_cons_zero, List.setIfInBounds_toArray, List.set_cons_zero, List.set_cons_succ]
  refine wpAnyH_take (i := 23) (v := .bool true) rfl (by kernel_rfl) (by kernel_rfl) (by kernel_rfl) (fun _ _ _ h => h) (Or.inl ⟨by rfl, fun w hSw => by clear hSw; go_simp⟩) (by assumption) ?_
  try simp only [Act.put, List.getElem_toArray, List.getElem_cons_succ, List.getElem_cons_zero, List.setIfInBounds_toArray, List.set_cons_zero, List.set_cons_succ]
  refine wpAnyH_take (i := 24) (v := .pointer (some ⟨g, 0, none⟩)) rfl (by kernel_rfl) (by kernel_rfl) (by kernel_rfl) (fun _ _ _ h => h) (Or.inl ⟨by rfl, fun w hSw => by clear hSw; go_simp⟩) (by assumption) ?_
  try simp only [Act.put, List.getElem_toArray, List.getElem_cons_succ, List.getElem_cons_zero, List.setIfInBounds_toArray, List.set_cons_zero, List.set_cons_succ]
  refine wpAnyH_ready (rs := [25]) (by kernel_rfl) (by simp) ?_
  refine AllReadyH.cons rfl (fun K hK => ?_) AllReadyH.nil
  go_simp
  go_at_call 32
  refine (HSl.out _ ((Dr.drew w4).below _)).mono ?_
  rintro e ws ⟨rfl, rfl⟩
  refine hK.out _ _ (HK.out _ ((Dr.drew w4).below _)) (fun hHeld => ?_)
  clear hK K
  try simp only [Act.put, List.getElem_toArray, List.getElem_cons_succ, List.getElem_cons_zero, List.setIfInBounds_toArray, List.set_cons_zero, List.set_cons_succ]
  refine wpAnyH_take (i := 26) (v := .bool true) rfl (by kernel_rfl) (by kernel_rfl) (by kernel_rfl) (fun _ _ _ h => h) (Or.inl ⟨by rfl, fun w hSw => by clear hSw; go_simp⟩) (by assumption) ?_
  try simp only [Act.put, List.getElem_toArray, List.getElem_cons_succ, List.getElem_cons_zero, List.setIfInBounds_toArray, List.set_cons_zero, List.set_cons_succ]
  refine wpAnyH_take (i := 27) (v := .bool true) rfl (by kernel_rfl) (by kernel_rfl) (by kernel_rfl) (fun _ _ _ h => h) (Or.inl ⟨by rfl, fun w hSw => by clear hSw; go_simp⟩) (by assumption) ?_
  try simp only [Act.put, List.getElem_toArray, List.getElem_cons_succ, List.getElem_cons_zero, List.setIfInBounds_toArray, List.set_cons_zero, List.set_cons_succ]
  refine wpAnyH_take (i := 28) (v := .bool true) rfl (by kernel_rfl) (by kernel_rfl) (by kernel_rfl) (fun _ _ _ h => h) (Or.inl ⟨by rfl, fun w hSw => by clear hSw; go_simp⟩) (by assumption) ?_
  try simp only [Act.put, List.getElem_toArray, List.getElem_cons_succ, List.getElem_cons_zero, List.setIfInBounds_toArray, List.set_cons_zero, List.set_cons_succ]
  refine wpAnyH_take (i := 29) (v := .slice (some ⟨vb, vo, none⟩) 5 cv) rfl (by kernel_rfl) (by kernel_rfl) (by kernel_rfl) (fun _ _ _ h => h) (Or.inl ⟨by rfl, fun w hSw => by clear hSw; go_simp⟩) (by assumption) ?_
  try simp only [Act.put, List.getElem_toArray, List.getElem_cons_succ, List.getElem_cons_zero, List.setIfInBounds_toArray, List.set_cons_zero, List.set_cons_succ]
  refine wpAnyH_take (i := 30) (v := .pointer (some ⟨vb, vo, none⟩)) rfl (by kernel_rfl) (by kernel_rfl) (by kernel_rfl) (fun _ _ _ h => h) (Or.inl ⟨by rfl, fun w hSw => by clear hSw; go_simp⟩) (by assumption) ?_
  try simp only [Act.put, List.getElem_toArray, List.getElem_cons_succ, List.getElem_cons_zero, List.setIfInBounds_toArray, List.set_cons_zero, List.set_cons_succ]
  refine wpAnyH_take (i := 31) (v := .agg #[.string ⟨#[]⟩, .slice none 0 0, .int .i64 0, .bool false, .int .i64 0]) rfl (by kernel_rfl) (by kernel_rfl) (by kernel_rfl) (fun _ _ _ h => h) (Or.inl ⟨by rfl, fun w hSw => by obtain ⟨s0, s1, s2, s3, s4, s5, s6, s7, s8, s9, s10, s11, s12, s13, s14, s15, s16, s17, s18, s19, s20, s21, s22, s23⟩ := hSw; go_simp⟩) (by assumption) ?_
  try simp only [Act.put, List.getElem_toArray, List.getElem_cons_succ, List.getElem_cons_zero, List.setIfInBounds_toArray, List.set_cons_zero, List.set_cons_succ]
  refine wpAnyH_take (i := 32) (v := .slice (some ⟨vb, vo, none⟩) 5 cv) rfl (by kernel_rfl) (by kernel_rfl) (by kernel_rfl) (fun _ _ _ h => h) (Or.inl ⟨by rfl, fun w hSw => by clear hSw; go_simp⟩) (by assumption) ?_
  try simp only [Act.put, List.getElem_toArray, List.getElem_cons_succ, List.getElem_cons_zero, List.setIfInBounds_toArray, List.set_cons_zero, List.set_cons_succ]
  refine wpAnyH_take (i := 33) (v := .pointer (some ⟨vb, vo + 10, none⟩)) rfl (by kernel_rfl) (by kernel_rfl) (by kernel_rfl) (fun _ _ _ h => h) (Or.inl ⟨by rfl, fun w hSw => by clear hSw; go_simp⟩) (by assumption) ?_
  try simp only [Act.put, List.getElem_toArray, List.getElem_cons_succ, List.getElem_cons_zero, List.setIfInBounds_toArray, List.set_cons_zero, List.set_cons_succ]
  refine wpAnyH_take (i := 34) (v := .agg #[.string ⟨#[]⟩, .slice none 0 0, .int .i64 0, .bool false, .int .i64 0]) rfl (by kernel_rfl) (by kernel_rfl) (by kernel_rfl) (fun _ _ _ h => h) (Or.inl ⟨by rfl, fun w hSw => by obtain ⟨s0, s1, s2, s3, s4, s5, s6, s7, s8, s9, s10, s11, s12, s13, s14, s15, s16, s17, s18, s19, s20, s21, s22, s23⟩ := hSw; go_simp⟩) (by assumption) ?_
  try simp only [Act.put, List.getElem_toArray, List.getElem_cons_succ, List.getElem_cons_zero, List.setIfInBounds_toArray, List.set_cons_zero, List.set_cons_succ]
  refine wpAnyH_ready (rs := [35]) (by kernel_rfl) (by simp) ?_
  refine AllReadyH.cons rfl (fun K hK => ?_) AllReadyH.nil
  go_simp
  go_at_call 44
  refine (HSm.out _).mono ?_
  rintro e w5 ⟨rfl, hb5⟩
  have hz5 : Below w4.heap.size w4 w5 := ((Dr.drew w4).below _).trans hb5
  refine hK.out _ _ (HK.out _ hz5) (fun hHeld => ?_)
  clear hK K
  try simp only [Act.put, List.getElem_toArray, List.getElem_cons_succ, List.getElem_cons_zero, List.setIfInBounds_toArray, List.set_cons_zero, List.set_cons_succ]
  refine wpAnyH_take (i := 36) (v := .bool true) rfl (by kernel_rfl) (by kernel_rfl) (by kernel_rfl) (fun _ _ _ h => h) (Or.inl ⟨by rfl, fun w hSw => by clear hSw; go_simp⟩) (by assumption) ?_
  try simp only [Act.put, List.getElem_toArray, List.getElem_cons_succ, List.getElem_cons_zero, List.setIfInBounds_toArray, List.set_cons_zero, List.set_cons_succ]
  refine wpAnyH_take (i := 37) (v := .bool true) rfl (by kernel_rfl) (by kernel_rfl) (by kernel_rfl) (fun _ _ _ h => h) (Or.inl ⟨by rfl, fun w hSw => by clear hSw; go_simp⟩) (by assumption) ?_
  try simp only [Act.put, List.getElem_toArray, List.getElem_cons_succ, List.getElem_cons_zero, List.setIfInBounds_toArray, List.set_cons_zero, List.set_cons_succ]
  refine wpAnyH_take (i := 38) (v := .slice (some ⟨vb, vo, none⟩) 5 cv) rfl (by kernel_rfl) (by kernel_rfl) (by kernel_rfl) (fun _ _ _ h => h) (Or.inl ⟨by rfl, fun w hSw => by clear hSw; go_simp⟩) (by assumption) ?_
  try simp only [Act.put, List.getElem_toArray, List.getElem_cons_succ, List.getElem_cons_zero, List.setIfInBounds_toArray, List.set_cons_zero, List.set_cons_succ]
  refine wpAnyH_take (i := 39) (v := .pointer (some ⟨vb, vo + 15, none⟩)) rfl (by kernel_rfl) (by kernel_rfl) (by kernel_rfl) (fun _ _ _ h => h) (Or.inl ⟨by rfl, fun w hSw => by clear hSw; go_simp⟩) (by assumption) ?_
  try simp only [Act.put, List.getElem_toArray, List.getElem_cons_succ, List.getElem_cons_zero, List.setIfInBounds_toArray, List.set_cons_zero, List.set_cons_succ]
  refine wpAnyH_take (i := 40) (v := .agg #[.string ⟨#[]⟩, .slice none 0 0, .int .i64 0, .bool false, .int .i64 0]) rfl (by kernel_rfl) (by kernel_rfl) (by kernel_rfl) (fun _ _ _ h => h) (Or.inl ⟨by rfl, fun w hSw => by obtain ⟨s0, s1, s2, s3, s4, s5, s6, s7, s8, s9, s10, s11, s12, s13, s14, s15, s16, s17, s18, s19, s20, s21, s22, s23⟩ := hSw; go_simp⟩) (by assumption) ?_
  try simp only [Act.put, List.getElem_toArray, List.getElem_cons_succ, List.getElem_cons_zero, List.setIfInBounds_toArray, List.set_cons_zero, List.set_cons_succ]
  refine wpAnyH_take (i := 41) (v := .slice (some ⟨vb, vo, none⟩) 5 cv) rfl (by kernel_rfl) (by kernel_rfl) (by kernel_rfl) (fun _ _ _ h => h) (Or.inl ⟨by rfl, fun w hSw => by clear hSw; go_simp⟩) (by assumption) ?_
  try simp only [Act.put, List.getElem_toArray, List.getElem_cons_succ, List.getElem_cons_zero, List.setIfInBounds_toArray, List.set_cons_zero, List.set_cons_succ]
  refine wpAnyH_take (i := 42) (v := .pointer (some ⟨vb, vo + 20, none⟩)) rfl (by kernel_rfl) (by kernel_rfl) (by kernel_rfl) (fun _ _ _ h => h) (Or.inl ⟨by rfl, fun w hSw => by clear hSw; go_simp⟩) (by assumption) ?_
  try simp only [Act.put, List.getElem_toArray, List.getElem_cons_succ, List.getElem_cons_zero, List.setIfInBounds_toArray, List.set_cons_zero, List.set_cons_succ]
  refine wpAnyH_take (i := 43) (v := .agg #[.string ⟨#[]⟩, .slice none 0 0, .int .i64 0, .bool true, .int .i64 0]) rfl (by kernel_rfl) (by kernel_rfl) (by kernel_rfl) (fun _ _ _ h => h) (Or.inl ⟨by rfl, fun w hSw => by obtain ⟨s0, s1, s2, s3, s4, s5, s6, s7, s8, s9, s10, s11, s12, s13, s14, s15, s16, s17, s18, s19, s20, s21, s22, s23⟩ := hSw; go_simp⟩) (by assumption) ?_
  try simp only [Act.put, List.getElem_toArray, List.getElem_cons_succ, List.getElem_cons_zero, List.setIfInBounds_toArray, List.set_cons_zero, List.set_cons_succ]
  refine wpAnyH_ready (rs := [44]) (by kernel_rfl) (by simp) ?_
  refine AllReadyH.cons rfl (fun K hK => ?_) AllReadyH.nil
  go_simp
  go_at_call 44
  refine (HSn.out _).mono ?_
  rintro e w6 ⟨rfl, hb6⟩
  have hz6 : Below w4.heap.size w4 w6 := hz5.trans (hb6.mono hz5.size)
  refine hK.out _ _ (HK.out _ hz6) (fun hHeld => ?_)
  clear hK K
  try simp only [Act.put, List.getElem_toArray, List.getElem_cons_succ, List.getElem_cons_zero, List.setIfInBounds_toArray, List.set_cons_zero, List.set_cons_succ]
  refine wpAnyH_take (i := 45) (v := .bool true) rfl (by kernel_rfl) (by kernel_rfl) (by kernel_rfl) (fun _ _ _ h => h) (Or.inl ⟨by rfl, fun w hSw => by clear hSw; go_simp⟩) (by assumption) ?_
  try simp only [Act.put, List.getElem_toArray, List.getElem_cons_succ, List.getElem_cons_zero, List.setIfInBounds_toArray, List.set_cons_zero, List.set_cons_succ]
  refine wpAnyH_take (i := 46) (v := .bool true) rfl (by kernel_rfl) (by kernel_rfl) (by kernel_rfl) (fun _ _ _ h => h) (Or.inl ⟨by rfl, fun w hSw => by clear hSw; go_simp⟩) (by assumption) ?_
  try simp only [Act.put, List.getElem_toArray, List.getElem_cons_succ, List.getElem_cons_zero, List.setIfInBounds_toArray, List.set_cons_zero, List.set_cons_succ]
  refine wpAnyH_take (i := 47) (v := .bool true) rfl (by kernel_rfl) (by kernel_rfl) (by kernel_rfl) (fun _ _ _ h => h) (Or.inl ⟨by rfl, fun w hSw => by clear hSw; go_simp⟩) (by assumption) ?_
  try simp only [Act.put, List.getElem_toArray, List.getElem_cons_succ, List.getElem_cons_zero, List.setIfInBounds_toArray, List.set_cons_zero, List.set_cons_succ]
  refine wpAnyH_take (i := 48) (v := .pointer (some ⟨g, 0, none⟩)) rfl (by kernel_rfl) (by kernel_rfl) (by kernel_rfl) (fun _ _ _ h => h) (Or.inl ⟨by rfl, fun w hSw => by clear hSw; go_simp⟩) (by assumption) ?_
  try simp only [Act.put, List.getElem_toArray, List.getElem_cons_succ, List.getElem_cons_zero, List.setIfInBounds_toArray, List.set_cons_zero, List.set_cons_succ]
  refine wpAnyH_take (i := 49) (v := .agg #[.int .i64 9, .int .i64 0, .string ⟨#[]⟩, .string ⟨#[]⟩]) rfl (by kernel_rfl) (by kernel_rfl) (by kernel_rfl) (fun _ _ _ h => h) (Or.inl ⟨by rfl, fun w hSw => by clear hSw; go_simp⟩) (by assumption) ?_
  try simp only [Act.put, List.getElem_toArray, List.getElem_cons_succ, List.getElem_cons_zero, List.setIfInBounds_toArray, List.set_cons_zero, List.set_cons_succ]
  refine wpAnyH_ready (rs := [50]) (by kernel_rfl) (by simp) ?_
  refine AllReadyH.cons rfl (fun K hK => ?_) AllReadyH.nil
  go_simp
  go_at_call 85
  refine (HOd.out _).mono ?_
  rintro e w7 ⟨rfl, hb7⟩
  have hz7 : Below w4.heap.size w4 w7 := hz6.trans (hb7.mono hz6.size)
  refine hK.out _ _ (HK.out _ hz7) (fun hHeld => ?_)
  clear hK K
  try simp only [Act.put, List.getElem_toArray, List.getElem_cons_succ, List.getElem_cons_zero, List.setIfInBounds_toArray, List.set_cons_zero, List.set_cons_succ]
  refine wpAnyH_take (i := 51) (v := .int .i64 13) rfl (by kernel_rfl) (by kernel_rfl) (by kernel_rfl) (fun _ _ _ h => h) (Or.inl ⟨by rfl, fun w hSw => by clear hSw; go_simp; rw [show Sem.run Tryz.prog (Instr.field 99 (.agg #[.string ⟨#[]⟩, .slice none 0 0, .int .i64 0, .bool false, .int .i64 13]) 4) w = .ok (.int .i64 13) w from by kernel_rfl]; rfl⟩) (by assumption) ?_
  try simp only [Act.put, List.getElem_toArray, List.getElem_cons_succ, List.getElem_cons_zero, List.setIfInBounds_toArray, List.set_cons_zero, List.set_cons_succ]
  refine wpAnyH_take (i := 52) (v := .bool true) rfl (by kernel_rfl) (by kernel_rfl) (by kernel_rfl) (fun _ _ _ h => h) (Or.inl ⟨by rfl, fun w hSw => by clear hSw; go_simp⟩) (by assumption) ?_
  try simp only [Act.put, List.getElem_toArray, List.getElem_cons_succ, List.getElem_cons_zero, List.setIfInBounds_toArray, List.set_cons_zero, List.set_cons_succ]
  refine wpAnyH_take (i := 53) (v := .bool true) rfl (by kernel_rfl) (by kernel_rfl) (by kernel_rfl) (fun _ _ _ h => h) (Or.inl ⟨by rfl, fun w hSw => by clear hSw; go_simp⟩) (by assumption) ?_
  try simp only [Act.put, List.getElem_toArray, List.getElem_cons_succ, List.getElem_cons_zero, List.setIfInBounds_toArray, List.set_cons_zero, List.set_cons_succ]
  refine wpAnyH_take (i := 54) (v := .bool true) rfl (by kernel_rfl) (by kernel_rfl) (by kernel_rfl) (fun _ _ _ h => h) (Or.inl ⟨by rfl, fun w hSw => by clear hSw; go_simp⟩) (by assumption) ?_
  try simp only [Act.put, List.getElem_toArray, List.getElem_cons_succ, List.getElem_cons_zero, List.setIfInBounds_toArray, List.set_cons_zero]
  refine wpAnyH_done (by kernel_rfl) ?_ _
  have HB7 := Lib.hid (HB4.out.trans (hz7.mono HB4.out.size))
  clear hz5 hz6 hz7 hb5 hb6 hb7 hHeld
  go_wp2_with fail
  go_ret
  exact ⟨rfl, HB7.out⟩

end Go.Proofs.YtcelabojehaioaaGreatDoor
