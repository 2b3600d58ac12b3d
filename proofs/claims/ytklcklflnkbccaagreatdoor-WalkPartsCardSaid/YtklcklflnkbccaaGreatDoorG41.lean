import Derived.Test.YtklcklflnkbccaaGreatDoorG25
import Derived.Test.YtklcklflnkbccaaGreatDoorG26
import Derived.Test.YtklcklflnkbccaaGreatDoorG29
import Derived.Test.YtklcklflnkbccaaGreatDoorG40
/- Walks of law 11's begun. -/
namespace Go.Proofs.YtklcklflnkbccaaGreatDoor
open Go.RowKit

/-- Strings in memory. -/
def StrR (w : World) (A : Option Addr) (l : List ByteArray) : Prop := Rd w A l.length (l.map Value.string)

def putsP : St → Nat → List ByteArray → St
  | s, _, [] => s
  | s, i, k :: t => putsP (putK s k.data.toList (UInt64.ofNat (i + 1))).1 (i + 1) t
theorem putsP_app (k : ByteArray) : ∀ (l : List ByteArray) (s : St) (i : Nat), putsP s i (l ++ [k]) = (putK (putsP s i l) k.data.toList (UInt64.ofNat (i + l.length + 1))).1
  | [], s, i => rfl
  | a :: t, s, i => by
    rw [List.cons_append, putsP, putsP_app k t, putsP, List.length_cons, show i + 1 + t.length + 1 = i + (t.length + 1) + 1 by omega]
def putsR : List It → Nat → List ByteArray → List It
  | m, _, [] => m
  | m, i, k :: t => putsR (putR m k (UInt64.ofNat (i + 1))).1 (i + 1) t
theorem putsR_app (k : ByteArray) : ∀ (l : List ByteArray) (m : List It) (i : Nat), putsR m i (l ++ [k]) = (putR (putsR m i l) k (UInt64.ofNat (i + l.length + 1))).1
  | [], m, i => rfl
  | a :: t, m, i => by
    rw [List.cons_append, putsR, putsR_app k t, putsR, List.length_cons, show i + 1 + t.length + 1 = i + (t.length + 1) + 1 by omega]
theorem putsR_len : ∀ (l : List ByteArray) (m : List It) (i : Nat), (putsR m i l).length ≤ m.length + l.length
  | [], m, i => by simp [putsR]
  | k :: t, m, i => by
    have h1 := putsR_len t (putR m k (UInt64.ofNat (i + 1))).1 (i + 1)
    have h2 := putR_len m k (UInt64.ofNat (i + 1))
    rw [putsR, List.length_cons]
    omega

def sh1000 : Sh := { lines := 1000, slabs := 61, table := 128, data := 640 }
theorem shape1000 : shapeOf 1000 = some sh1000 := by decide +kernel
theorem survey_st0 (sh : Sh) : surveyP (st0 sh) = some ([], []) := by
  have h : (st0 sh).ws 9 = 0 := by
    show putWs (fun _ => 0) 0 (wordsOf sh) 9 = 0
    unfold putWs
    rw [if_neg]
    simp [wordsOf, headW]
  unfold surveyP
  rw [if_pos h]

theorem rdO_of_rd {w : World} {G : Nat → Prop} {A : Option Addr} {n : Nat} {xs : List Value} (h : Rd w A n xs) (hA : ∀ a, A = some a → ¬ G a.block) : RdO w G A n xs := ⟨h, fun _ a e => hA a e⟩

def BegunPost (L : Nat) (sh : Sh) (keys : List ByteArray) (w : World) (e : Ending) (w' : World) : Prop :=
  ∃ x d p F Am cm, e = .returned (.tuple #[.pointer (some ⟨x, 0, none⟩), .slice Am (putsR [] 0 keys).length cm]) ∧ (putsR [] 0 keys).length ≤ cm ∧ (Am = none → cm = 0) ∧ Ix w' x d p L (putsP (st0 sh) 0 keys) F ∧ RdO w' F Am (2 * (putsR [] 0 keys).length) (itCs (putsR [] 0 keys)) ∧ Below w.heap.size w w' ∧ (∀ b, F b → w.heap.size ≤ b) ∧ w.heap.size ≤ x

set_option maxHeartbeats 8000000 in
set_option maxRecDepth 100000 in
theorem begun_any (keys : List ByteArray) (A : Option Addr) (c : Nat) (w : World) (hl : keys.length ≤ 1000) (hk : ∀ k ∈ keys, k.size ≤ 1000) (hT : Tabs w) (h : StrR w A keys) : Calls Tryz.prog 11 #[.slice A keys.length c] w (BegunPost 1000 sh1000 keys w) := by
  have HB0 := Lib.hid (begin_pool (w := w) (L := 1000) (by decide) (by decide) shape1000 hT)
  have HR := Lib.hid h
  have HK := Lib.hid hk
  clear h hk hT
  go_enter Tryz.func11, Tryz.ntmps11
  go_wp2_with fail
  refine HB0.out.mono ?_
  rintro e w1 ⟨d, p, F, rfl, hs1, hb1, hF1⟩
  have HO := Lib.hid (open_index hs1)
  have HB1 := Lib.hid hb1
  have HF1 := Lib.hid hF1
  clear HB0 hs1 hb1 hF1
  go_wp2_with fail
  refine HO.out.mono ?_
  rintro e w2 ⟨hb2, hp2⟩
  rw [survey_st0] at hp2
  obtain ⟨x, rfl, hx2, hxw⟩ := hp2
  have HB2 := Lib.hid (HB1.out.trans (hb2.mono HB1.out.size))
  have HX2 := Lib.hid hx2
  have hxw' : w.heap.size ≤ x := Nat.le_trans HB1.out.size hxw
  clear HO hb2 hx2 hxw
  go_wp2_with fail
  go_loopw [8, 31] (fun m i wr => ∃ (k : Nat) (G : Nat → Prop) (Am : Option Addr) (cm : Nat), k ≤ keys.length ∧ i = .int .i64 (k : Nat) ∧ m = .slice Am (putsR [] 0 (keys.take k)).length cm ∧ (putsR [] 0 (keys.take k)).length ≤ cm ∧ (Am = none → cm = 0) ∧ Ix wr x d p 1000 (putsP (st0 sh1000) 0 (keys.take k)) G ∧ RdO wr G Am (2 * (putsR [] 0 (keys.take k)).length) (itCs (putsR [] 0 (keys.take k))) ∧ Below w.heap.size w wr ∧ ∀ b, G b → w.heap.size ≤ b) (fun _ i _ => keys.length - (intOf i).toNat)
  case atStart => exact ⟨0, F, none, 0, Nat.zero_le _, rfl, rfl, Nat.le_refl _, fun _ => rfl, HX2.out, RdO.nil, HB2.out, HF1.out⟩
  case round =>
    obtain ⟨k, G, Am, cm, hkl, rfl, rfl, hcm, hAm, hix, hrd, hbw, hG⟩ := hrel
    have HX := Lib.hid hix
    have HRd := Lib.hid hrd
    have HBw := Lib.hid hbw
    have HG := Lib.hid hG
    clear hix hrd hbw hG
    by_cases hlt : k < keys.length
    · have hx1 : (k : Int) < (keys.length : Int) := by omega
      have hx2 : decide ((k : Int) < (keys.length : Int)) = true := decide_eq_true hx1
      have hx5 : decide (k < keys.length) = true := decide_eq_true hlt
      obtain ⟨b, off, rfl, hbo, hcc⟩ := HR.out.2 (by omega)
      have q1 : wr.cell? ⟨b, off + k, none⟩ = some (.string keys[k]) := by
        rw [HBw.out.cell (p := ⟨b, off + k, none⟩) hbo, hcc k hlt, List.getElem?_map, List.getElem?_eq_getElem hlt]; rfl
      have hks := HK.out keys[k] (List.getElem_mem hlt)
      have HTP : Hid (putsP (st0 sh1000) 0 (keys.take (k + 1)) = (putK (putsP (st0 sh1000) 0 (keys.take k)) keys[k].data.toList (UInt64.ofNat (k + 1))).1) := Lib.hid (by
        rw [List.take_succ_eq_append_getElem hlt, putsP_app, List.length_take, Nat.min_eq_left (by omega), Nat.zero_add])
      have HTR : Hid (putsR [] 0 (keys.take (k + 1)) = (putR (putsR [] 0 (keys.take k)) keys[k] (UInt64.ofNat (k + 1))).1) := Lib.hid (by
        rw [List.take_succ_eq_append_getElem hlt, putsR_app, List.length_take, Nat.min_eq_left (by omega), Nat.zero_add])
      have hml : (putsR [] 0 (keys.take k)).length ≤ 1000 := by
        have := putsR_len (keys.take k) [] 0
        simp at this; omega
      have hwk : IntKind.i64.wrap ((k : Int) + 1) = (k : Int) + 1 := wrap64 _ (by omega) (by omega)
      have hu : ((UInt64.ofNat (k + 1)).toNat : Int) = (k : Int) + 1 := by rw [UInt64.toNat_ofNat']; omega
      have hcv : IntKind.u64.wrap ((k : Int) + 1) = (k : Int) + 1 := by rw [IntKind.wrap_u64]; omega
      generalize keys[k] = key at *
      have HPu := put_index HX.out key (by omega) (UInt64.ofNat (k + 1))
      rw [hu] at HPu
      have HPu := Lib.hid HPu
      generalize putsP (st0 sh1000) 0 (keys.take k) = S at *
      generalize putsR [] 0 (keys.take k) = M at *
      go_wp2_with fail
      refine HPu.out.mono ?_
      rintro e w3 ⟨rfl, F3, hx3, hm3⟩
      have HB3 := Lib.hid (HBw.out.trans (hm3.touch.below HBw.out.size HG.out))
      have hrd3 := HRd.out.moved hm3
      have hF3 : ∀ b, F3 b → w.heap.size ≤ b := fun b hb => (hm3.own b hb).elim (HG.out b) (fun h => Nat.le_trans HBw.out.size h)
      have HRf := putR_any M Am cm key (UInt64.ofNat (k + 1)) w3 (by omega) hcm hAm (by omega) hrd3.1
      rw [hu] at HRf
      have HRf := Lib.hid HRf
      have HX3 := Lib.hid hx3
      have HRd3 := Lib.hid hrd3
      have HF3 := Lib.hid hF3
      clear HPu hx3 hm3 hrd3 hF3 HX HRd HG HBw
      go_wp2_with fail
      refine HRf.out.mono ?_
      rintro e w4 ⟨A4, c4, rfl, hc4, hA4, hr4, hb4, ho4⟩
      have HB4 := Lib.hid (HB3.out.trans (hb4.mono HB3.out.size))
      have HX4 := Lib.hid (HX3.out.below hb4)
      have hlt3 := HX3.out.sys.lt
      have HRd4 : Hid (RdO w4 F3 A4 (2 * (putR M key (UInt64.ofNat (k + 1))).1.length) (itCs (putR M key (UInt64.ofNat (k + 1))).1)) := Lib.hid (by
        refine ⟨hr4, fun hn a ea hf => ?_⟩
        rcases ho4 with h5 | h5
        · rw [h5.2] at hn
          exact HRd3.out.2 hn a (h5.1 ▸ ea) hf
        · have := h5 a ea
          have := hlt3 _ hf
          omega)
      rw [← HTP.out] at HX4
      rw [← HTR.out] at hc4 HRd4 ⊢
      have hc4' := Lib.hid hc4
      clear HRf hr4 hb4 ho4 hlt3 HX3 HRd3 hc4
      go_wp2_with fail
      go_roundw
      case rel => exact ⟨k + 1, F3, A4, c4, by omega, by go_num, rfl, hc4'.out, hA4, HX4.out, HRd4.out, HB4.out, HF3.out⟩
      case measure => simp [intOf]; omega
    · have hx2 : decide ((k : Int) < (keys.length : Int)) = false := decide_eq_false (by omega)
      have hx5 : decide (k < keys.length) = false := decide_eq_false hlt
      have hkn : k = keys.length := by omega
      subst hkn
      rw [List.take_length] at hcm HX HRd ⊢
      go_wp2_with fail
      go_ret2
      exact ⟨x, d, p, G, Am, cm, rfl, hcm, hAm, HX.out, HRd.out, HBw.out, HG.out, hxw'⟩

end Go.Proofs.YtklcklflnkbccaaGreatDoor

/- Walks of law 11's alive. -/
namespace Go.Proofs.YtklcklflnkbccaaGreatDoor
open Go.RowKit

instance decIt : DecidableEq It := fun a b =>
  if h : a.k = b.k ∧ a.v = b.v then isTrue (by cases a; cases b; simp at h; simp [h]) else isFalse (fun e => h (by rw [e]; exact ⟨rfl, rfl⟩))

def i3a : It := ⟨⟨#[97]⟩, 1⟩
def i3b : It := ⟨⟨#[97, 98]⟩, 2⟩
def i3c : It := ⟨⟨#[98]⟩, 3⟩
def keys3 : List ByteArray := [⟨#[97]⟩, ⟨#[97, 98]⟩, ⟨#[98]⟩]

theorem eval3 : (surveyP (putsP (st0 sh1000) 0 keys3)).map (·.1) = some [([97], 1), ([97, 98], 2), ([98], 3)] := by decide +kernel
theorem all3 : allK (putsP (st0 sh1000) 0 keys3) = some [i3a, i3b, i3c] := by
  have h := congrArg (fun o => o.map (List.map toIt)) eval3
  simp only [Option.map_map, Option.map_some] at h
  exact h
theorem range3 : (keepG (rangeG ⟨#[97]⟩ ⟨#[98]⟩) [i3a, i3b, i3c]).take (9 : Int).toNat = [i3a, i3b] := by decide +kernel
theorem pref3 : keepG (prefG ⟨#[97]⟩) [i3a, i3b, i3c] = [i3a, i3b] := by decide +kernel
theorem next3 : keepG (nextG ⟨#[97, 98]⟩) [i3a, i3b, i3c] = [i3c] := by decide +kernel
theorem next3' : keepG (nextG ⟨#[98]⟩) [i3a, i3b, i3c] = [] := by decide +kernel

set_option maxHeartbeats 8000000 in
set_option maxRecDepth 100000 in
theorem alive11 {w : World} (hT : Tabs w) : Calls Tryz.prog 9 #[] w fun e w' => e = .returned (.bool true) ∧ Below w.heap.size w w' := by
  obtain ⟨w1, hw1⟩ : ∃ w1, w1 = w.alloc (.cells #[.string ⟨#[97]⟩, .string ⟨#[97, 98]⟩, .string ⟨#[98]⟩] 9) := ⟨_, rfl⟩
  have hb1 : Below w.heap.size w w1 := hw1 ▸ (Below.refl _ _).alloc (Nat.le_refl _) _
  have B1 : Blk w1 w.heap.size 9 [.string ⟨#[97]⟩, .string ⟨#[97, 98]⟩, .string ⟨#[98]⟩] := hw1 ▸ heap_alloc_new _ _
  have HBg := Lib.hid (begun_any keys3 (some ⟨w.heap.size, 0, none⟩) 3 w1 (by decide) (by decide) (hT.below hb1) B1.rd)
  have HB1 := Lib.hid hb1
  have HW1 := Lib.hid hw1
  clear hT hb1 B1 hw1
  go_enter Tryz.func9, Tryz.ntmps9
  go_wp2_with fail
  rw [← HW1.out]
  refine HBg.out.mono ?_
  rintro e w2 ⟨x, d, p, F, Am, cm, rfl, _, _, hx2, _, hb2, _, _⟩
  have HX2 := Lib.hid hx2
  have HB2 := Lib.hid (HB1.out.trans (hb2.mono HB1.out.size))
  have HRg := range_index hx2 ⟨#[97]⟩ ⟨#[98]⟩ 9
  rw [all3] at HRg
  simp only [Option.map_some, range3] at HRg
  have HRg := Lib.hid HRg
  clear HBg hx2 hb2
  generalize (putsR [] 0 keys3).length = lm at *
  go_wp2_with fail
  refine HRg.out.mono ?_
  rintro e w3 ⟨hb3, hp3⟩
  obtain ⟨A3, c3, he3, hc3, hr3⟩ := (hp3 : ∃ A c, e = .returned (.tuple #[.slice A [i3a, i3b].length c, .int .i64 0]) ∧ [i3a, i3b].length ≤ c ∧ ItR w3 A [i3a, i3b])
  rw [show [i3a, i3b].length = 2 from rfl] at he3
  subst he3
  have HX3 := Lib.hid (HX2.out.below hb3)
  have HR3 := Lib.hid hr3
  have HB3 := Lib.hid (HB2.out.trans (hb3.mono HB2.out.size))
  have HNx := next_index HX3.out ⟨#[97, 98]⟩
  rw [all3] at HNx
  have e3 : nextV (some [i3a, i3b, i3c]) ⟨#[97, 98]⟩ = .tuple #[.agg #[.string ⟨#[98]⟩, .int .u64 3], .int .i64 0] := by
    unfold nextV; simp only [next3]; rfl
  rw [e3] at HNx
  have HNx := Lib.hid HNx
  clear HRg hb3 hr3 HX2 e3
  go_wp2_with fail
  refine HNx.out.mono ?_
  rintro e w4 ⟨rfl, hb4⟩
  obtain ⟨w5, hw5⟩ : ∃ w5, w5 = w4.alloc (.cells #[.string ⟨#[98]⟩, .int .u64 3] 35) := ⟨_, rfl⟩
  have hb45 : Below w4.heap.size w4 w5 := hw5 ▸ (Below.refl _ _).alloc (Nat.le_refl _) _
  have B5 : Blk w5 w4.heap.size 35 [.string ⟨#[98]⟩, .int .u64 3] := hw5 ▸ heap_alloc_new _ _
  have hb35 : Below w3.heap.size w3 w5 := hb4.trans (hb45.mono hb4.size)
  have HX5 := Lib.hid (HX3.out.below hb35)
  have HR5 := Lib.hid (HR3.out.below hb35)
  have HB5 := Lib.hid (HB3.out.trans (hb35.mono HB3.out.size))
  have HK5 := Lib.hid B5
  have HN2 := next_index HX5.out ⟨#[98]⟩
  rw [all3] at HN2
  have e5 : nextV (some [i3a, i3b, i3c]) ⟨#[98]⟩ = .tuple #[.agg #[.string ⟨#[]⟩, .int .u64 0], .int .i64 7] := by
    unfold nextV; simp only [next3']
  rw [e5] at HN2
  have HN2 := Lib.hid HN2
  have HW5 := Lib.hid hw5
  clear HNx hb4 hb45 B5 hb35 HX3 HR3 hw5 e5
  go_wp2_with fail
  rw [← HW5.out]
  refine HN2.out.mono ?_
  rintro e w6 ⟨rfl, hb6⟩
  obtain ⟨w7, hw7⟩ : ∃ w7, w7 = w6.alloc (.cells #[.string ⟨#[]⟩, .int .u64 0] 35) := ⟨_, rfl⟩
  have hb67 : Below w6.heap.size w6 w7 := hw7 ▸ (Below.refl _ _).alloc (Nat.le_refl _) _
  have hb57 : Below w5.heap.size w5 w7 := hb6.trans (hb67.mono hb6.size)
  have HX7 := Lib.hid (HX5.out.below hb57)
  have HR7 := Lib.hid (HR5.out.below hb57)
  have HB7 := Lib.hid (HB5.out.trans (hb57.mono HB5.out.size))
  have HK7 := Lib.hid (HK5.out.below hb57 HK5.out.lt)
  have HPf := prefix_index HX7.out ⟨#[97]⟩
  rw [all3] at HPf
  simp only [Option.map_some, pref3] at HPf
  have HPf := Lib.hid HPf
  have HW7 := Lib.hid hw7
  clear HN2 hb6 hb67 hb57 hw7 HX5 HR5 HK5
  go_wp2_with fail
  rw [← HW7.out]
  refine HPf.out.mono ?_
  rintro e w8 ⟨hb8, hp8⟩
  obtain ⟨A8, c8, he8, hc8, hr8⟩ := (hp8 : ∃ A c, e = .returned (.tuple #[.slice A [i3a, i3b].length c, .int .i64 0]) ∧ [i3a, i3b].length ≤ c ∧ ItR w8 A [i3a, i3b])
  rw [show [i3a, i3b].length = 2 from rfl] at he8
  subst he8
  have HR8 := Lib.hid (HR7.out.below hb8)
  have HB8 := Lib.hid (HB7.out.trans (hb8.mono HB7.out.size))
  have HK8 := Lib.hid (HK7.out.below hb8 HK7.out.lt)
  have HNo := Lib.hid (range_nil (w := w8) ⟨#[]⟩ ⟨#[]⟩ 1)
  clear HPf hb8 hr8 HX7 HR7 HK7
  go_wp2_with fail
  refine HNo.out.mono ?_
  rintro e w9 ⟨rfl, hb9⟩
  obtain ⟨b, off, rfl, _, q1, _⟩ := (HR8.out.below hb9).at 1 (by decide)
  rw [show [i3a, i3b][1].k = ⟨#[97, 98]⟩ from rfl, Nat.one_mul] at q1
  have B9 := HK8.out.below hb9 HK8.out.lt
  have y0 := B9.cell 0
  simp only [List.getElem?_cons_zero] at y0
  have HB9 := Lib.hid (HB8.out.trans (hb9.mono HB8.out.size))
  clear HNo hb9 HR8 HK8 B9
  go_wp2_with fail
  go_ret
  exact ⟨rfl, HB9.out⟩

end Go.Proofs.YtklcklflnkbccaaGreatDoor

/- Walks of the reference's Get, and of the law WalkMerges. -/
namespace Go.Proofs.YtklcklflnkbccaaGreatDoor
open Go.RowKit


theorem same_refl (l : List It) (k : Nat) : sameK l l k := fun j _ _ _ => by unfold sameI; simp

theorem same_self {w : World} (a : List It) (A B : Option Addr) (c d : Nat) (hla : a.length ≤ 100000) (ha : ItR w A a) (hb : ItR w B a) : Calls Tryz.prog 14 #[.slice A a.length c, .slice B a.length d] w fun e w' => e = .returned (.bool true) ∧ Dr w w' := by
  refine (same_any a a A B c d w hla ha hb).mono ?_
  rintro e w' ⟨h | h, hd⟩
  · exact ⟨h.1, hd⟩
  · exact absurd ⟨rfl, same_refl a _⟩ h.2

/-- A row that a call hands back, as the next call takes it. -/
theorem own_slice {w : World} {base : Nat} {e : TypeId} {v : Value} {l : List It} (h : w.ownsRow base e 2 v l.length (itCs l)) : ∃ A c, v = .slice A l.length c ∧ l.length ≤ c ∧ ItR w A l := own_itrE h


end Go.Proofs.YtklcklflnkbccaaGreatDoor
