import Derived.Test.YtklcklflnkbccaaGreatDoorG25
import Derived.Test.YtklcklflnkbccaaGreatDoorG41
import Derived.Test.YtklcklflnkbccaaGreatDoorG43
/- An index after Puts: its keys rise. Plain words alone, no program in sight. -/
namespace Go.Proofs.YtklcklflnkbccaaGreatDoor

/-- Keys stand as their nibbles do. -/
theorem nib_less {a b c d : UInt8} (ha : a.toNat < 16) (hb : b.toNat < 16) (hc : c.toNat < 16) (hd : d.toNat < 16) : (a * 16 + b < c * 16 + d) ↔ (a < c ∨ (a = c ∧ b < d)) := by
  have h1 : (a * 16 + b).toNat = a.toNat * 16 + b.toNat := by
    simp only [UInt8.toNat_add, UInt8.toNat_mul]
    have : (16 : UInt8).toNat = 16 := rfl
    rw [this]; omega
  have h2 : (c * 16 + d).toNat = c.toNat * 16 + d.toNat := by
    simp only [UInt8.toNat_add, UInt8.toNat_mul]
    have : (16 : UInt8).toNat = 16 := rfl
    rw [this]; omega
  rw [UInt8.lt_iff_toNat_lt, UInt8.lt_iff_toNat_lt, UInt8.lt_iff_toNat_lt, h1, h2, ← UInt8.toNat_inj]
  omega
theorem nib_same {a b c d : UInt8} (ha : a.toNat < 16) (hb : b.toNat < 16) (hc : c.toNat < 16) (hd : d.toNat < 16) : (a * 16 + b = c * 16 + d) ↔ (a = c ∧ b = d) := by
  constructor
  · intro h
    have h1 := nib_pair a b ha hb
    have h2 := nib_pair c d hc hd
    rw [h] at h1
    exact ⟨h1.1.symm.trans h2.1, h1.2.symm.trans h2.2⟩
  · rintro ⟨rfl, rfl⟩; rfl

theorem pairs_less : ∀ (a b : List UInt8), a.length % 2 = 0 → b.length % 2 = 0 → a.all isNib = true → b.all isNib = true → Op.bytesLess (pairs a) (pairs b) = Op.bytesLess a b
  | [], [], _, _, _, _ => rfl
  | [], [_], _, h, _, _ => by simp at h
  | [], _ :: _ :: _, _, _, _, _ => by simp [pairs, Op.bytesLess]
  | [_], _, h, _, _, _ => by simp at h
  | _ :: _ :: _, [], _, _, _, _ => by simp [pairs, Op.bytesLess]
  | _ :: _ :: _, [_], _, h, _, _ => by simp at h
  | x :: y :: a, z :: u :: b, h1, h2, h3, h4 => by
    simp only [List.all_cons, Bool.and_eq_true] at h3 h4
    have i1 : x.toNat < 16 := by simpa [isNib] using h3.1
    have i2 : y.toNat < 16 := by simpa [isNib] using h3.2.1
    have i3 : z.toNat < 16 := by simpa [isNib] using h4.1
    have i4 : u.toNat < 16 := by simpa [isNib] using h4.2.1
    have ih := pairs_less a b (by simp only [List.length_cons] at h1; omega) (by simp only [List.length_cons] at h2; omega) h3.2.2 h4.2.2
    have e1 := nib_less i1 i2 i3 i4
    have e2 := nib_same i1 i2 i3 i4
    rw [Bool.eq_iff_iff]
    simp only [pairs, Op.bytesLess, ih, Bool.or_eq_true, Bool.and_eq_true, decide_eq_true_eq, beq_iff_eq, e1, e2]
    constructor
    · rintro ((h | ⟨h, k⟩) | ⟨⟨h, k⟩, l⟩)
      · exact .inl h
      · exact .inr ⟨h, .inl k⟩
      · exact .inr ⟨h, .inr ⟨k, l⟩⟩
    · rintro (h | ⟨h, k | ⟨k, l⟩⟩)
      · exact .inl (.inl h)
      · exact .inl (.inr ⟨h, k⟩)
      · exact .inr ⟨⟨h, k⟩, l⟩

theorem nodup_sub_len {α : Type} [DecidableEq α] : ∀ (l1 l2 : List α), l1.Nodup → (∀ x ∈ l1, x ∈ l2) → l1.length ≤ l2.length
  | [], _, _, _ => by simp
  | a :: t, l2, hn, hs => by
    obtain ⟨h1, h2⟩ := List.nodup_cons.1 hn
    have ha := hs a (List.mem_cons_self ..)
    have ih := nodup_sub_len t (l2.erase a) h2 (fun x hx => (List.mem_erase_of_ne (fun e : x = a => h1 (by rw [← e]; exact hx))).2 (hs x (List.mem_cons_of_mem _ hx)))
    rw [List.length_erase_of_mem ha] at ih
    have := List.length_pos_of_mem ha
    rw [List.length_cons]
    omega

section
variable {L : Nat} {s : St} {items : List Kv}

theorem IxOk.up (h : IxOk L s items) : UpK items := by
  rcases h.tree with ⟨_, h2, _⟩ | ⟨_, _, T, _⟩
  · rw [h2]; exact List.Pairwise.nil
  · exact T.up h.ok
theorem upK_nodup {l : List Kv} (h : UpK l) : l.Nodup := h.imp fun {a b} hab e => by rw [e, bless_irrefl] at hab; cases hab

theorem keyOk_parts {k : List UInt8} (h : keyOk k = true) : k.length % 2 = 0 ∧ k.all isNib = true := by
  unfold keyOk at h
  rw [Bool.and_eq_true, decide_eq_true_eq] at h
  exact h

def kvIt (kv : Kv) : It := toIt (pairs kv.1, kv.2)
theorem bytes_list (l : List UInt8) : (⟨l.toArray⟩ : ByteArray).toList = l := by rw [ByteArray.toList_eq]
theorem kvIt_key (kv : Kv) : (kvIt kv).k.toList = pairs kv.1 := bytes_list _

/-- What All tells. -/
theorem all_ok (h : IxOk L s items) : allK s = some (items.map kvIt) := by
  obtain ⟨met, h1, _⟩ := survey_ok h
  unfold allK
  rw [h1]
  simp only [Option.map_some, List.map_map]
  rfl
theorem all_up (h : IxOk L s items) : Up (items.map kvIt) := by
  unfold Up
  rw [List.pairwise_map]
  refine h.up.imp_of_mem fun {a b} ha hb hab => ?_
  obtain ⟨a1, a2⟩ := keyOk_parts (h.even a ha)
  obtain ⟨b1, b2⟩ := keyOk_parts (h.even b hb)
  unfold lessK
  rw [kvIt_key, kvIt_key, pairs_less _ _ a1 b1 a2 b2]
  exact hab

theorem put_len {items' : List Kv} {k : List UInt8} {v : UInt64} (h' : UpK items') (hp : PutIs items items' k v) : items'.length ≤ items.length + 1 := by
  have := nodup_sub_len items' ((k, v) :: items) (upK_nodup h') (fun x hx => by
    rcases (hp x).1 hx with rfl | h
    · exact List.mem_cons_self ..
    · exact List.mem_cons_of_mem _ h.1)
  simpa using this

/-- A device that was formatted. -/
theorem st0_ok {sh : Sh} (hL : L ≤ 1024) (hs : shapeOf L = some sh) : IxOk L (st0 sh) [] := by
  have hok := shape_ok hs
  have htk : ∀ i, tkN (st0 sh) i = 0 := fun i => by
    unfold tkN st0
    simp only [List.getD_eq_getElem?_getD, List.getElem?_replicate]
    split <;> rfl
  have hhd : ∀ i, hdN (st0 sh) i = 0 := fun i => by
    unfold hdN st0
    simp only [List.getD_eq_getElem?_getD, List.getElem?_replicate]
    split <;> rfl
  have hws : ∀ i, 8 ≤ i → (st0 sh).ws i = 0 := fun i hi => by
    show putWs (fun _ => 0) 0 (wordsOf sh) i = 0
    unfold putWs
    rw [if_neg]
    simp [wordsOf, headW]
    omega
  have hnt : ∀ o d, ¬ TakenAt (st0 sh) o d := fun o d => by
    rintro ⟨i, a, _, ha, _⟩
    rw [htk, has_zero] at ha
    cases ha
  refine ⟨⟨hok, hL, by simp [st0], by simp [st0], fun i _ => .inl (htk i), fun i _ => .inl (hhd i), fun i _ => .inl (htk i), fun i a _ ha => ?_, fun i _ => ?_⟩, fun o d => ?_, .inl ⟨hws 9 (by decide), rfl, hnt⟩, fun _ h => by cases h⟩
  · rw [htk, has_zero] at ha; cases ha
  · rw [hws _ (by omega)]
    show _ = (List.replicate sh.slabs (0 : UInt64)).getD i 0
    simp only [List.getD_eq_getElem?_getD, List.getElem?_replicate]
    split <;> rfl
  · rintro ⟨i, a, _, ha, _⟩
    rw [hhd, has_zero] at ha
    cases ha

/-- Put, whatever the key and the value. -/
theorem putK_any (h : IxOk L s items) (key : List UInt8) (value : UInt64) : ∃ items', IxOk L (putK s key value).1 items' ∧ items'.length ≤ items.length + 1 := by
  by_cases h1 : 16 < key.length
  · refine ⟨items, ?_, by omega⟩
    unfold putK
    rw [if_pos h1]
    exact h
  · by_cases h2 : value = 0
    · refine ⟨items, ?_, by omega⟩
      unfold putK
      rw [if_neg h1, if_pos h2]
      exact h
    · rcases put_ok h key (by omega) value h2 with ⟨_, h3⟩ | ⟨_, items', h3, h4⟩
      · exact ⟨items, h3, by omega⟩
      · exact ⟨items', h3, put_len h3.up h4⟩

theorem puts_ok : ∀ (keys : List ByteArray) {s : St} {items : List Kv} (_ : IxOk L s items) (i : Nat), ∃ items', IxOk L (putsP s i keys) items' ∧ items'.length ≤ items.length + keys.length
  | [], _, items, h, _ => ⟨items, h, by simp⟩
  | k :: t, s, items, h, i => by
    obtain ⟨items1, h1, l1⟩ := putK_any h k.data.toList (UInt64.ofNat (i + 1))
    obtain ⟨items2, h2, l2⟩ := puts_ok t h1 (i + 1)
    exact ⟨items2, by rw [putsP]; exact h2, by rw [List.length_cons]; omega⟩

/-- The keys of a device on which some were put. -/
theorem begun_keys {sh : Sh} (hL : L ≤ 1024) (hs : shapeOf L = some sh) (keys : List ByteArray) : ∃ l, allK (putsP (st0 sh) 0 keys) = some l ∧ Up l ∧ l.length ≤ keys.length := by
  obtain ⟨items, h, hl⟩ := puts_ok keys (st0_ok hL hs) 0
  exact ⟨_, all_ok h, all_up h, by simpa using hl⟩
end

end Go.Proofs.YtklcklflnkbccaaGreatDoor

/- What WalkNext and WalkParts want of lists that rise. Plain words alone, no program in sight. -/
namespace Go.Proofs.YtklcklflnkbccaaGreatDoor

theorem nextG_iff (key : ByteArray) (x : It) : nextG key x = true ↔ Op.bytesLess key.toList x.k.toList = true := by
  unfold nextG
  rw [Bool.not_eq_true', Bool.or_eq_false_iff, beq_eq_false_iff_ne]
  constructor
  · rintro ⟨h1, h2⟩
    rcases bless_total _ _ h1 with h | h
    · exact h
    · exact absurd h h2
  · intro h
    refine ⟨?_, fun e => by rw [e, bless_irrefl] at h; cases h⟩
    cases h1 : Op.bytesLess x.k.toList key.toList
    · rfl
    · have := bless_trans _ _ _ h h1
      rw [bless_irrefl] at this; cases this
theorem nextG_congr {a b : ByteArray} (h : a.toList = b.toList) (l : List It) : keepG (nextG a) l = keepG (nextG b) l := by
  unfold keepG nextG
  rw [h]

theorem next_drop : ∀ (R : List It) (i : Nat) (h : i < R.length), Up R → keepG (nextG R[i].k) R = R.drop (i + 1)
  | x :: t, 0, _, hu => by
    obtain ⟨h1, h2⟩ := List.pairwise_cons.1 hu
    unfold keepG
    rw [List.filter_cons, if_neg (by
      rw [nextG_iff]
      simp only [List.getElem_cons_zero]
      rw [bless_irrefl]; simp)]
    show List.filter (nextG x.k) t = t
    exact List.filter_eq_self.2 (fun y hy => (nextG_iff _ _).2 (h1 y hy))
  | x :: t, i + 1, h, hu => by
    obtain ⟨h1, h2⟩ := List.pairwise_cons.1 hu
    have h' : i < t.length := by simpa using h
    have ih := next_drop t i h' h2
    unfold keepG at ih ⊢
    rw [List.filter_cons, if_neg (by
      rw [nextG_iff]
      simp only [List.getElem_cons_succ]
      intro h3
      have := bless_trans _ _ _ (h1 t[i] (List.getElem_mem h')) h3
      rw [bless_irrefl] at this; cases this)]
    simpa using ih

def noTo : ByteArray := ⟨#[]⟩
theorem noTo_list : (noTo.toList == []) = true := by decide +kernel
def fromR (from_ : ByteArray) (l : List It) : List It := keepG (rangeG from_ noTo) l
theorem fromR_mem {from_ : ByteArray} {l : List It} {x : It} : x ∈ fromR from_ l ↔ x ∈ l ∧ Op.bytesLess x.k.toList from_.toList = false := by
  unfold fromR keepG rangeG
  rw [List.mem_filter, noTo_list]
  simp
theorem fromR_up {from_ : ByteArray} {l : List It} (h : Up l) : Up (fromR from_ l) := List.Pairwise.filter _ h
theorem fromR_len (from_ : ByteArray) (l : List It) : (fromR from_ l).length ≤ l.length := List.length_filter_le _ _

/-- Behind a key that is not below from only those from from on stand. -/
theorem next_from {from_ key : ByteArray} {l : List It} (h : Op.bytesLess key.toList from_.toList = false) : keepG (nextG key) l = keepG (nextG key) (fromR from_ l) := by
  unfold fromR keepG
  rw [List.filter_filter]
  refine List.filter_congr fun x _ => ?_
  rw [Bool.eq_iff_iff, Bool.and_eq_true]
  constructor
  · intro hx
    refine ⟨hx, ?_⟩
    unfold rangeG
    rw [noTo_list, Bool.true_or, Bool.and_true, Bool.not_eq_true']
    have h1 := (nextG_iff _ _).1 hx
    cases h2 : Op.bytesLess x.k.toList from_.toList
    · rfl
    · have := bless_trans _ _ _ h1 h2
      rw [h] at this; cases this
  · exact fun h => h.1

theorem next_at {from_ : ByteArray} {l : List It} (hu : Up l) (i : Nat) (h : i < (fromR from_ l).length) : keepG (nextG (fromR from_ l)[i].k) l = (fromR from_ l).drop (i + 1) := by
  have hm := (fromR_mem.1 (List.getElem_mem h)).2
  rw [next_from hm]
  exact next_drop _ i h (fromR_up hu)
theorem next_first {from_ : ByteArray} {l : List It} (h0 : ∀ (h : 0 < (fromR from_ l).length), ((fromR from_ l)[0].k.toList == from_.toList) = false) (hu : Up l) : keepG (nextG from_) l = fromR from_ l := by
  rw [next_from (bless_irrefl _)]
  unfold keepG
  rw [List.filter_eq_self]
  intro x hx
  rw [nextG_iff]
  have hx2 := (fromR_mem.1 hx).2
  have hu' := fromR_up (from_ := from_) hu
  have hne : x.k.toList ≠ from_.toList := by
    obtain ⟨i, hi, rfl⟩ := List.getElem_of_mem hx
    intro e
    have h1 := h0 (by omega)
    rw [beq_eq_false_iff_ne] at h1
    rcases Nat.eq_zero_or_pos i with h2 | h2
    · subst h2; exact h1 e
    · have h3 : lessK (fromR from_ l)[0] (fromR from_ l)[i] = true := List.pairwise_iff_getElem.1 hu' 0 i (by omega) hi h2
      unfold lessK at h3
      rw [e] at h3
      have h4 := (fromR_mem.1 (List.getElem_mem (show 0 < (fromR from_ l).length by omega))).2
      rw [h4] at h3; cases h3
  rcases bless_total _ _ hx2 with h1 | h1
  · exact h1
  · exact absurd h1 hne

/-- Ranges that touch make one. -/
theorem range_parts {c0 c1 c2 : ByteArray} (h1 : c1.toList ≠ []) (h2 : c2.toList ≠ []) (h01 : Op.bytesLess c1.toList c0.toList = false) (h12 : Op.bytesLess c2.toList c1.toList = false) : ∀ (l : List It), Up l → keepG (rangeG c0 c1) l ++ keepG (rangeG c1 c2) l = keepG (rangeG c0 c2) l
  | [], _ => rfl
  | x :: t, hu => by
    obtain ⟨hx, ht⟩ := List.pairwise_cons.1 hu
    have ih := range_parts h1 h2 h01 h12 t ht
    have e1 : ∀ y : It, rangeG c0 c1 y = (!Op.bytesLess y.k.toList c0.toList && Op.bytesLess y.k.toList c1.toList) := fun y => by
      unfold rangeG; rw [beq_eq_false_iff_ne.2 h1, Bool.false_or]
    have e2 : ∀ c (y : It), rangeG c c2 y = (!Op.bytesLess y.k.toList c.toList && Op.bytesLess y.k.toList c2.toList) := fun c y => by
      unfold rangeG; rw [beq_eq_false_iff_ne.2 h2, Bool.false_or]
    cases hc1 : Op.bytesLess x.k.toList c1.toList with
    | true =>
      have hc2 : Op.bytesLess x.k.toList c2.toList = true := by
        rcases bless_total _ _ h12 with h | h
        · exact bless_trans _ _ _ hc1 h
        · rw [← h] at hc1; exact hc1
      unfold keepG at ih ⊢
      rw [List.filter_cons, List.filter_cons, List.filter_cons, e1, e2, e2, hc1, hc2]
      simp only [Bool.not_true, Bool.and_true, Bool.false_eq_true, if_false]
      split
      · rw [List.cons_append, ih]
      · exact ih
    | false =>
      have hge : ∀ y ∈ x :: t, Op.bytesLess y.k.toList c1.toList = false := fun y hy => by
        rcases List.mem_cons.1 hy with rfl | hy
        · exact hc1
        · cases h3 : Op.bytesLess y.k.toList c1.toList
          · rfl
          · have := bless_trans _ _ _ (hx y hy) h3
            rw [hc1] at this; cases this
      have hge0 : ∀ y ∈ x :: t, Op.bytesLess y.k.toList c0.toList = false := fun y hy => by
        have h3 := hge y hy
        cases h4 : Op.bytesLess y.k.toList c0.toList
        · rfl
        · rcases bless_total _ _ h01 with h | h
          · have := bless_trans _ _ _ h4 h
            rw [h3] at this; cases this
          · rw [← h] at h4; rw [h4] at h3; cases h3
      unfold keepG
      rw [List.filter_eq_nil_iff.2 (fun y hy => by rw [e1, hge y hy]; simp), List.nil_append]
      refine List.filter_congr fun y hy => ?_
      rw [e2, e2, hge y hy, hge0 y hy]

end Go.Proofs.YtklcklflnkbccaaGreatDoor

/- walk.Range where all fits: the row is the call's own. -/
namespace Go.Proofs.YtklcklflnkbccaaGreatDoor
open Go.RowKit

section
variable {w w' : World} {x d p L : Nat} {s : St} {F : Nat → Prop}

set_option maxHeartbeats 4000000 in
set_option maxRecDepth 100000 in
theorem range_own (h : Ix w x d p L s F) (from_ to : ByteArray) (n : Int) (l : List It) (hk : allK s = some l) (hn : (keepG (rangeG from_ to) l).length ≤ n.toNat) : Calls Tryz.prog 12 #[.pointer (some ⟨x, 0, none⟩), .string from_, .string to, .int .i64 n] w fun e w' => Below w.heap.size w w' ∧ ∃ v, e = .returned (.tuple #[v, .int .i64 0]) ∧ w'.ownsRow w.heap.size 35 2 v (keepG (rangeG from_ to) l).length (itCs (keepG (rangeG from_ to) l)) := by
  obtain ⟨w2, hw2⟩ : ∃ w2, w2 = (w.alloc (.cells #[.string from_] 9)).alloc (.cells #[.string to] 9) := ⟨_, rfl⟩
  have hb2 : Below w.heap.size w w2 := by
    have h1 : Below w.heap.size w (w.alloc (.cells #[.string from_] 9)) := (Below.refl _ _).alloc (Nat.le_refl _) _
    rw [hw2]; exact h1.alloc h1.size _
  have B2 : Blk w2 (w.heap.size + 1) 9 [.string to] := hw2 ▸ blk_two w _ _ _
  have B1 : Blk w2 w.heap.size 9 [.string from_] := by
    rw [hw2]
    exact (heap_alloc_old _ _ (by simp)).trans (heap_alloc_new _ _)
  have HAl := Lib.hid (allK_index (h.below hb2))
  have HB2 := Lib.hid hb2
  have HC1 := Lib.hid B1
  have HC2 := Lib.hid B2
  have HW2 := Lib.hid hw2
  clear h hb2 B1 B2 hw2
  go_enter Tryz.func12, Tryz.ntmps12
  go_wp2_with fail
  rw [← HW2.out]
  refine HAl.out.mono ?_
  rintro e w3 ⟨hb3, hp3⟩
  have HB3 := Lib.hid (HB2.out.trans (hb3.mono HB2.out.size))
  have HN := Lib.hid hn
  rw [hk] at hp3
  obtain ⟨A, c, rfl, hc, hr, hl⟩ := hp3
  have HKp := Lib.hid (keep_range from_ to w.heap.size (w.heap.size + 1) l A c w3 ((HC1.out.below hb3 HC1.out.lt).cell 0) ((HC2.out.below hb3 HC2.out.lt).cell 0) (by omega) hr)
  have HKs := Lib.hid hk
  clear hb3 HAl hk hr hn
  go_wp2_with fail
  refine HKp.out.mono ?_
  rintro e w4 ⟨v4, rfl, ho4, hb4⟩
  obtain ⟨A4, c4, rfl, hc4, hr4⟩ := own_itr ho4
  have HB4 := Lib.hid (HB3.out.trans (hb4.mono HB3.out.size))
  obtain ⟨m, hm⟩ : ∃ m, m = (keepG (rangeG from_ to) l).length := ⟨_, rfl⟩
  have hn := HN.out
  rw [← hm] at hc4 ho4 hn ⊢
  have HMm := Lib.hid hm
  have HO4 := Lib.hid (own_mono2 ho4 HB3.out.size)
  have HPo : Hid (∀ A' m', A' = A4 → m' = m → (Below w.heap.size w w4 ∧ ∃ v, (Ending.returned (.tuple #[.slice A' m' c4, .int .i64 0])) = .returned (.tuple #[v, .int .i64 0]) ∧ w4.ownsRow w.heap.size 35 2 v m (itCs (keepG (rangeG from_ to) l)))) := Lib.hid (fun A' m' e1 e2 => by
    subst e1 e2
    exact ⟨HB4.out, _, rfl, HO4.out⟩)
  clear ho4 hb4 hr4 HKp hm HN
  go_wp2_with fail
  all_goals (go_ret2)
  all_goals (rw [← HMm.out])
  all_goals (refine HPo.out _ _ rfl ?_)
  all_goals (clear HPo HKs HMm HO4)
  all_goals (by_cases hq : n < 0)
  all_goals first
    | omega
    | (simp only [hq, if_true, if_false] at *; omega)
    | (simp_all; omega)
end

end Go.Proofs.YtklcklflnkbccaaGreatDoor

/- Plain: what WalkNext's loop keeps. -/
namespace Go.Proofs.YtklcklflnkbccaaGreatDoor
open Go.RowKit

def WN (l : List It) (from_ at_ : ByteArray) (k : Nat) : Prop := (k = 0 ∧ at_ = from_) ∨ (0 < k ∧ keepG (nextG at_) l = (fromR from_ l).drop k)

theorem WN.zero (l : List It) (from_ : ByteArray) : WN l from_ from_ 0 := .inl ⟨rfl, rfl⟩

theorem WN.skip {l : List It} {from_ : ByteArray} (hu : Up l) (h : 0 < (fromR from_ l).length) (he : ((fromR from_ l)[0].k.toList == from_.toList) = true) : WN l from_ from_ 1 := by
  refine .inr ⟨Nat.one_pos, ?_⟩
  rw [nextG_congr (eq_of_beq he).symm l]
  exact next_at hu 0 h

theorem WN.rest {l : List It} {from_ at_ : ByteArray} {k : Nat} (hu : Up l) (h : WN l from_ at_ k) (h0 : k = 0 → ∀ (h : 0 < (fromR from_ l).length), ((fromR from_ l)[0].k.toList == from_.toList) = false) : keepG (nextG at_) l = (fromR from_ l).drop k := by
  rcases h with ⟨rfl, rfl⟩ | ⟨_, h⟩
  · rw [next_first (h0 rfl) hu]; rfl
  · exact h

theorem WN.next {l : List It} {from_ at_ : ByteArray} {k : Nat} (hu : Up l) (h : WN l from_ at_ k) (hk : k < (fromR from_ l).length) (h0 : k = 0 → ((fromR from_ l)[0].k.toList == from_.toList) = false) :
    nextV (some l) at_ = .tuple #[.agg #[.string (fromR from_ l)[k].k, .int .u64 ((fromR from_ l)[k].v.toNat : Int)], .int .i64 0] ∧ WN l from_ (fromR from_ l)[k].k (k + 1) := by
  have e := h.rest hu (fun e _ => h0 e)
  rw [List.drop_eq_getElem_cons hk] at e
  refine ⟨?_, .inr ⟨Nat.succ_pos _, next_at hu k hk⟩⟩
  unfold nextV
  simp only [e]

theorem WN.stop {l : List It} {from_ at_ : ByteArray} (hu : Up l) (h : WN l from_ at_ (fromR from_ l).length) : nextV (some l) at_ = .tuple #[.agg #[.string ⟨#[]⟩, .int .u64 0], .int .i64 7] := by
  have e := h.rest hu (fun e h => absurd h (by omega))
  rw [List.drop_length] at e
  unfold nextV
  simp only [e]

end Go.Proofs.YtklcklflnkbccaaGreatDoor

/- Law 11: few; the law WalkNext. -/
namespace Go.Proofs.YtklcklflnkbccaaGreatDoor
open Go.RowKit

def fewP (keys : List ByteArray) : Bool := (keys.all fun k => decide (k.size ≤ 40)) && decide (keys.length ≤ 60)

set_option maxHeartbeats 4000000 in
set_option maxRecDepth 100000 in
theorem few_any (keys : List ByteArray) (A : Option Addr) (c : Nat) (w : World) (hl : keys.length ≤ 9223372036854775807) (h : StrR w A keys) : Calls Tryz.prog 10 #[.slice A keys.length c] w fun e w' => e = .returned (.bool (fewP keys)) ∧ Dr w w' := by
  have HR := Lib.hid h
  clear h
  go_enter Tryz.func10, Tryz.ntmps10
  go_wp2_with fail
  go_loopw [7] (fun i wr => ∃ k : Nat, k ≤ keys.length ∧ i = .int .i64 (k : Nat) ∧ (∀ j (hj : j < keys.length), j < k → keys[j].size ≤ 40) ∧ Dr w wr) (fun i _ => keys.length - (intOf i).toNat)
  case atStart => exact ⟨0, Nat.zero_le _, rfl, fun j _ h => absurd h (by omega), Dr.refl _⟩
  case round =>
    obtain ⟨k, hkl, rfl, hall, hdr⟩ := hrel
    have HD := Lib.hid hdr
    have HS := Lib.hid hall
    clear hdr hall
    by_cases hlt : k < keys.length
    · have hx1 : (k : Int) < (keys.length : Int) := by omega
      have hx2 : decide ((k : Int) < (keys.length : Int)) = true := decide_eq_true hx1
      have hx5 : decide (k < keys.length) = true := decide_eq_true hlt
      obtain ⟨b, off, rfl, hbo, hcc⟩ := HR.out.2 (by omega)
      have q1 : wr.cell? ⟨b, off + k, none⟩ = some (.string keys[k]) := by
        rw [(HD.out.below w.heap.size).cell (p := ⟨b, off + k, none⟩) hbo, hcc k hlt, List.getElem?_map, List.getElem?_eq_getElem hlt]; rfl
      have hwk : IntKind.i64.wrap ((k : Int) + 1) = (k : Int) + 1 := wrap64 _ (by omega) (by omega)
      have HF : Hid (40 < keys[k].size → fewP keys = false) := Lib.hid (fun h => by
        unfold fewP
        rw [Bool.and_eq_false_iff]
        exact .inl (by
          rw [List.all_eq_false]
          exact ⟨_, List.getElem_mem hlt, by simpa using h⟩))
      have HN : Hid (keys[k].size ≤ 40 → ∀ j (hj : j < keys.length), j < k + 1 → keys[j].size ≤ 40) := Lib.hid (fun h j hj hjk => by
        by_cases e : j = k
        · subst e; exact h
        · exact HS.out j hj (by omega))
      clear hcc
      generalize keys[k] = key at *
      by_cases h40 : 40 < key.size
      · have t1 : decide ((40 : Int) < (key.size : Int)) = true := decide_eq_true (by omega)
        have HF' := Lib.hid (HF.out h40)
        clear HF HN
        go_wp2_with fail
        go_ret
        exact ⟨by rw [HF'.out]; rfl, HD.out⟩
      · have t1 : decide ((40 : Int) < (key.size : Int)) = false := decide_eq_false (by omega)
        have HN' := Lib.hid (HN.out (by omega))
        clear HF HN
        go_wp2_with fail
        go_roundw
        case rel => exact ⟨k + 1, by omega, by go_num, HN'.out, HD.out⟩
        case measure => simp [intOf]; omega
    · have hx1 : decide ((k : Int) < (keys.length : Int)) = false := decide_eq_false (by omega)
      have hx5 : decide (k < keys.length) = false := decide_eq_false hlt
      have HF : Hid (fewP keys = decide ((keys.length : Int) ≤ 60)) := Lib.hid (by
        unfold fewP
        rw [List.all_eq_true.2 (fun x hx => by
          obtain ⟨j, hj, rfl⟩ := List.getElem_of_mem hx
          exact decide_eq_true (HS.out j hj (by omega))), Bool.true_and]
        rw [Bool.eq_iff_iff, decide_eq_true_iff, decide_eq_true_iff]; omega)
      clear HS
      by_cases h60 : (keys.length : Int) ≤ 60
      · have t1 : decide ((keys.length : Int) ≤ 60) = true := decide_eq_true h60
        rw [t1] at HF
        go_wp2_with fail
        go_ret
        exact ⟨by rw [HF.out]; rfl, HD.out⟩
      · have t1 : decide ((keys.length : Int) ≤ 60) = false := decide_eq_false h60
        rw [t1] at HF
        go_wp2_with fail
        go_ret
        exact ⟨by rw [HF.out]; rfl, HD.out⟩

theorem fewP_parts {keys : List ByteArray} (h : fewP keys = true) : keys.length ≤ 60 ∧ ∀ k ∈ keys, k.size ≤ 40 := by
  unfold fewP at h
  rw [Bool.and_eq_true, List.all_eq_true] at h
  exact ⟨of_decide_eq_true h.2, fun k hk => of_decide_eq_true (h.1 k hk)⟩

theorem Tryz.eqItem (a b : ByteArray) (x y : Int) (w : World) : (Op.equalIn 10000 35 (.agg #[.string a, .int .u64 x]) (.agg #[.string b, .int .u64 y])).run Tryz.prog w = .ok (a.toList == b.toList && x == y) w := by
  have hS : Tryz.prog.underlying 35 = some (.struct (Tryz.prog.fieldsOf 35)) := by kernel_rfl
  rw [show (10000 : Nat) = 9999 + 1 from rfl]
  first
    | rw [run_equalIn_agg w 9999 35 _ _ hS (by kernel_rfl)]
    | rw [run_equalIn_agg w 9999 35 _ _ hS (fun w => by kernel_rfl)]
  have u9 := Tryz.underlying9
  have u31 := Tryz.underlying33
  simp only [Program.fieldsOf, Tryz.underlying35]
  go_simp
  by_cases h1 : a.toList = b.toList <;> by_cases h2 : x = y <;> simp [h1, h2]

end Go.Proofs.YtklcklflnkbccaaGreatDoor

/- Law 11: the law WalkNext. -/
namespace Go.Proofs.YtklcklflnkbccaaGreatDoor
open Go.RowKit

set_option maxHeartbeats 8000000 in
set_option maxRecDepth 100000 in
theorem walkNext_any (keys : List ByteArray) (A : Option Addr) (c : Nat) (from_ : ByteArray) (w : World) (hm : keys.length ≤ maxLen) (h : StrR w A keys) (hT : Tabs w) :
    Calls Tryz.prog 3 #[.slice A keys.length c, .string from_] w fun e w' => e = .returned (.bool true) ∧ Below w.heap.size w w' := by
  have HAl := Lib.hid (alive11 hT)
  have HR := Lib.hid h
  have HT := Lib.hid hT
  unfold maxLen at hm
  have HFw := Lib.hid (fun W (hW : Below w.heap.size w W) => few_any keys A c W (by omega) (h.below hW))
  clear hT h
  go_enter Tryz.func3, Tryz.ntmps3
  go_wp2_with fail
  refine HAl.out.mono ?_
  rintro e w1 ⟨rfl, hb1⟩
  have HB1 := Lib.hid hb1
  have HFw1 := Lib.hid (HFw.out w1 hb1)
  clear HAl hb1 HFw
  cases hfw : fewP keys with
  | false =>
    rw [hfw] at HFw1
    clear hfw
    go_wp2_with fail
    refine HFw1.out.mono ?_
    rintro e w2 ⟨rfl, hd2⟩
    have HB2 := Lib.hid (HB1.out.trans (hd2.below w.heap.size))
    clear HFw1 hd2
    go_wp2_with fail
    go_ret
    exact ⟨rfl, HB2.out⟩
  | true =>
    obtain ⟨hk60, hk40⟩ := fewP_parts hfw
    rw [hfw] at HFw1
    have HK40 := Lib.hid hk40
    clear hfw hk40
    by_cases h40 : 40 < from_.size
    · have t1 : decide ((40 : Int) < (from_.size : Int)) = true := decide_eq_true (by omega)
      go_wp2_with fail
      refine HFw1.out.mono ?_
      rintro e w2 ⟨rfl, hd2⟩
      have HB2 := Lib.hid (HB1.out.trans (hd2.below w.heap.size))
      clear HFw1 hd2
      go_wp2_with fail
      go_ret
      exact ⟨rfl, HB2.out⟩
    · have t1 : decide ((40 : Int) < (from_.size : Int)) = false := decide_eq_false (by omega)
      go_wp2_with fail
      refine HFw1.out.mono ?_
      rintro e w2 ⟨rfl, hd2⟩
      have hb2 := HB1.out.trans (hd2.below w.heap.size)
      have HB2 := Lib.hid hb2
      have HBg := Lib.hid (begun_any keys A c w2 (by omega) (fun k hk => Nat.le_trans (HK40.out k hk) (by decide)) (HT.out.below hb2) (HR.out.below hb2))
      clear HFw1 hd2 hb2 HT HR
      go_wp2_with fail
      refine HBg.out.mono ?_
      rintro e w3 ⟨x, d, p, F, Am, cm, rfl, _, _, hx3, _, hb3, _, _⟩
      have HB3 := Lib.hid (HB2.out.trans (hb3.mono HB2.out.size))
      obtain ⟨l, hal, hup, hll⟩ := begun_keys (L := 1000) (by decide) shape1000 keys
      have hrl := fromR_len from_ l
      have hRg := range_index hx3 from_ noTo 1000
      rw [hal] at hRg
      have e1 : (keepG (rangeG from_ noTo) l).take (1000 : Int).toNat = fromR from_ l := List.take_of_length_le (by
        have e2 : (keepG (rangeG from_ noTo) l).length = (fromR from_ l).length := rfl
        rw [e2]; have : (1000 : Int).toNat = 1000 := rfl; omega)
      rw [Option.map_some, e1] at hRg
      have HRg := Lib.hid hRg
      have HNx := Lib.hid (fun W (hW : Below w3.heap.size w3 W) (key : ByteArray) => next_index (hx3.below hW) key)
      have HUp := Lib.hid hup
      rw [hal] at HNx
      clear HBg hx3 hb3 hRg e1 hup hal
      unfold noTo at HRg
      go_wp2_with fail
      refine HRg.out.mono ?_
      rintro e w4 ⟨hb4, A4, c4, rfl, hc4, hr4⟩
      have HB4 := Lib.hid (HB3.out.trans (hb4.mono HB3.out.size))
      have HR4 := Lib.hid hr4
      have HBr := Lib.hid hb4
      have HLn : Hid ((fromR from_ l).length ≤ 60) := Lib.hid (by omega)
      obtain ⟨n, hn⟩ : ∃ n, n = (fromR from_ l).length := ⟨_, rfl⟩
      rw [← hn]
      have HN := Lib.hid hn
      clear HRg hb4 hr4 hn hrl hll hc4
      go_wp2_with fail
      go_loopw [9, 44] (fun at_ i wr => ∃ (k : Nat) (at' : ByteArray), k ≤ n ∧ i = .int .i64 (k : Nat) ∧ at_ = .string at' ∧ WN l from_ at' k ∧ Below w4.heap.size w4 wr) (fun _ i _ => n - (intOf i).toNat)
      case atStart => exact ⟨0, from_, Nat.zero_le _, rfl, rfl, WN.zero _ _, Below.refl _ _⟩
      case round =>
        obtain ⟨k, at', hkn, rfl, rfl, hwn, hbr⟩ := hrel
        have HWn := Lib.hid hwn
        have HBk := Lib.hid hbr
        clear hwn hbr
        have HNk := Lib.hid (HNx.out wr (HBr.out.trans (HBk.out.mono HBr.out.size)) at')
        by_cases hlt : k < n
        · have hkR : k < (fromR from_ l).length := by have := HN.out; omega
          obtain ⟨b, off, rfl, hbw, q1, q2⟩ := (HR4.out.below HBk.out).at k hkR
          have hx1 : (k : Int) < (n : Int) := by omega
          have hx2 : decide ((k : Int) < (n : Int)) = true := decide_eq_true hx1
          have hx5 : decide (k < n) = true := decide_eq_true hlt
          have hwk : IntKind.i64.wrap ((k : Int) + 1) = (k : Int) + 1 := wrap64 _ (by omega) (by have := HLn.out; have := HN.out; omega)
          obtain ⟨it, hit⟩ : ∃ it, (fromR from_ l)[k] = it := ⟨_, rfl⟩
          rw [hit] at q1 q2
          have HI := Lib.hid hit
          obtain ⟨w5, hw5⟩ : ∃ w5, w5 = wr.alloc (.cells #[.string it.k, .int .u64 (it.v.toNat : Int)] 35) := ⟨_, rfl⟩
          have hb5 : Below wr.heap.size wr w5 := hw5 ▸ (Below.refl _ _).alloc (Nat.le_refl _) _
          have B5 : Blk w5 wr.heap.size 35 [.string it.k, .int .u64 (it.v.toNat : Int)] := hw5 ▸ heap_alloc_new _ _
          have HB5 := Lib.hid (HBk.out.trans (hb5.mono HBk.out.size))
          have HK5 := Lib.hid B5
          have HNk5 := Lib.hid (HNx.out w5 (HBr.out.trans (HB5.out.mono HBr.out.size)) at')
          have HW5 := Lib.hid hw5
          have y0 := B5.cell 0
          have y1 := B5.cell 1
          simp only [List.getElem?_cons_zero, List.getElem?_cons_succ] at y0 y1
          rw [hw5] at y0 y1
          by_cases hsk : k = 0 ∧ (it.k.toList == from_.toList) = true
          · have t1 : ((k : Int) == 0) = true := by rw [beq_iff_eq]; omega
            have t2 := hsk.2
            have HY : Hid (at' = from_ ∧ WN l from_ from_ (k + 1)) := Lib.hid (by
              obtain ⟨rfl, he⟩ := hsk
              refine ⟨?_, WN.skip HUp.out hkR (by rw [hit]; exact he)⟩
              rcases HWn.out with ⟨_, h⟩ | ⟨h, _⟩
              · exact h
              · omega)
            rw [hw5] at HB5
            clear hsk hit hw5 hb5 B5 HNk5 HNk
            go_wp2_with fail
            go_roundw
            case rel => exact ⟨k + 1, at', by omega, by go_num, rfl, by rw [HY.out.1]; exact HY.out.2, HB5.out⟩
            case measure => simp [intOf]; omega
          · have HY := Lib.hid (HWn.out.next HUp.out hkR (fun h0 => by
              cases hq : ((fromR from_ l)[0].k.toList == from_.toList)
              · rfl
              · subst h0; exact absurd ⟨rfl, by rw [← hit]; exact hq⟩ hsk))
            rw [hit] at HY
            rw [HY.out.1] at HNk5
            have hm : Tryz.prog.eqGuardType Tryz.prog.depth 35 = false := by kernel_rfl
            have hq := fun W => Tryz.eqItem it.k it.k (it.v.toNat : Int) (it.v.toNat : Int) W
            have hqq : (it.k.toList == it.k.toList && (it.v.toNat : Int) == (it.v.toNat : Int)) = true := by simp
            rw [hqq] at hq
            have hcs : ((k : Int) == 0) = false ∨ (((k : Int) == 0) = true ∧ (it.k.toList == from_.toList) = false) := by
              by_cases h0 : k = 0
              · refine .inr ⟨by rw [beq_iff_eq]; omega, ?_⟩
                cases hq : (it.k.toList == from_.toList)
                · rfl
                · exact absurd ⟨h0, hq⟩ hsk
              · exact .inl (by rw [beq_eq_false_iff_ne]; omega)
            clear hsk hit hw5 hb5 B5 HNk hqq
            rcases hcs with t1 | ⟨t1, t2⟩
            all_goals (go_wp2_with fail)
            all_goals (rw [← HW5.out])
            all_goals (refine HNk5.out.mono ?_)
            all_goals (rintro e w6 ⟨rfl, hb6⟩)
            all_goals (have HB6 := Lib.hid (HB5.out.trans (hb6.mono HB5.out.size)))
            all_goals (have B6 := HK5.out.below hb6 HK5.out.lt)
            all_goals (obtain ⟨w7, hw7⟩ : ∃ w7, w7 = w6.alloc (.cells #[.string it.k, .int .u64 (it.v.toNat : Int)] 35) := ⟨_, rfl⟩)
            all_goals (have hb7 : Below w6.heap.size w6 w7 := hw7 ▸ (Below.refl _ _).alloc (Nat.le_refl _) _)
            all_goals (have HB7 := Lib.hid (HB6.out.trans (hb7.mono HB6.out.size)))
            all_goals (have B7 := B6.below hb7 B6.lt)
            all_goals (have y0 := B7.cell 0)
            all_goals (have y1 := B7.cell 1)
            all_goals (have C7 : Blk w7 w6.heap.size 35 [.string it.k, .int .u64 (it.v.toNat : Int)] := hw7 ▸ heap_alloc_new _ _)
            all_goals (have x0 := C7.cell 0)
            all_goals (have x1 := C7.cell 1)
            all_goals (simp only [List.getElem?_cons_zero, List.getElem?_cons_succ] at y0 y1 x0 x1)
            all_goals (rw [hw7] at y0 y1 x0 x1 HB7)
            all_goals (clear hb6 hb7 hw7 B6 B7 C7 HNk5)
            all_goals (go_wp2_with fail)
            all_goals (go_roundw)
            all_goals first
              | (case rel => exact ⟨k + 1, it.k, by omega, by go_num, rfl, HY.out.2, HB7.out⟩)
              | (case measure => simp [intOf]; omega)
        · have hke : k = n := by omega
          subst hke
          have hx1 : decide ((k : Int) < (k : Int)) = false := decide_eq_false (by omega)
          have HS := Lib.hid (WN.stop (at_ := at') HUp.out (by have := HWn.out; rw [HN.out] at this; exact this))
          rw [HS.out] at HNk
          go_wp2_with fail
          refine HNk.out.mono ?_
          rintro e w6 ⟨rfl, hb6⟩
          have HB6 := Lib.hid ((HB4.out.trans (HBk.out.mono HB4.out.size)).trans (hb6.mono (Nat.le_trans HB4.out.size HBk.out.size)))
          clear HNk hb6
          go_wp2_with fail
          go_ret
          exact ⟨rfl, HB6.out.alloc HB6.out.size _⟩

end Go.Proofs.YtklcklflnkbccaaGreatDoor
