import Derived.Test.YtgdomldfjiobfaaGreatDoorG05
import Derived.Test.YtgdomldfjiobfaaGreatDoorG22
import Derived.Test.YtgdomldfjiobfaaGreatDoorG25
/- Walks of the reference: Find, Put. -/
namespace Go.Proofs.YtgdomldfjiobfaaGreatDoor
open Go.RowKit

set_option maxHeartbeats 4000000 in
set_option maxRecDepth 100000 in
theorem find_any (l : List It) (A : Option Addr) (c : Nat) (key : ByteArray) (w : World) (hl : l.length ≤ 100000) (h : ItR w A l) : Calls Tryz.prog 53 #[.slice A l.length c, .string key] w fun e w' => e = .returned (.tuple #[.int .i64 (findR l key : Nat), .bool (isR l key)]) ∧ Dr w w' := by
  have HR := Lib.hid h
  clear h
  go_enter Tryz.func53, Tryz.ntmps53
  go_wp2_with fail
  go_loopw [6] (fun i wr => ∃ k : Nat, k ≤ l.length ∧ i = .int .i64 (k : Nat) ∧ (∀ j (h : j < l.length), j < k → Op.bytesLess l[j].k.toList key.toList = true) ∧ Dr w wr) (fun i _ => l.length - (intOf i).toNat)
  case atStart => exact ⟨0, Nat.zero_le _, rfl, fun j _ h => absurd h (by omega), Dr.refl _⟩
  case round =>
    obtain ⟨k, hk, rfl, hls, hdr⟩ := hrel
    have HD := Lib.hid hdr
    have HL := Lib.hid hls
    clear hdr hls
    by_cases hlt : k < l.length
    · obtain ⟨b, off, rfl, _, q1, q2⟩ := (HR.out.below (HD.out.below _)).at k hlt
      have hx1 : (k : Int) < (l.length : Int) := by omega
      have hx2 : decide ((k : Int) < (l.length : Int)) = true := decide_eq_true hx1
      have hx5 : decide (k < l.length) = true := decide_eq_true hlt
      have hwk : IntKind.i64.wrap ((k : Int) + 1) = (k : Int) + 1 := wrap64 _ (by omega) (by omega)
      have HY : Hid (Op.bytesLess l[k].k.toList key.toList = true → ∀ j (h : j < l.length), j < k + 1 → Op.bytesLess l[j].k.toList key.toList = true) := Lib.hid (fun h j h1 hj => by
        by_cases e : j = k
        · subst e; exact h
        · exact HL.out j h1 (by omega))
      have HZ : Hid (Op.bytesLess l[k].k.toList key.toList = false → findR l key = k ∧ isR l key = (l[k].k.toList == key.toList)) := Lib.hid (fun h => findR_at hlt h HL.out)
      generalize l[k] = it at *
      cases hbl : Op.bytesLess it.k.toList key.toList with
      | true =>
        have HT := Lib.hid (HY.out hbl)
        clear HY HZ
        go_wp2_with fail
        try go_quiet (fail)
        try go_wp2_with fail
        go_roundw
        case rel => exact ⟨k + 1, by omega, by go_num, HT.out, by first | exact HD.out.trans (Dr.one _ _) | exact HD.out⟩
        case measure => simp [intOf]; omega
      | false =>
        have HT := Lib.hid (HZ.out hbl)
        clear HY HZ
        go_wp2_with fail
        go_quiet (fail)
        go_wp2_with fail
        go_ret2
        exact ⟨by rw [HT.out.1, HT.out.2]; rfl, by first | exact HD.out.trans (Dr.one _ _) | exact HD.out⟩
    · have hx1 : decide ((k : Int) < (l.length : Int)) = false := decide_eq_false (by omega)
      have hx5 : decide (k < l.length) = false := decide_eq_false hlt
      have HT := Lib.hid (findR_no (l := l) (key := key) (fun j h => HL.out j h (by omega)))
      go_wp2_with fail
      go_ret2
      exact ⟨by rw [HT.out.1, HT.out.2]; rfl, HD.out⟩

theorem ItR.drop {w : World} {b off c k : Nat} {P : Option Addr} {l : List It} (h : ItR w (some ⟨b, off, none⟩) l) (hc : l.length ≤ c) (hP : (c = k ∧ P = some ⟨b, off, none⟩) ∨ P = some ⟨b, off + k * 2, none⟩) : ItR w P (l.drop k) := by
  refine ⟨by rw [itCs_len], fun hn => ?_⟩
  rw [List.length_drop] at hn
  rcases hP with ⟨h1, _⟩ | rfl
  · omega
  · obtain ⟨b', off', e', hb, hcc⟩ := h.2 (by omega)
    injection e' with e'
    injection e' with e1 e2
    subst e1 e2
    refine ⟨_, _, rfl, hb, fun j hj => ?_⟩
    rw [List.length_drop] at hj
    have e : itCs l = itCs (l.take k) ++ itCs (l.drop k) := by
      unfold itCs
      rw [← List.flatten_append, ← List.map_append, List.take_append_drop]
    rw [Nat.add_assoc, hcc (k * 2 + j) (by omega), e, List.getElem?_append_right (by rw [itCs_len, List.length_take]; omega), itCs_len, List.length_take, Nat.min_eq_left (by omega)]
    congr 1
    omega
theorem itCs_app' (a b : List It) : itCs (a ++ b) = itCs a ++ itCs b := by simp [itCs]
theorem itCs_one (l : List It) : ∀ u ∈ itCs l, u.oneCell' = true := by
  intro u hu
  unfold itCs at hu
  obtain ⟨x, hx, hu⟩ := List.mem_flatten.1 hu
  obtain ⟨i, _, rfl⟩ := List.mem_map.1 hx
  simp [itC] at hu
  rcases hu with rfl | rfl <;> rfl

theorem own_itrE {w : World} {base : Nat} {e : TypeId} {v : Value} {l : List It} (h : w.ownsRow base e 2 v l.length (itCs l)) : ∃ A c, v = .slice A l.length c ∧ l.length ≤ c ∧ ItR w A l := by
  obtain ⟨A, c, e, hc, hr⟩ := own_rdk h
  exact ⟨A, c, e, hc, by unfold ItR; rw [Nat.mul_comm]; exact hr⟩

def PutRPost (r : List It × Int) (l : List It) (A : Option Addr) (w : World) (e : Ending) (w' : World) : Prop :=
  ∃ A' c', e = .returned (.tuple #[.slice A' r.1.length c', .int .i64 r.2]) ∧ r.1.length ≤ c' ∧ (A' = none → c' = 0) ∧ ItR w' A' r.1 ∧ Below w.heap.size w w' ∧ ((A' = A ∧ r.1 = l) ∨ ∀ a, A' = some a → w.heap.size ≤ a.block)

set_option maxHeartbeats 4000000 in
set_option maxRecDepth 100000 in
theorem putR_any (l : List It) (A : Option Addr) (c : Nat) (key : ByteArray) (v : UInt64) (w : World) (hl : l.length ≤ 100000) (hc : l.length ≤ c) (hA : A = none → c = 0) (hks : key.size ≤ 1000000) (h : ItR w A l) : Calls Tryz.prog 97 #[.slice A l.length c, .string key, .int .u64 (v.toNat : Int)] w (PutRPost (putR l key v) l A w) := by
  have HR := Lib.hid h
  by_cases h16 : 16 < key.size
  · have HP : Hid (putR l key v = (l, 3)) := Lib.hid (by unfold putR; rw [if_pos h16])
    have t1 : decide ((16 : Int) < (key.size : Int)) = true := decide_eq_true (by omega)
    clear h
    go_enter Tryz.func97, Tryz.ntmps97
    go_wp2_with fail
    go_ret2
    rw [HP.out]
    exact ⟨_, _, rfl, hc, hA, HR.out, Below.refl _ _, .inl ⟨rfl, rfl⟩⟩
  · have t1 : decide ((16 : Int) < (key.size : Int)) = false := decide_eq_false (by omega)
    by_cases hv0 : v.toNat = 0
    · have HP : Hid (putR l key v = (l, 2)) := Lib.hid (by unfold putR; rw [if_neg h16, if_pos hv0])
      have t2 : ((v.toNat : Int) == 0) = true := by rw [hv0]; rfl
      clear h
      go_enter Tryz.func97, Tryz.ntmps97
      go_wp2_with fail
      go_ret2
      rw [HP.out]
      exact ⟨_, _, rfl, hc, hA, HR.out, Below.refl _ _, .inl ⟨rfl, rfl⟩⟩
    · have t2 : ((v.toNat : Int) == 0) = false := by rw [beq_eq_false_iff_ne]; omega
      have HF := Lib.hid (find_any l A c key w hl h)
      obtain ⟨at_, hat⟩ := (⟨_, rfl⟩ : ∃ at_, findR l key = at_)
      obtain ⟨is_, his⟩ := (⟨_, rfl⟩ : ∃ is_, isR l key = is_)
      have hle : at_ ≤ l.length := hat ▸ findR_le l key
      have hlt : is_ = true → at_ < l.length := fun e => hat ▸ isR_lt (his.trans e)
      have HP : Hid (putR l key v = (l.take at_ ++ ⟨key, v⟩ :: l.drop (at_ + if is_ then 1 else 0), 0)) := Lib.hid (by unfold putR; rw [if_neg h16, if_neg hv0, hat, his])
      obtain ⟨to, hto⟩ : ∃ to, to = at_ + if is_ then 1 else 0 := ⟨_, rfl⟩
      have htl : to ≤ l.length := by
        rw [hto]
        cases is_ with
        | true => have := hlt rfl; simp; omega
        | false => simpa using hle
      rw [hat, his] at HF
      rw [← hto] at HP
      have hwa : is_ = true → IntKind.i64.wrap ((at_ : Int) + 1) = (to : Int) := fun e => by
        rw [hto, e]; exact (wrap64 _ (by omega) (by omega)).trans (by simp)
      have hwb : is_ = false → (at_ : Int) = (to : Int) := fun e => by rw [hto, e]; simp
      have hx1 : (at_ : Int) ≤ (c : Int) := by omega
      have hx2 : decide ((at_ : Int) ≤ (c : Int)) = true := decide_eq_true hx1
      have hx3 : decide (at_ ≤ c) = true := decide_eq_true (by omega)
      have hx4 : at_ ≤ c := by omega
      have hx5 : (0 : Int) ≤ (at_ : Int) := by omega
      have hy1 : (to : Int) ≤ (l.length : Int) := by omega
      have hy2 : decide ((to : Int) ≤ (l.length : Int)) = true := decide_eq_true hy1
      have hy3 : (l.length : Int) ≤ (c : Int) := by omega
      have hy4 : (0 : Int) ≤ (to : Int) := by omega
      have HTo := Lib.hid hto
      clear hat his hlt h hto
      have HDr : Hid (∀ (W : World), Below w.heap.size w W → ∀ P m, m = l.length - to → ((l.length = to) ∨ ∃ b off f, A = some ⟨b, off, f⟩ ∧ ((c = to ∧ P = A) ∨ P = some ⟨b, off + to * 2, f⟩)) → Rd W P (m * 2) (itCs (l.drop to))) := Lib.hid (fun W hW P m hm hP => by
        subst hm
        by_cases h0 : l.length - to = 0
        · rw [h0]
          refine ⟨by rw [itCs_len, List.length_drop, h0], fun hn => absurd hn (by omega)⟩
        · have hRW := HR.out.below hW
          obtain ⟨b, off, e, hb, hcc⟩ := hRW.2 (by omega)
          rcases hP with hP | ⟨b', off', f', e', hP⟩
          · omega
          · rw [e] at e'
            injection e' with e'
            injection e' with e1 e2 e3
            subst e1 e2 e3
            have := ItR.drop (k := to) (P := P) (e ▸ hRW) hc (hP.imp (fun h => ⟨h.1, h.2.trans e⟩) id)
            unfold ItR at this
            rw [List.length_drop, Nat.mul_comm] at this
            exact this)
      have HTk : Hid (∀ (W : World), Below w.heap.size w W → Rd W A (at_ * 2) (itCs (l.take at_))) := Lib.hid (fun W hW => by
        have := (HR.out.below hW).take at_
        unfold ItR at this
        rwa [List.length_take, Nat.min_eq_left hle, Nat.mul_comm] at this)
      have hone1 := itCs_one (l.take at_)
      have hone2 := itCs_one (l.drop to)
      go_enter Tryz.func97, Tryz.ntmps97
      go_wp2_with fail
      refine HF.out.mono ?_
      rintro e w1 ⟨rfl, hdr⟩
      clear HF
      have hb1 := hdr.below w.heap.size
      have hbn : Below w1.heap.size w1 (w1.alloc (.cells #[] 33)) := (Below.refl _ _).alloc (Nat.le_refl _) _
      have HB2 := Lib.hid (hb1.trans (hbn.mono hb1.size))
      have hO1 : Hid ((w1.alloc (.cells #[] 33)).ownsRow w.heap.size 33 2 (.slice (some ⟨w1.heap.size, 0, none⟩) 0 0) 0 []) := Lib.hid (by
        refine ⟨rfl, .inr ⟨w1.heap.size, 0, #[], rfl, hb1.size, heap_alloc_new _ _, Nat.le_refl _, by decide, rfl, rfl⟩⟩)
      clear hdr hbn hb1
      have hO5' : Hid (∀ (v5 : Value) (w5 : World), w5.ownsRow w.heap.size 33 2 v5 (at_ + 1 + (l.length - to)) (itCs (l.take at_) ++ [.string key, .int .u64 (v.toNat : Int)] ++ itCs (l.drop to)) → Below w.heap.size w w5 → PutRPost (putR l key v) l A w (.returned (.tuple #[v5, .int .i64 0])) w5) := Lib.hid (fun v5 w5 ho hb => by
        have e1 : at_ + 1 + (l.length - to) = (l.take at_ ++ ⟨key, v⟩ :: l.drop to).length := by
          simp only [List.length_append, List.length_take, List.length_cons, List.length_drop, Nat.min_eq_left hle]; omega
        have e2 : itCs (l.take at_) ++ [.string key, .int .u64 (v.toNat : Int)] ++ itCs (l.drop to) = itCs (l.take at_ ++ ⟨key, v⟩ :: l.drop to) := by
          rw [itCs_app', List.append_assoc]; rfl
        rw [e1, e2] at ho
        rw [HP.out]
        have hnew : ∀ a n c', v5 = .slice (some a) n c' → w.heap.size ≤ a.block := fun a n c' e => by
          rcases ho.2 with ⟨h1, h2⟩ | ⟨g, cap, cur, h1, h2, _⟩
          · rw [h1] at e; cases e
          · rw [h1] at e; injection e with e; injection e with e; rw [← e]; exact h2
        have hnil : ∀ n c', v5 = .slice none n c' → c' = 0 := fun n c' e => by
          rcases ho.2 with ⟨h1, h2⟩ | ⟨g, cap, cur, h1, h2, _⟩
          · rw [h1] at e; injection e with _ _ e; exact e.symm
          · rw [h1] at e; cases e
        obtain ⟨A5, c5, rfl, hc5, hr5⟩ := own_itrE ho
        exact ⟨A5, c5, rfl, hc5, fun e => hnil _ _ (by rw [e]), hr5, hb, .inr (fun a e => hnew a _ _ (by rw [e]))⟩)
      have HB0 := Lib.hid HP
      rcases A with _ | ⟨b, off, f⟩
      · obtain rfl : c = 0 := hA rfl
        have hl0 : l.length = 0 := by omega
        obtain rfl : l = [] := List.eq_nil_of_length_eq_zero hl0
        obtain rfl : at_ = 0 := by omega
        obtain rfl : to = 0 := by omega
        obtain rfl : is_ = false := by
          cases is_ with
          | false => rfl
          | true => have := HTo.out; simp at this
        clear HP hwa hwb hx1 hx2 hx3 hx4 hx5 hy1 hy2 hy3 hy4
        go_wp2_with (at_builtin; first
          | (refine wpList_app_rows rfl (.tmp 24) (.tmp 27) 22 rfl Tryz.refItemTyK (by decide) w.heap.size _ 0 [] rfl (by exact hO1.out) _ 0 _ (itCs []) rfl (by exact HTk.out _ HB2.out) hone1 (by omega) (by decide) (by exact HB2.out.size) ?_
             intro v2 w2 hO2 hB2 hK2
             rw [Nat.zero_add, List.nil_append] at hO2
             have HO2 := Lib.hid hO2
             have HB3 := Lib.hid (HB2.out.trans hB2)
             clear hO2 hB2 hK2)
          | (refine wpList_app_one rfl (.tmp 29) (.tmp 33) 22 rfl Tryz.refItemTyK _ w.heap.size v2 0 (itCs []) [.string key, .int .u64 (v.toNat : Int)] rfl (by exact HO2.out) rfl w2.heap.size 1 rfl rfl rfl (by decide) (by intro u hu; simp at hu; rcases hu with rfl | rfl <;> rfl) (by omega) (by decide) (by exact HB3.out.size) ?_
             intro g3 c3 w3 hO3 hB3 hK3 hg3
             have HO3 := Lib.hid hO3
             have HB4 := Lib.hid (HB3.out.trans hB3)
             clear hO3 hB3 hK3 hg3)
          | (refine wpList_app_rows rfl (.tmp 38) (.tmp 41) 22 rfl Tryz.refItemTyK (by decide) w.heap.size _ (0 + 1) _ rfl (by exact HO3.out) _ _ _ (itCs []) rfl (by exact HDr.out _ HB4.out _ _ (by rfl) (by first | exact .inl (by omega) | exact .inr ⟨_, _, _, rfl, by by_cases hq : c = to <;> simp [hq, Addr.add]⟩)) hone2 (by omega) (by decide) (by exact HB4.out.size) ?_
             intro v5 w5 hO5 hB5 hK5
             have HO5 := Lib.hid hO5
             have HB6 := Lib.hid (HB4.out.trans hB5)
             clear hO5 hB5 hK5))
        all_goals (go_ret2)
        all_goals (exact hO5'.out _ _ HO5.out HB6.out)
      · clear HP
        have hf : l.length = 0 ∨ f = none := by
          rcases Nat.eq_zero_or_pos l.length with h0 | h0
          · exact .inl h0
          · obtain ⟨b', off', e', _⟩ := HR.out.2 (by omega)
            injection e' with e'
            injection e' with _ _ e'
            exact .inr e'
        have HPf : Hid (∀ P, P = (if c = to then some (⟨b, off, f⟩ : Addr) else some (Addr.add ⟨b, off, f⟩ (to * 2))) → (l.length = to) ∨ ∃ b' off' f', (some (⟨b, off, f⟩ : Addr)) = some ⟨b', off', f'⟩ ∧ ((c = to ∧ P = some ⟨b, off, f⟩) ∨ P = some ⟨b', off' + to * 2, f'⟩)) := Lib.hid (fun P hP => by
          rcases hf with h0 | h0
          · exact .inl (by omega)
          · subst h0
            refine .inr ⟨b, off, none, rfl, ?_⟩
            subst hP
            by_cases hq : c = to
            · exact .inl ⟨hq, if_pos hq⟩
            · exact .inr (by rw [if_neg hq, Addr.add_lit]))
        clear hf
        cases is_ with
        | true =>
          have hwk := hwa rfl
          clear hwa hwb
          go_wp2_with (at_builtin; first
          | (refine wpList_app_rows rfl (.tmp 24) (.tmp 27) 22 rfl Tryz.refItemTyK (by decide) w.heap.size _ 0 [] rfl (by exact hO1.out) _ at_ _ (itCs (l.take at_)) rfl (by exact HTk.out _ HB2.out) hone1 (by omega) (by decide) (by exact HB2.out.size) ?_
             intro v2 w2 hO2 hB2 hK2
             rw [Nat.zero_add, List.nil_append] at hO2
             have HO2 := Lib.hid hO2
             have HB3 := Lib.hid (HB2.out.trans hB2)
             clear hO2 hB2 hK2)
          | (refine wpList_app_one rfl (.tmp 29) (.tmp 33) 22 rfl Tryz.refItemTyK _ w.heap.size v2 at_ (itCs (l.take at_)) [.string key, .int .u64 (v.toNat : Int)] rfl (by exact HO2.out) rfl w2.heap.size 1 rfl rfl rfl (by decide) (by intro u hu; simp at hu; rcases hu with rfl | rfl <;> rfl) (by omega) (by decide) (by exact HB3.out.size) ?_
             intro g3 c3 w3 hO3 hB3 hK3 hg3
             have HO3 := Lib.hid hO3
             have HB4 := Lib.hid (HB3.out.trans hB3)
             clear hO3 hB3 hK3 hg3)
          | (refine wpList_app_rows rfl (.tmp 38) (.tmp 41) 22 rfl Tryz.refItemTyK (by decide) w.heap.size _ (at_ + 1) _ rfl (by exact HO3.out) _ _ _ (itCs (l.drop to)) rfl (by exact HDr.out _ HB4.out _ _ rfl (HPf.out _ (by first | rfl | (by_cases hq : c = to <;> simp [hq])))) hone2 (by omega) (by decide) (by exact HB4.out.size) ?_
             intro v5 w5 hO5 hB5 hK5
             have HO5 := Lib.hid hO5
             have HB6 := Lib.hid (HB4.out.trans hB5)
             clear hO5 hB5 hK5))
          all_goals (go_ret2)
          all_goals (exact hO5'.out _ _ HO5.out HB6.out)
        | false =>
          obtain rfl : to = at_ := by have := hwb rfl; omega
          clear hwa hwb
          go_wp2_with (at_builtin; first
          | (refine wpList_app_rows rfl (.tmp 24) (.tmp 27) 22 rfl Tryz.refItemTyK (by decide) w.heap.size _ 0 [] rfl (by exact hO1.out) _ to _ (itCs (l.take to)) rfl (by exact HTk.out _ HB2.out) hone1 (by omega) (by decide) (by exact HB2.out.size) ?_
             intro v2 w2 hO2 hB2 hK2
             rw [Nat.zero_add, List.nil_append] at hO2
             have HO2 := Lib.hid hO2
             have HB3 := Lib.hid (HB2.out.trans hB2)
             clear hO2 hB2 hK2)
          | (refine wpList_app_one rfl (.tmp 29) (.tmp 33) 22 rfl Tryz.refItemTyK _ w.heap.size v2 to (itCs (l.take to)) [.string key, .int .u64 (v.toNat : Int)] rfl (by exact HO2.out) rfl w2.heap.size 1 rfl rfl rfl (by decide) (by intro u hu; simp at hu; rcases hu with rfl | rfl <;> rfl) (by omega) (by decide) (by exact HB3.out.size) ?_
             intro g3 c3 w3 hO3 hB3 hK3 hg3
             have HO3 := Lib.hid hO3
             have HB4 := Lib.hid (HB3.out.trans hB3)
             clear hO3 hB3 hK3 hg3)
          | (refine wpList_app_rows rfl (.tmp 38) (.tmp 41) 22 rfl Tryz.refItemTyK (by decide) w.heap.size _ (to + 1) _ rfl (by exact HO3.out) _ _ _ (itCs (l.drop to)) rfl (by exact HDr.out _ HB4.out _ _ rfl (HPf.out _ (by first | rfl | (by_cases hq : c = to <;> simp [hq])))) hone2 (by omega) (by decide) (by exact HB4.out.size) ?_
             intro v5 w5 hO5 hB5 hK5
             have HO5 := Lib.hid hO5
             have HB6 := Lib.hid (HB4.out.trans hB5)
             clear hO5 hB5 hK5))
          all_goals (go_ret2)
          all_goals (exact hO5'.out _ _ HO5.out HB6.out)

end Go.Proofs.YtgdomldfjiobfaaGreatDoor

/- Walks of the reference: Merge. Printed by genmref.py. -/
namespace Go.Proofs.YtgdomldfjiobfaaGreatDoor
open Go.RowKit

theorem keepW_cons (x : It) (l : List It) : keepW (x :: l) = if liveI x then x :: keepW l else keepW l := by
  unfold keepW
  rw [List.filter_cons]

def MrefAt (a b : List It) (w : World) (u5 i6 k7 : Value) (wr : World) : Prop := ∃ (i k : Nat) (out : List It), i6 = .int .i64 (i : Nat) ∧ k7 = .int .i64 (k : Nat) ∧ i ≤ a.length ∧ k ≤ b.length ∧ wr.ownsRow w.heap.size 33 2 u5 out.length (itCs out) ∧ out ++ keepW (mergeW (a.drop i) (b.drop k)) = keepW (mergeW a b) ∧ out.length ≤ i + k ∧ Below w.heap.size w wr

set_option maxHeartbeats 16000000 in
set_option maxRecDepth 100000 in
theorem mref_any (a b : List It) (A B : Option Addr) (ca cb : Nat) (w : World) (hla : a.length ≤ 200) (hlb : b.length ≤ 200) (ha : ItR w A a) (hb : ItR w B b) :
    Calls Tryz.prog 17 #[.slice A a.length ca, .slice B b.length cb] w fun e w' => ∃ v, e = .returned v ∧ w'.ownsRow w.heap.size 33 2 v (keepW (mergeW a b)).length (itCs (keepW (mergeW a b))) ∧ Below w.heap.size w w' := by
  have HA := Lib.hid ha
  have HB := Lib.hid hb
  clear ha hb
  obtain ⟨na, hna⟩ : ∃ n, n = a.length := ⟨_, rfl⟩
  obtain ⟨nb, hnb⟩ : ∃ n, n = b.length := ⟨_, rfl⟩
  rw [← hna] at hla ⊢
  rw [← hnb] at hlb ⊢
  have Hna := Lib.hid hna
  have Hnb := Lib.hid hnb
  clear hna hnb
  go_enter Tryz.func17, Tryz.ntmps17
  go_wp2_with fail
  go_loopw [5, 6, 7] (fun u5 i6 k7 wr => MrefAt a b w u5 i6 k7 wr) (fun _ i k _ => na + nb - ((intOf i).toNat + (intOf k).toNat))
  case atStart => exact ⟨0, 0, [], rfl, rfl, Nat.zero_le _, Nat.zero_le _, World.ownsRow_nil _ _ _ _, rfl, Nat.le_refl _, Below.refl _ _⟩
  case round =>
    obtain ⟨i, k, out, rfl, rfl, hi, hk, hown, hmg, hol, hbw⟩ := hrel
    rw [← Hna.out] at hi
    rw [← Hnb.out] at hk
    have HO := Lib.hid hown
    have HM := Lib.hid hmg
    have HBw := Lib.hid hbw
    clear hown hmg hbw
    have hwi : IntKind.i64.wrap ((i : Int) + 1) = (i : Int) + 1 := wrap64 _ (by omega) (by omega)
    have hwk : IntKind.i64.wrap ((k : Int) + 1) = (k : Int) + 1 := wrap64 _ (by omega) (by omega)
    by_cases hia : i < na
    · by_cases hkb : k < nb
      · have p1 : (i : Int) < (na : Int) := by omega
        have p2 : decide ((i : Int) < (na : Int)) = true := decide_eq_true p1
        have p3 : decide (i < na) = true := decide_eq_true (by omega)
        have p4 : ((i : Int) == (na : Int)) = false := by rw [beq_eq_false_iff_ne]; omega
        have q1 : (k : Int) < (nb : Int) := by omega
        have q2 : decide ((k : Int) < (nb : Int)) = true := decide_eq_true q1
        have q3 : decide (k < nb) = true := decide_eq_true (by omega)
        have q4 : ((k : Int) == (nb : Int)) = false := by rw [beq_eq_false_iff_ne]; omega
        have aL : i < a.length := by have := Hna.out; omega
        obtain ⟨ab, ao, ae, _, p5, p6⟩ := (HA.out.below HBw.out).at i aL
        have aD : Hid (a.drop i = a[i] :: a.drop (i + 1)) := Lib.hid (List.drop_eq_getElem_cons aL)
        generalize a[i] = x at *
        have bL : k < b.length := by have := Hnb.out; omega
        obtain ⟨bb, bo, be, _, q5, q6⟩ := (HB.out.below HBw.out).at k bL
        have bD : Hid (b.drop k = b[k] :: b.drop (k + 1)) := Lib.hid (List.drop_eq_getElem_cons bL)
        generalize b[k] = y at *
        subst ae be
        cases hls : lessK x y with
        | true =>
          have hls1 : Op.bytesLess x.k.toList y.k.toList = true := hls
          have HM2 : Hid (out ++ keepW (x :: mergeW (a.drop (i + 1)) (b.drop k)) = keepW (mergeW a b)) := Lib.hid (by have h := HM.out; rw [aD.out, bD.out, mergeW, if_pos hls, ← bD.out] at h; exact h)
          have HW : Hid (∀ n, ((((wr.alloc (.cells #[.string ⟨#[]⟩, .int .u64 0] 33)).drewN n).setCell ⟨wr.heap.size, 0, none⟩ (.string x.k)).setCell ⟨wr.heap.size, 1, none⟩ (.int .u64 (x.v.toNat : Int))).ownsRow w.heap.size 33 2 u5 out.length (itCs out) ∧ Below w.heap.size w ((((wr.alloc (.cells #[.string ⟨#[]⟩, .int .u64 0] 33)).drewN n).setCell ⟨wr.heap.size, 0, none⟩ (.string x.k)).setCell ⟨wr.heap.size, 1, none⟩ (.int .u64 (x.v.toNat : Int)))) := Lib.hid (fun n => by
            have hb : Below wr.heap.size wr ((((wr.alloc (.cells #[.string ⟨#[]⟩, .int .u64 0] 33)).drewN n).setCell ⟨wr.heap.size, 0, none⟩ (.string x.k)).setCell ⟨wr.heap.size, 1, none⟩ (.int .u64 (x.v.toNat : Int))) := ((((Below.refl _ _).alloc (Nat.le_refl _) _).trans ((Dr.one _ n).below _)).setCell (p := ⟨wr.heap.size, 0, none⟩) (Nat.le_refl _) _).setCell (p := ⟨wr.heap.size, 1, none⟩) (Nat.le_refl _) _
            refine ⟨own_stay HO.out (Kept.of_below (r := none) hb) ?_, HBw.out.trans (hb.mono HBw.out.size)⟩
            rcases HO.out.2 with ⟨h1, _⟩ | ⟨g, cap, cur, h1, _⟩
            · exact .inr (by subst h1; rfl)
            · exact .inl (by subst h1; exact fun e => nomatch e))
          have tlv : ((x.v.toNat : Int) != 0) = liveI x := by
            unfold liveI; rw [Bool.eq_iff_iff, bne_iff_ne, bne_iff_ne]; omega
          have HK := Lib.hid (keepW_cons x (mergeW (a.drop (i + 1)) (b.drop k)))
          clear HM
          cases hlv : liveI x with
          | true =>
            rw [hlv] at tlv
            rw [hlv, if_pos rfl] at HK
            clear hlv
            go_wp2_with fail
            go_quiet (fail)
            go_wp2_with (at_builtin; refine wpList_app_one rfl (.tmp 84) (.tmp 86) 22 rfl Tryz.refItemTyK _ w.heap.size u5 out.length (itCs out) [.string x.k, .int .u64 (x.v.toNat : Int)] rfl (by exact (HW.out _).1) rfl (wr.heap.size + 1) 1 rfl (by simp) rfl (by decide) (by intro u hu; simp at hu; rcases hu with rfl | rfl <;> rfl) (by omega) (by decide) (by exact (HW.out _).2.size) ?_; intro g6 c6 w6 hO6 hB6 hK6 hg6)
            have HO6 := Lib.hid hO6
            have HB6 : Hid (Below w.heap.size w w6) := Lib.hid ((HW.out _).2.trans hB6)
            clear hO6 hB6 hK6 hg6
            go_wp2_with fail
            go_roundw
            case rel => exact ⟨(i + 1), k, out ++ [x], by go_num, by go_num, by have := Hna.out; omega, by have := Hnb.out; omega, by rw [List.length_append, itCs_app]; exact HO6.out, by rw [← HM2.out, HK.out]; simp, by simp; omega, HB6.out⟩
            case measure => first | (simp [intOf]; omega) | (simp only [intOf]; omega)
          | false =>
            rw [hlv] at tlv
            rw [hlv] at HK
            clear hlv
            go_wp2_with fail
            go_quiet (fail)
            go_wp2_with fail
            go_roundw
            case rel => exact ⟨(i + 1), k, out, by go_num, by go_num, by have := Hna.out; omega, by have := Hnb.out; omega, by exact (HW.out _).1, by rw [← HM2.out, HK.out]; simp, by omega, by exact (HW.out _).2⟩
            case measure => first | (simp [intOf]; omega) | (simp only [intOf]; omega)
        | false =>
          have hls1 : Op.bytesLess x.k.toList y.k.toList = false := hls
          cases hlt : lessK y x with
          | true =>
            have hls2 : Op.bytesLess y.k.toList x.k.toList = true := hlt
            have heq : eqK x y = false := by cases h : eqK x y with | false => rfl | true => (have := (lessK_congr (c := x) h).1; rw [lessK_irrefl, hlt] at this; cases this)
            have HM2 : Hid (out ++ keepW (y :: mergeW (a.drop i) (b.drop (k + 1))) = keepW (mergeW a b)) := Lib.hid (by have h := HM.out; rw [aD.out, bD.out, mergeW, if_neg (by rw [hls]; exact Bool.false_ne_true), if_neg (by rw [heq]; exact Bool.false_ne_true), ← aD.out] at h; exact h)
            have HW : Hid (∀ n, ((((wr.alloc (.cells #[.string ⟨#[]⟩, .int .u64 0] 33)).drewN n).setCell ⟨wr.heap.size, 0, none⟩ (.string y.k)).setCell ⟨wr.heap.size, 1, none⟩ (.int .u64 (y.v.toNat : Int))).ownsRow w.heap.size 33 2 u5 out.length (itCs out) ∧ Below w.heap.size w ((((wr.alloc (.cells #[.string ⟨#[]⟩, .int .u64 0] 33)).drewN n).setCell ⟨wr.heap.size, 0, none⟩ (.string y.k)).setCell ⟨wr.heap.size, 1, none⟩ (.int .u64 (y.v.toNat : Int)))) := Lib.hid (fun n => by
              have hb : Below wr.heap.size wr ((((wr.alloc (.cells #[.string ⟨#[]⟩, .int .u64 0] 33)).drewN n).setCell ⟨wr.heap.size, 0, none⟩ (.string y.k)).setCell ⟨wr.heap.size, 1, none⟩ (.int .u64 (y.v.toNat : Int))) := ((((Below.refl _ _).alloc (Nat.le_refl _) _).trans ((Dr.one _ n).below _)).setCell (p := ⟨wr.heap.size, 0, none⟩) (Nat.le_refl _) _).setCell (p := ⟨wr.heap.size, 1, none⟩) (Nat.le_refl _) _
              refine ⟨own_stay HO.out (Kept.of_below (r := none) hb) ?_, HBw.out.trans (hb.mono HBw.out.size)⟩
              rcases HO.out.2 with ⟨h1, _⟩ | ⟨g, cap, cur, h1, _⟩
              · exact .inr (by subst h1; rfl)
              · exact .inl (by subst h1; exact fun e => nomatch e))
            have tlv : ((y.v.toNat : Int) != 0) = liveI y := by
              unfold liveI; rw [Bool.eq_iff_iff, bne_iff_ne, bne_iff_ne]; omega
            have HK := Lib.hid (keepW_cons y (mergeW (a.drop i) (b.drop (k + 1))))
            clear HM
            cases hlv : liveI y with
            | true =>
              rw [hlv] at tlv
              rw [hlv, if_pos rfl] at HK
              clear hlv
              go_wp2_with fail
              go_quiet (fail)
              go_wp2_with fail
              go_quiet (fail)
              go_wp2_with (at_builtin; refine wpList_app_one rfl (.tmp 84) (.tmp 86) 22 rfl Tryz.refItemTyK _ w.heap.size u5 out.length (itCs out) [.string y.k, .int .u64 (y.v.toNat : Int)] rfl (by exact (HW.out _).1) rfl (wr.heap.size + 1) 1 rfl (by simp) rfl (by decide) (by intro u hu; simp at hu; rcases hu with rfl | rfl <;> rfl) (by omega) (by decide) (by exact (HW.out _).2.size) ?_; intro g6 c6 w6 hO6 hB6 hK6 hg6)
              have HO6 := Lib.hid hO6
              have HB6 : Hid (Below w.heap.size w w6) := Lib.hid ((HW.out _).2.trans hB6)
              clear hO6 hB6 hK6 hg6
              go_wp2_with fail
              go_roundw
              case rel => exact ⟨i, (k + 1), out ++ [y], by go_num, by go_num, by have := Hna.out; omega, by have := Hnb.out; omega, by rw [List.length_append, itCs_app]; exact HO6.out, by rw [← HM2.out, HK.out]; simp, by simp; omega, HB6.out⟩
              case measure => first | (simp [intOf]; omega) | (simp only [intOf]; omega)
            | false =>
              rw [hlv] at tlv
              rw [hlv] at HK
              clear hlv
              go_wp2_with fail
              go_quiet (fail)
              go_wp2_with fail
              go_quiet (fail)
              go_wp2_with fail
              go_roundw
              case rel => exact ⟨i, (k + 1), out, by go_num, by go_num, by have := Hna.out; omega, by have := Hnb.out; omega, by exact (HW.out _).1, by rw [← HM2.out, HK.out]; simp, by omega, by exact (HW.out _).2⟩
              case measure => first | (simp [intOf]; omega) | (simp only [intOf]; omega)
          | false =>
            have hls2 : Op.bytesLess y.k.toList x.k.toList = false := hlt
            have heq : eqK x y = true := by cases h : eqK x y with | true => rfl | false => (have := lessK_not hls h; rw [hlt] at this; cases this)
            have HM2 : Hid (out ++ keepW (y :: mergeW (a.drop (i + 1)) (b.drop (k + 1))) = keepW (mergeW a b)) := Lib.hid (by have h := HM.out; rw [aD.out, bD.out, mergeW, if_neg (by rw [hls]; exact Bool.false_ne_true), if_pos heq] at h; exact h)
            have HW : Hid (∀ n, ((((wr.alloc (.cells #[.string ⟨#[]⟩, .int .u64 0] 33)).drewN n).setCell ⟨wr.heap.size, 0, none⟩ (.string y.k)).setCell ⟨wr.heap.size, 1, none⟩ (.int .u64 (y.v.toNat : Int))).ownsRow w.heap.size 33 2 u5 out.length (itCs out) ∧ Below w.heap.size w ((((wr.alloc (.cells #[.string ⟨#[]⟩, .int .u64 0] 33)).drewN n).setCell ⟨wr.heap.size, 0, none⟩ (.string y.k)).setCell ⟨wr.heap.size, 1, none⟩ (.int .u64 (y.v.toNat : Int)))) := Lib.hid (fun n => by
              have hb : Below wr.heap.size wr ((((wr.alloc (.cells #[.string ⟨#[]⟩, .int .u64 0] 33)).drewN n).setCell ⟨wr.heap.size, 0, none⟩ (.string y.k)).setCell ⟨wr.heap.size, 1, none⟩ (.int .u64 (y.v.toNat : Int))) := ((((Below.refl _ _).alloc (Nat.le_refl _) _).trans ((Dr.one _ n).below _)).setCell (p := ⟨wr.heap.size, 0, none⟩) (Nat.le_refl _) _).setCell (p := ⟨wr.heap.size, 1, none⟩) (Nat.le_refl _) _
              refine ⟨own_stay HO.out (Kept.of_below (r := none) hb) ?_, HBw.out.trans (hb.mono HBw.out.size)⟩
              rcases HO.out.2 with ⟨h1, _⟩ | ⟨g, cap, cur, h1, _⟩
              · exact .inr (by subst h1; rfl)
              · exact .inl (by subst h1; exact fun e => nomatch e))
            have tlv : ((y.v.toNat : Int) != 0) = liveI y := by
              unfold liveI; rw [Bool.eq_iff_iff, bne_iff_ne, bne_iff_ne]; omega
            have HK := Lib.hid (keepW_cons y (mergeW (a.drop (i + 1)) (b.drop (k + 1))))
            clear HM
            cases hlv : liveI y with
            | true =>
              rw [hlv] at tlv
              rw [hlv, if_pos rfl] at HK
              clear hlv
              go_wp2_with fail
              go_quiet (fail)
              go_wp2_with fail
              go_quiet (fail)
              go_wp2_with (at_builtin; refine wpList_app_one rfl (.tmp 84) (.tmp 86) 22 rfl Tryz.refItemTyK _ w.heap.size u5 out.length (itCs out) [.string y.k, .int .u64 (y.v.toNat : Int)] rfl (by exact (HW.out _).1) rfl (wr.heap.size + 1) 1 rfl (by simp) rfl (by decide) (by intro u hu; simp at hu; rcases hu with rfl | rfl <;> rfl) (by omega) (by decide) (by exact (HW.out _).2.size) ?_; intro g6 c6 w6 hO6 hB6 hK6 hg6)
              have HO6 := Lib.hid hO6
              have HB6 : Hid (Below w.heap.size w w6) := Lib.hid ((HW.out _).2.trans hB6)
              clear hO6 hB6 hK6 hg6
              go_wp2_with fail
              go_roundw
              case rel => exact ⟨(i + 1), (k + 1), out ++ [y], by go_num, by go_num, by have := Hna.out; omega, by have := Hnb.out; omega, by rw [List.length_append, itCs_app]; exact HO6.out, by rw [← HM2.out, HK.out]; simp, by simp; omega, HB6.out⟩
              case measure => first | (simp [intOf]; omega) | (simp only [intOf]; omega)
            | false =>
              rw [hlv] at tlv
              rw [hlv] at HK
              clear hlv
              go_wp2_with fail
              go_quiet (fail)
              go_wp2_with fail
              go_quiet (fail)
              go_wp2_with fail
              go_roundw
              case rel => exact ⟨(i + 1), (k + 1), out, by go_num, by go_num, by have := Hna.out; omega, by have := Hnb.out; omega, by exact (HW.out _).1, by rw [← HM2.out, HK.out]; simp, by omega, by exact (HW.out _).2⟩
              case measure => first | (simp [intOf]; omega) | (simp only [intOf]; omega)
      · have hkb2 : k = nb := by omega
        have p1 : (i : Int) < (na : Int) := by omega
        have p2 : decide ((i : Int) < (na : Int)) = true := decide_eq_true p1
        have p3 : decide (i < na) = true := decide_eq_true (by omega)
        have p4 : ((i : Int) == (na : Int)) = false := by rw [beq_eq_false_iff_ne]; omega
        have q2 : decide ((k : Int) < (nb : Int)) = false := decide_eq_false (by omega)
        have q3 : decide (k < nb) = false := decide_eq_false (by omega)
        have q4 : ((k : Int) == (nb : Int)) = true := by rw [beq_iff_eq]; omega
        have aL : i < a.length := by have := Hna.out; omega
        obtain ⟨ab, ao, ae, _, p5, p6⟩ := (HA.out.below HBw.out).at i aL
        have aD : Hid (a.drop i = a[i] :: a.drop (i + 1)) := Lib.hid (List.drop_eq_getElem_cons aL)
        generalize a[i] = x at *
        have bD : Hid (b.drop k = []) := Lib.hid (List.drop_eq_nil_of_le (by have := Hnb.out; omega))
        subst ae
        clear hkb2
        have HM2 : Hid (out ++ keepW (x :: mergeW (a.drop (i + 1)) (b.drop k)) = keepW (mergeW a b)) := Lib.hid (by have h := HM.out; rw [aD.out, bD.out, mergeW, ← bD.out] at h; exact h)
        have HW : Hid (∀ n, ((((wr.alloc (.cells #[.string ⟨#[]⟩, .int .u64 0] 33)).drewN n).setCell ⟨wr.heap.size, 0, none⟩ (.string x.k)).setCell ⟨wr.heap.size, 1, none⟩ (.int .u64 (x.v.toNat : Int))).ownsRow w.heap.size 33 2 u5 out.length (itCs out) ∧ Below w.heap.size w ((((wr.alloc (.cells #[.string ⟨#[]⟩, .int .u64 0] 33)).drewN n).setCell ⟨wr.heap.size, 0, none⟩ (.string x.k)).setCell ⟨wr.heap.size, 1, none⟩ (.int .u64 (x.v.toNat : Int)))) := Lib.hid (fun n => by
          have hb : Below wr.heap.size wr ((((wr.alloc (.cells #[.string ⟨#[]⟩, .int .u64 0] 33)).drewN n).setCell ⟨wr.heap.size, 0, none⟩ (.string x.k)).setCell ⟨wr.heap.size, 1, none⟩ (.int .u64 (x.v.toNat : Int))) := ((((Below.refl _ _).alloc (Nat.le_refl _) _).trans ((Dr.one _ n).below _)).setCell (p := ⟨wr.heap.size, 0, none⟩) (Nat.le_refl _) _).setCell (p := ⟨wr.heap.size, 1, none⟩) (Nat.le_refl _) _
          refine ⟨own_stay HO.out (Kept.of_below (r := none) hb) ?_, HBw.out.trans (hb.mono HBw.out.size)⟩
          rcases HO.out.2 with ⟨h1, _⟩ | ⟨g, cap, cur, h1, _⟩
          · exact .inr (by subst h1; rfl)
          · exact .inl (by subst h1; exact fun e => nomatch e))
        have tlv : ((x.v.toNat : Int) != 0) = liveI x := by
          unfold liveI; rw [Bool.eq_iff_iff, bne_iff_ne, bne_iff_ne]; omega
        have HK := Lib.hid (keepW_cons x (mergeW (a.drop (i + 1)) (b.drop k)))
        clear HM
        cases hlv : liveI x with
        | true =>
          rw [hlv] at tlv
          rw [hlv, if_pos rfl] at HK
          clear hlv
          go_wp2_with fail
          go_quiet (fail)
          go_wp2_with (at_builtin; refine wpList_app_one rfl (.tmp 84) (.tmp 86) 22 rfl Tryz.refItemTyK _ w.heap.size u5 out.length (itCs out) [.string x.k, .int .u64 (x.v.toNat : Int)] rfl (by exact (HW.out _).1) rfl (wr.heap.size + 1) 1 rfl (by simp) rfl (by decide) (by intro u hu; simp at hu; rcases hu with rfl | rfl <;> rfl) (by omega) (by decide) (by exact (HW.out _).2.size) ?_; intro g6 c6 w6 hO6 hB6 hK6 hg6)
          have HO6 := Lib.hid hO6
          have HB6 : Hid (Below w.heap.size w w6) := Lib.hid ((HW.out _).2.trans hB6)
          clear hO6 hB6 hK6 hg6
          go_wp2_with fail
          go_roundw
          case rel => exact ⟨(i + 1), k, out ++ [x], by go_num, by go_num, by have := Hna.out; omega, by have := Hnb.out; omega, by rw [List.length_append, itCs_app]; exact HO6.out, by rw [← HM2.out, HK.out]; simp, by simp; omega, HB6.out⟩
          case measure => first | (simp [intOf]; omega) | (simp only [intOf]; omega)
        | false =>
          rw [hlv] at tlv
          rw [hlv] at HK
          clear hlv
          go_wp2_with fail
          go_quiet (fail)
          go_wp2_with fail
          go_roundw
          case rel => exact ⟨(i + 1), k, out, by go_num, by go_num, by have := Hna.out; omega, by have := Hnb.out; omega, by exact (HW.out _).1, by rw [← HM2.out, HK.out]; simp, by omega, by exact (HW.out _).2⟩
          case measure => first | (simp [intOf]; omega) | (simp only [intOf]; omega)
    · have hia2 : i = na := by omega
      by_cases hkb : k < nb
      · have p2 : decide ((i : Int) < (na : Int)) = false := decide_eq_false (by omega)
        have p3 : decide (i < na) = false := decide_eq_false (by omega)
        have p4 : ((i : Int) == (na : Int)) = true := by rw [beq_iff_eq]; omega
        have q1 : (k : Int) < (nb : Int) := by omega
        have q2 : decide ((k : Int) < (nb : Int)) = true := decide_eq_true q1
        have q3 : decide (k < nb) = true := decide_eq_true (by omega)
        have q4 : ((k : Int) == (nb : Int)) = false := by rw [beq_eq_false_iff_ne]; omega
        have bL : k < b.length := by have := Hnb.out; omega
        obtain ⟨bb, bo, be, _, q5, q6⟩ := (HB.out.below HBw.out).at k bL
        have bD : Hid (b.drop k = b[k] :: b.drop (k + 1)) := Lib.hid (List.drop_eq_getElem_cons bL)
        generalize b[k] = y at *
        have aD : Hid (a.drop i = []) := Lib.hid (List.drop_eq_nil_of_le (by have := Hna.out; omega))
        subst be
        clear hia2
        have HM2 : Hid (out ++ keepW (y :: mergeW (a.drop i) (b.drop (k + 1))) = keepW (mergeW a b)) := Lib.hid (by have h := HM.out; rw [aD.out, bD.out, mergeW, ← aD.out] at h; exact h)
        have HW : Hid (∀ n, ((((wr.alloc (.cells #[.string ⟨#[]⟩, .int .u64 0] 33)).drewN n).setCell ⟨wr.heap.size, 0, none⟩ (.string y.k)).setCell ⟨wr.heap.size, 1, none⟩ (.int .u64 (y.v.toNat : Int))).ownsRow w.heap.size 33 2 u5 out.length (itCs out) ∧ Below w.heap.size w ((((wr.alloc (.cells #[.string ⟨#[]⟩, .int .u64 0] 33)).drewN n).setCell ⟨wr.heap.size, 0, none⟩ (.string y.k)).setCell ⟨wr.heap.size, 1, none⟩ (.int .u64 (y.v.toNat : Int)))) := Lib.hid (fun n => by
          have hb : Below wr.heap.size wr ((((wr.alloc (.cells #[.string ⟨#[]⟩, .int .u64 0] 33)).drewN n).setCell ⟨wr.heap.size, 0, none⟩ (.string y.k)).setCell ⟨wr.heap.size, 1, none⟩ (.int .u64 (y.v.toNat : Int))) := ((((Below.refl _ _).alloc (Nat.le_refl _) _).trans ((Dr.one _ n).below _)).setCell (p := ⟨wr.heap.size, 0, none⟩) (Nat.le_refl _) _).setCell (p := ⟨wr.heap.size, 1, none⟩) (Nat.le_refl _) _
          refine ⟨own_stay HO.out (Kept.of_below (r := none) hb) ?_, HBw.out.trans (hb.mono HBw.out.size)⟩
          rcases HO.out.2 with ⟨h1, _⟩ | ⟨g, cap, cur, h1, _⟩
          · exact .inr (by subst h1; rfl)
          · exact .inl (by subst h1; exact fun e => nomatch e))
        have tlv : ((y.v.toNat : Int) != 0) = liveI y := by
          unfold liveI; rw [Bool.eq_iff_iff, bne_iff_ne, bne_iff_ne]; omega
        have HK := Lib.hid (keepW_cons y (mergeW (a.drop i) (b.drop (k + 1))))
        clear HM
        cases hlv : liveI y with
        | true =>
          rw [hlv] at tlv
          rw [hlv, if_pos rfl] at HK
          clear hlv
          go_wp2_with fail
          go_quiet (fail)
          go_wp2_with fail
          go_quiet (fail)
          go_wp2_with (at_builtin; refine wpList_app_one rfl (.tmp 84) (.tmp 86) 22 rfl Tryz.refItemTyK _ w.heap.size u5 out.length (itCs out) [.string y.k, .int .u64 (y.v.toNat : Int)] rfl (by exact (HW.out _).1) rfl (wr.heap.size + 1) 1 rfl (by simp) rfl (by decide) (by intro u hu; simp at hu; rcases hu with rfl | rfl <;> rfl) (by omega) (by decide) (by exact (HW.out _).2.size) ?_; intro g6 c6 w6 hO6 hB6 hK6 hg6)
          have HO6 := Lib.hid hO6
          have HB6 : Hid (Below w.heap.size w w6) := Lib.hid ((HW.out _).2.trans hB6)
          clear hO6 hB6 hK6 hg6
          go_wp2_with fail
          go_roundw
          case rel => exact ⟨i, (k + 1), out ++ [y], by go_num, by go_num, by have := Hna.out; omega, by have := Hnb.out; omega, by rw [List.length_append, itCs_app]; exact HO6.out, by rw [← HM2.out, HK.out]; simp, by simp; omega, HB6.out⟩
          case measure => first | (simp [intOf]; omega) | (simp only [intOf]; omega)
        | false =>
          rw [hlv] at tlv
          rw [hlv] at HK
          clear hlv
          go_wp2_with fail
          go_quiet (fail)
          go_wp2_with fail
          go_quiet (fail)
          go_wp2_with fail
          go_roundw
          case rel => exact ⟨i, (k + 1), out, by go_num, by go_num, by have := Hna.out; omega, by have := Hnb.out; omega, by exact (HW.out _).1, by rw [← HM2.out, HK.out]; simp, by omega, by exact (HW.out _).2⟩
          case measure => first | (simp [intOf]; omega) | (simp only [intOf]; omega)
      · have p2 : decide ((i : Int) < (na : Int)) = false := decide_eq_false (by omega)
        have p3 : decide (i < na) = false := decide_eq_false (by omega)
        have p4 : ((i : Int) == (na : Int)) = true := by rw [beq_iff_eq]; omega
        have q2 : decide ((k : Int) < (nb : Int)) = false := decide_eq_false (by omega)
        have q3 : decide (k < nb) = false := decide_eq_false (by omega)
        have q4 : ((k : Int) == (nb : Int)) = true := by rw [beq_iff_eq]; omega
        have aD : Hid (a.drop i = []) := Lib.hid (List.drop_eq_nil_of_le (by have := Hna.out; omega))
        have bD : Hid (b.drop k = []) := Lib.hid (List.drop_eq_nil_of_le (by have := Hnb.out; omega))
        have HM2 : Hid (out = keepW (mergeW a b)) := Lib.hid (by have h := HM.out; rw [aD.out, bD.out] at h; simpa [mergeW, keepW] using h)
        clear hia2
        go_wp2_with fail
        go_ret
        rw [← HM2.out]
        exact ⟨_, rfl, HO.out, HBw.out⟩

end Go.Proofs.YtgdomldfjiobfaaGreatDoor

/- Walks of package walk: Merge. -/
namespace Go.Proofs.YtgdomldfjiobfaaGreatDoor
open Go.RowKit

theorem ItR.tail {w : World} {b off c : Nat} {P : Option Addr} {x : It} {t : List It} (h : ItR w (some ⟨b, off, none⟩) (x :: t)) (hc : (x :: t).length ≤ c) (hP : (c = 1 ∧ P = some ⟨b, off, none⟩) ∨ P = some ⟨b, off + 2, none⟩) : ItR w P t := by
  rw [List.length_cons] at hc
  have e : itCs (x :: t) = itC x ++ itCs t := rfl
  refine ⟨by rw [itCs_len], fun hn => ?_⟩
  rcases hP with ⟨h1, _⟩ | rfl
  · omega
  · obtain ⟨b', off', e', hb, hcc⟩ := h.2 (by simp)
    injection e' with e'
    injection e' with e1 e2
    subst e1 e2
    refine ⟨_, _, rfl, hb, fun j hj => ?_⟩
    rw [Nat.add_assoc, hcc (2 + j) (by simp only [List.length_cons]; omega), e, List.getElem?_append_right (by simp [itC])]
    simp [itC]

theorem own_mono2 {w : World} {base base' k n : Nat} {e : TypeId} {v : Value} {xs : List Value} (h : w.ownsRow base e k v n xs) (hb : base' ≤ base) : w.ownsRow base' e k v n xs :=
  ⟨h.1, h.2.imp id (fun ⟨g, cap, cur, h1, h2, h3⟩ => ⟨g, cap, cur, h1, Nat.le_trans hb h2, h3⟩)⟩

def MergeAt (a b : List It) (w : World) (u0 u1 u5 : Value) (wr : World) : Prop :=
  ∃ (A B : Option Addr) (ca cb : Nat) (a' b' out : List It), u0 = .slice A a'.length ca ∧ u1 = .slice B b'.length cb ∧ a'.length ≤ ca ∧ b'.length ≤ cb ∧ ItR w A a' ∧ ItR w B b' ∧ wr.ownsRow w.heap.size 105 2 u5 out.length (itCs out) ∧ out ++ mergeW a' b' = mergeW a b ∧ out.length + a'.length + b'.length ≤ a.length + b.length ∧ Below w.heap.size w wr

set_option maxHeartbeats 8000000 in
set_option maxRecDepth 100000 in
theorem merge_any (a b : List It) (A B : Option Addr) (ca cb : Nat) (w : World) (hla : a.length ≤ 200) (hlb : b.length ≤ 200) (ha : ItR w A a) (hb : ItR w B b) (hca : a.length ≤ ca) (hcb : b.length ≤ cb) :
    Calls Tryz.prog 14 #[.slice A a.length ca, .slice B b.length cb] w fun e w' => ∃ v, e = .returned v ∧ w'.ownsRow w.heap.size 105 2 v (keepW (mergeW a b)).length (itCs (keepW (mergeW a b))) ∧ Below w.heap.size w w' := by
  have HA := Lib.hid ha
  have HB := Lib.hid hb
  clear ha hb
  go_enter Tryz.func14, Tryz.ntmps14
  go_wp2_with fail
  go_loopw [0, 1, 5] (fun u0 u1 u5 wr => MergeAt a b w u0 u1 u5 wr) (fun u0 u1 _ _ => lenOf u0 + lenOf u1)
  case atStart => exact ⟨A, B, ca, cb, a, b, [], rfl, rfl, hca, hcb, HA.out, HB.out, World.ownsRow_nil _ _ _ _, rfl, by simp, Below.refl _ _⟩
  case round =>
    obtain ⟨A, B, ca, cb, a', b', out, rfl, rfl, hca', hcb', ra, rb, hown, hmg, hln, hbw⟩ := hrel
    have RA := Lib.hid ra
    have RB := Lib.hid rb
    have HO := Lib.hid hown
    have HM := Lib.hid hmg
    have HBw := Lib.hid hbw
    clear ra rb hown hmg hbw HA HB hca hcb
    cases a' with
    | nil =>
      cases b' with
      | nil =>
        have HM' : Hid (out = mergeW a b) := Lib.hid (by rw [← HM.out, mergeW_nil]; simp)
        have hol : out.length ≤ 400 := by simp at hln; omega
        obtain ⟨Ao, co, rfl, hco, -⟩ : ∃ Ao co, u5 = .slice Ao out.length co ∧ out.length ≤ co ∧ True := by
          rcases HO.out.2 with ⟨h1, h2⟩ | ⟨g, cap, cur, h1, _, _, h4, _⟩
          · exact ⟨none, 0, by rw [h1, h2], by omega, trivial⟩
          · exact ⟨_, _, h1, h4, trivial⟩
        have HKp := Lib.hid (keep_live out Ao co wr (by omega) (by
          refine ⟨itCs_len _, fun hn => ?_⟩
          rcases HO.out.2 with ⟨h1, h2⟩ | ⟨g, cap, cur, h1, h2, h3, h4, h5, h6, h7⟩
          · omega
          · simp only [Value.slice.injEq] at h1
            refine ⟨g, 0, h1.1, (Array.getElem?_eq_some_iff.1 h3).1, fun j hj => ?_⟩
            rw [cell_of_row wr g _ cur _ (0, 0) h3, ← h7, List.getElem?_take, if_pos (by omega)]
            simp))
        go_wp2_with fail
        refine HKp.out.mono ?_
        rintro e w2 ⟨v2, rfl, ho2, hb2⟩
        have HO2 := Lib.hid (own_mono2 ho2 HBw.out.size)
        have HB2 := Lib.hid (HBw.out.trans (hb2.mono HBw.out.size))
        rw [HM'.out] at HO2
        clear ho2 hb2 HKp
        go_wp2_with fail
        go_ret
        exact ⟨v2, rfl, HO2.out, HB2.out⟩
      | cons y tb =>
        obtain ⟨nb, hnb⟩ : ∃ n, n = (y :: tb).length := ⟨_, rfl⟩
        rw [← hnb] at hcb' ⊢
        have qb0 : nb = tb.length + 1 := hnb
        obtain ⟨bb, bo, rfl, _, qb1, qb2⟩ := (RB.out.below HBw.out).at 0 (by simp)
        simp only [Nat.zero_mul, Nat.add_zero, List.getElem_cons_zero] at qb1 qb2
        have qb3 : ((nb : Int) == 0) = false := by rw [beq_eq_false_iff_ne]; omega
        have qb4 : decide ((0 : Int) < (nb : Int)) = true := decide_eq_true (by omega)
        have qb5 : (0 : Int) < (nb : Int) := by omega
        have qb6 : 1 ≤ nb := by omega
        have qb7 : 0 < nb := by omega
        have qb8 : decide (0 < nb) = true := decide_eq_true qb7
        have Hnb := Lib.hid qb0
        clear hnb qb0
        have HM' : Hid (out ++ [y] ++ mergeW [] tb = mergeW a b) := Lib.hid (by rw [← HM.out, mergeW_nil', mergeW_nil']; simp)
        go_wp2_with fail
        go_quiet (fail)
        go_wp2_with fail
        go_quiet (fail)
        all_goals (go_wp2_with (at_builtin; refine wpList_app_one rfl (.tmp 57) (.tmp 61) 26 rfl Tryz.itemTyK _ w.heap.size u5 out.length (itCs out) [.string y.k, .int .u64 (y.v.toNat : Int)] rfl (by exact HO.out) rfl wr.heap.size 1 rfl rfl rfl (by decide) (by intro u hu; simp at hu; rcases hu with rfl | rfl <;> rfl) (by simp at hln; omega) (by decide) (by exact HBw.out.size) ?_; intro g6 c6 w6 hO6 hB6 hK6 hg6))
        all_goals (have HO6 := Lib.hid hO6)
        all_goals (have HB6 := Lib.hid (HBw.out.trans (((Dr.one wr _).below _).trans hB6)))
        all_goals (clear hO6 hB6 hK6 hg6)
        all_goals (go_wp2_with fail)
        all_goals (go_roundw)
        all_goals (try (case measure => first | (simp [lenOf]; done) | (simp [lenOf]; omega) | (simp only [lenOf]; omega) | (show (na - 1) + (nb - 1) < na + nb; omega)))
        all_goals first
          | (case rel => exact ⟨A, (if cb = 1 then some ⟨bb, bo, none⟩ else some ⟨bb, bo + 2, none⟩), ca, (cb - 1), [], tb, out ++ [y], rfl, (by rw [show tb.length = nb - 1 by have := Hnb.out; omega]), hca', (by have := Hnb.out; omega), RA.out, (RB.out.tail (c := cb) (by have := Hnb.out; simp; omega) (by by_cases hc1 : cb = 1; exact .inl ⟨hc1, if_pos hc1⟩; exact .inr (if_neg hc1))), by rw [List.length_append, itCs_app]; exact HO6.out, HM'.out, by simp at hln ⊢; omega, HB6.out⟩)
    | cons x ta =>
      cases b' with
      | nil =>
        obtain ⟨na, hna⟩ : ∃ n, n = (x :: ta).length := ⟨_, rfl⟩
        rw [← hna] at hca' ⊢
        have qa0 : na = ta.length + 1 := hna
        obtain ⟨ab, ao, rfl, _, qa1, qa2⟩ := (RA.out.below HBw.out).at 0 (by simp)
        simp only [Nat.zero_mul, Nat.add_zero, List.getElem_cons_zero] at qa1 qa2
        have qa3 : ((na : Int) == 0) = false := by rw [beq_eq_false_iff_ne]; omega
        have qa4 : decide ((0 : Int) < (na : Int)) = true := decide_eq_true (by omega)
        have qa5 : (0 : Int) < (na : Int) := by omega
        have qa6 : 1 ≤ na := by omega
        have qa7 : 0 < na := by omega
        have qa8 : decide (0 < na) = true := decide_eq_true qa7
        have Hna := Lib.hid qa0
        clear hna qa0
        have HM' : Hid (out ++ [x] ++ mergeW ta [] = mergeW a b) := Lib.hid (by rw [← HM.out, mergeW_nil, mergeW_nil]; simp)
        go_wp2_with fail
        go_quiet (fail)
        all_goals (go_wp2_with (at_builtin; refine wpList_app_one rfl (.tmp 33) (.tmp 37) 26 rfl Tryz.itemTyK _ w.heap.size u5 out.length (itCs out) [.string x.k, .int .u64 (x.v.toNat : Int)] rfl (by exact HO.out) rfl wr.heap.size 1 rfl rfl rfl (by decide) (by intro u hu; simp at hu; rcases hu with rfl | rfl <;> rfl) (by simp at hln; omega) (by decide) (by exact HBw.out.size) ?_; intro g6 c6 w6 hO6 hB6 hK6 hg6))
        all_goals (have HO6 := Lib.hid hO6)
        all_goals (have HB6 := Lib.hid (HBw.out.trans (((Dr.one wr _).below _).trans hB6)))
        all_goals (clear hO6 hB6 hK6 hg6)
        all_goals (go_wp2_with fail)
        all_goals (go_roundw)
        all_goals (try (case measure => first | (simp [lenOf]; done) | (simp [lenOf]; omega) | (simp only [lenOf]; omega) | (show (na - 1) + (nb - 1) < na + nb; omega)))
        all_goals first
          | (case rel => exact ⟨(if ca = 1 then some ⟨ab, ao, none⟩ else some ⟨ab, ao + 2, none⟩), B, (ca - 1), cb, ta, [], out ++ [x], (by rw [show ta.length = na - 1 by have := Hna.out; omega]), rfl, (by have := Hna.out; omega), hcb', (RA.out.tail (c := ca) (by have := Hna.out; simp; omega) (by by_cases hc1 : ca = 1; exact .inl ⟨hc1, if_pos hc1⟩; exact .inr (if_neg hc1))), RB.out, by rw [List.length_append, itCs_app]; exact HO6.out, HM'.out, by simp at hln ⊢; omega, HB6.out⟩)
      | cons y tb =>
        obtain ⟨na, hna⟩ : ∃ n, n = (x :: ta).length := ⟨_, rfl⟩
        rw [← hna] at hca' ⊢
        have qa0 : na = ta.length + 1 := hna
        obtain ⟨ab, ao, rfl, _, qa1, qa2⟩ := (RA.out.below HBw.out).at 0 (by simp)
        simp only [Nat.zero_mul, Nat.add_zero, List.getElem_cons_zero] at qa1 qa2
        have qa3 : ((na : Int) == 0) = false := by rw [beq_eq_false_iff_ne]; omega
        have qa4 : decide ((0 : Int) < (na : Int)) = true := decide_eq_true (by omega)
        have qa5 : (0 : Int) < (na : Int) := by omega
        have qa6 : 1 ≤ na := by omega
        have qa7 : 0 < na := by omega
        have qa8 : decide (0 < na) = true := decide_eq_true qa7
        have Hna := Lib.hid qa0
        clear hna qa0
        obtain ⟨nb, hnb⟩ : ∃ n, n = (y :: tb).length := ⟨_, rfl⟩
        rw [← hnb] at hcb' ⊢
        have qb0 : nb = tb.length + 1 := hnb
        obtain ⟨bb, bo, rfl, _, qb1, qb2⟩ := (RB.out.below HBw.out).at 0 (by simp)
        simp only [Nat.zero_mul, Nat.add_zero, List.getElem_cons_zero] at qb1 qb2
        have qb3 : ((nb : Int) == 0) = false := by rw [beq_eq_false_iff_ne]; omega
        have qb4 : decide ((0 : Int) < (nb : Int)) = true := decide_eq_true (by omega)
        have qb5 : (0 : Int) < (nb : Int) := by omega
        have qb6 : 1 ≤ nb := by omega
        have qb7 : 0 < nb := by omega
        have qb8 : decide (0 < nb) = true := decide_eq_true qb7
        have Hnb := Lib.hid qb0
        clear hnb qb0
        cases hls : lessK x y with
        | true =>
          have hls' : Op.bytesLess x.k.toList y.k.toList = true := hls
          have HM' : Hid (out ++ [x] ++ mergeW ta (y :: tb) = mergeW a b) := Lib.hid (by rw [← HM.out, mergeW, if_pos hls]; simp)
          clear hls
          go_wp2_with fail
          go_quiet (fail)
          all_goals (go_wp2_with (at_builtin; refine wpList_app_one rfl (.tmp 33) (.tmp 37) 26 rfl Tryz.itemTyK _ w.heap.size u5 out.length (itCs out) [.string x.k, .int .u64 (x.v.toNat : Int)] rfl (by exact HO.out) rfl wr.heap.size 1 rfl rfl rfl (by decide) (by intro u hu; simp at hu; rcases hu with rfl | rfl <;> rfl) (by simp at hln; omega) (by decide) (by exact HBw.out.size) ?_; intro g6 c6 w6 hO6 hB6 hK6 hg6))
          all_goals (have HO6 := Lib.hid hO6)
          all_goals (have HB6 := Lib.hid (HBw.out.trans (((Dr.one wr _).below _).trans hB6)))
          all_goals (clear hO6 hB6 hK6 hg6)
          all_goals (go_wp2_with fail)
          all_goals (go_roundw)
          all_goals (try (case measure => first | (simp [lenOf]; done) | (simp [lenOf]; omega) | (simp only [lenOf]; omega) | (show (na - 1) + (nb - 1) < na + nb; omega)))
          all_goals first
            | (case rel => exact ⟨(if ca = 1 then some ⟨ab, ao, none⟩ else some ⟨ab, ao + 2, none⟩), (some ⟨bb, bo, none⟩), (ca - 1), cb, ta, (y :: tb), out ++ [x], (by rw [show ta.length = na - 1 by have := Hna.out; omega]), (by rw [List.length_cons, ← Hnb.out]), (by have := Hna.out; omega), (by rw [List.length_cons, ← Hnb.out]; exact hcb'), (RA.out.tail (c := ca) (by have := Hna.out; simp; omega) (by by_cases hc1 : ca = 1; exact .inl ⟨hc1, if_pos hc1⟩; exact .inr (if_neg hc1))), RB.out, by rw [List.length_append, itCs_app]; exact HO6.out, HM'.out, by simp at hln ⊢; omega, HB6.out⟩)
        | false =>
          have hls' : Op.bytesLess x.k.toList y.k.toList = false := hls
          cases heq : eqK x y with
          | true =>
            have heq' : (x.k.toList == y.k.toList) = true := heq
            have HM' : Hid (out ++ [y] ++ mergeW ta tb = mergeW a b) := Lib.hid (by rw [← HM.out, mergeW, if_neg (by rw [hls]; exact Bool.false_ne_true), if_pos heq]; simp)
            clear hls heq
            go_wp2_with fail
            go_quiet (fail)
            go_wp2_with fail
            go_quiet (fail)
            all_goals (go_wp2_with (at_builtin; refine wpList_app_one rfl (.tmp 57) (.tmp 61) 26 rfl Tryz.itemTyK _ w.heap.size u5 out.length (itCs out) [.string y.k, .int .u64 (y.v.toNat : Int)] rfl (by exact HO.out) rfl wr.heap.size 1 rfl rfl rfl (by decide) (by intro u hu; simp at hu; rcases hu with rfl | rfl <;> rfl) (by simp at hln; omega) (by decide) (by exact HBw.out.size) ?_; intro g6 c6 w6 hO6 hB6 hK6 hg6))
            all_goals (have HO6 := Lib.hid hO6)
            all_goals (have HB6 := Lib.hid (HBw.out.trans (((Dr.one wr _).below _).trans hB6)))
            all_goals (clear hO6 hB6 hK6 hg6)
            all_goals (go_wp2_with fail)
            all_goals (go_roundw)
            all_goals (try (case measure => first | (simp [lenOf]; done) | (simp [lenOf]; omega) | (simp only [lenOf]; omega) | (show (na - 1) + (nb - 1) < na + nb; omega)))
            all_goals first
              | (case rel => exact ⟨(if ca = 1 then some ⟨ab, ao, none⟩ else some ⟨ab, ao + 2, none⟩), (if cb = 1 then some ⟨bb, bo, none⟩ else some ⟨bb, bo + 2, none⟩), (ca - 1), (cb - 1), ta, tb, out ++ [y], (by rw [show ta.length = na - 1 by have := Hna.out; omega]), (by rw [show tb.length = nb - 1 by have := Hnb.out; omega]), (by have := Hna.out; omega), (by have := Hnb.out; omega), (RA.out.tail (c := ca) (by have := Hna.out; simp; omega) (by by_cases hc1 : ca = 1; exact .inl ⟨hc1, if_pos hc1⟩; exact .inr (if_neg hc1))), (RB.out.tail (c := cb) (by have := Hnb.out; simp; omega) (by by_cases hc1 : cb = 1; exact .inl ⟨hc1, if_pos hc1⟩; exact .inr (if_neg hc1))), by rw [List.length_append, itCs_app]; exact HO6.out, HM'.out, by simp at hln ⊢; omega, HB6.out⟩)
          | false =>
            have heq' : (x.k.toList == y.k.toList) = false := heq
            have HM' : Hid (out ++ [y] ++ mergeW (x :: ta) tb = mergeW a b) := Lib.hid (by
              have h := HM.out
              rw [mergeW, if_neg (by rw [hls]; exact Bool.false_ne_true), if_neg (by rw [heq]; exact Bool.false_ne_true)] at h
              rw [← h]; simp)
            clear hls heq
            go_wp2_with fail
            go_quiet (fail)
            go_wp2_with fail
            go_quiet (fail)
            all_goals (go_wp2_with (at_builtin; refine wpList_app_one rfl (.tmp 57) (.tmp 61) 26 rfl Tryz.itemTyK _ w.heap.size u5 out.length (itCs out) [.string y.k, .int .u64 (y.v.toNat : Int)] rfl (by exact HO.out) rfl wr.heap.size 1 rfl rfl rfl (by decide) (by intro u hu; simp at hu; rcases hu with rfl | rfl <;> rfl) (by simp at hln; omega) (by decide) (by exact HBw.out.size) ?_; intro g6 c6 w6 hO6 hB6 hK6 hg6))
            all_goals (have HO6 := Lib.hid hO6)
            all_goals (have HB6 := Lib.hid (HBw.out.trans (((Dr.one wr _).below _).trans hB6)))
            all_goals (clear hO6 hB6 hK6 hg6)
            all_goals (go_wp2_with fail)
            all_goals (go_roundw)
            all_goals (try (case measure => first | (simp [lenOf]; done) | (simp [lenOf]; omega) | (simp only [lenOf]; omega) | (show (na - 1) + (nb - 1) < na + nb; omega)))
            all_goals first
              | (case rel => exact ⟨(some ⟨ab, ao, none⟩), (if cb = 1 then some ⟨bb, bo, none⟩ else some ⟨bb, bo + 2, none⟩), ca, (cb - 1), (x :: ta), tb, out ++ [y], (by rw [List.length_cons, ← Hna.out]), (by rw [show tb.length = nb - 1 by have := Hnb.out; omega]), (by rw [List.length_cons, ← Hna.out]; exact hca'), (by have := Hnb.out; omega), RA.out, (RB.out.tail (c := cb) (by have := Hnb.out; simp; omega) (by by_cases hc1 : cb = 1; exact .inl ⟨hc1, if_pos hc1⟩; exact .inr (if_neg hc1))), by rw [List.length_append, itCs_app]; exact HO6.out, HM'.out, by simp at hln ⊢; omega, HB6.out⟩)

end Go.Proofs.YtgdomldfjiobfaaGreatDoor

/- Walks of package index where there is no index: all calls answer ErrNil. -/
namespace Go.Proofs.YtgdomldfjiobfaaGreatDoor
open Go.RowKit

theorem ask_nil (key : ByteArray) (w : World) : Calls Tryz.prog 56 #[.pointer none, .string key] w fun e w' => e = .returned (.int .i64 1) ∧ w = w' := by
  go_enter Tryz.func56, Tryz.ntmps56
  go_wp2
  go_ret
  exact ⟨rfl, rfl⟩
theorem ask_void (x : Nat) (key : ByteArray) (w : World) (h : Blk w x 40 [.pointer none, .pointer none]) : Calls Tryz.prog 56 #[.pointer (some ⟨x, 0, none⟩), .string key] w fun e w' => e = .returned (.int .i64 1) ∧ w = w' := by
  have y0 := h.cell 0
  simp only [List.getElem?_cons_zero] at y0
  clear h
  go_enter Tryz.func56, Tryz.ntmps56
  go_wp2
  go_ret
  exact ⟨rfl, rfl⟩

section
variable {w : World} {p : Option Addr}

/-- No index. -/
def NoIx (w : World) (p : Option Addr) : Prop := ∀ key : ByteArray, Calls Tryz.prog 56 #[.pointer p, .string key] w fun e w' => e = .returned (.int .i64 1) ∧ w = w'
theorem noIx_nil : NoIx w none := fun key => ask_nil key w
theorem noIx_void {x : Nat} (h : Blk w x 40 [.pointer none, .pointer none]) : NoIx w (some ⟨x, 0, none⟩) := fun key => ask_void x key w h

theorem survey_no (h : NoIx w p) : Calls Tryz.prog 61 #[.pointer p] w fun e w' => e = .returned (.tuple #[.pointer none, .int .i64 1]) ∧ w = w' := by
  have H := Lib.hid (h ⟨#[]⟩)
  clear h
  go_enter Tryz.func61, Tryz.ntmps61
  go_wp2_with fail
  refine H.out.mono ?_
  rintro e w' ⟨rfl, rfl⟩
  go_wp2_with fail
  go_ret2
  exact ⟨rfl, rfl⟩
theorem all_no (h : NoIx w p) : Calls Tryz.prog 22 #[.pointer p] w fun e w' => e = .returned (.tuple #[.slice none 0 0, .int .i64 1]) ∧ w = w' := by
  have H := Lib.hid (survey_no h)
  clear h
  go_enter Tryz.func22, Tryz.ntmps22
  go_wp2_with fail
  refine H.out.mono ?_
  rintro e w' ⟨rfl, rfl⟩
  go_wp2_with fail
  go_ret2
  exact ⟨rfl, rfl⟩
theorem nodes_no (h : NoIx w p) : Calls Tryz.prog 23 #[.pointer p] w fun e w' => e = .returned (.tuple #[.slice none 0 0, .int .i64 1]) ∧ w = w' := by
  have H := Lib.hid (survey_no h)
  clear h
  go_enter Tryz.func23, Tryz.ntmps23
  go_wp2_with fail
  refine H.out.mono ?_
  rintro e w' ⟨rfl, rfl⟩
  go_wp2_with fail
  go_ret2
  exact ⟨rfl, rfl⟩
theorem get_no (h : NoIx w p) (key : ByteArray) : Calls Tryz.prog 20 #[.pointer p, .string key] w fun e w' => e = .returned (.tuple #[.int .u64 0, .int .i64 1]) ∧ w = w' := by
  have H := Lib.hid (h key)
  clear h
  go_enter Tryz.func20, Tryz.ntmps20
  go_wp2_with fail
  refine H.out.mono ?_
  rintro e w' ⟨rfl, rfl⟩
  go_wp2_with fail
  go_ret2
  exact ⟨rfl, rfl⟩
theorem cut_no (h : NoIx w p) (key : ByteArray) : Calls Tryz.prog 21 #[.pointer p, .string key] w fun e w' => e = .returned (.tuple #[.int .u64 0, .int .i64 1]) ∧ w = w' := by
  have H := Lib.hid (h key)
  clear h
  go_enter Tryz.func21, Tryz.ntmps21
  go_wp2_with fail
  refine H.out.mono ?_
  rintro e w' ⟨rfl, rfl⟩
  go_wp2_with fail
  go_ret2
  exact ⟨rfl, rfl⟩
theorem put_no (h : NoIx w p) (key : ByteArray) (n : Int) : Calls Tryz.prog 24 #[.pointer p, .string key, .int .u64 n] w fun e w' => e = .returned (.int .i64 1) ∧ w = w' := by
  have H := Lib.hid (h key)
  clear h
  go_enter Tryz.func24, Tryz.ntmps24
  go_wp2_with fail
  refine H.out.mono ?_
  rintro e w' ⟨rfl, rfl⟩
  go_wp2_with fail
  go_ret
  exact ⟨rfl, rfl⟩

set_option maxHeartbeats 1000000 in
theorem range_nil (from_ to : ByteArray) (n : Int) : Calls Tryz.prog 48 #[.pointer none, .string from_, .string to, .int .i64 n] w fun e w' => e = .returned (.tuple #[.slice none 0 0, .int .i64 1]) ∧ Below w.heap.size w w' := by
  obtain ⟨w2, hw2⟩ : ∃ w2, w2 = (w.alloc (.cells #[.string from_] 9)).alloc (.cells #[.string to] 9) := ⟨_, rfl⟩
  have hb2 : Below w.heap.size w w2 := by
    have h1 : Below w.heap.size w (w.alloc (.cells #[.string from_] 9)) := (Below.refl _ _).alloc (Nat.le_refl _) _
    rw [hw2]; exact h1.alloc h1.size _
  have HA := Lib.hid (all_no (w := w2) noIx_nil)
  have HB := Lib.hid hb2
  have HW2 := Lib.hid hw2
  clear hb2 hw2
  go_enter Tryz.func48, Tryz.ntmps48
  go_wp2_with fail
  rw [← HW2.out]
  refine HA.out.mono ?_
  rintro e w' ⟨rfl, rfl⟩
  clear HA
  go_wp2_with fail
  go_ret2
  exact ⟨rfl, HB.out⟩
end

end Go.Proofs.YtgdomldfjiobfaaGreatDoor
