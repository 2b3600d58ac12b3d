import Derived.Laws.StructEq
import Derived.Test.YtklcklflnkbccaaGreatDoorG05
import Derived.Test.YtklcklflnkbccaaGreatDoorG22
import Derived.Test.YtklcklflnkbccaaGreatDoorG25
/- Walks of the reference: Rise. -/
namespace Go.Proofs.YtklcklflnkbccaaGreatDoor
open Go.RowKit

/-- Are the first k keys rising? -/
def riseK (l : List It) (k : Nat) : Prop := ∀ j (h : j + 1 < l.length), j + 1 < k → lessK (l[j]'(by omega)) l[j + 1] = true

theorem rise_all : ∀ (l : List It), riseK l l.length ↔ riseB l = true
  | [] => ⟨fun _ => rfl, fun _ j h => by simp at h⟩
  | [a] => ⟨fun _ => rfl, fun _ j h => by simp at h⟩
  | a :: b :: t => by
    have ih := rise_all (b :: t)
    simp only [riseB, Bool.and_eq_true]
    rw [← ih]
    constructor
    · intro h
      exact ⟨h 0 (by simp) (by simp), fun j hj hk => h (j + 1) (by simp at hj ⊢; omega) (by simp at hk ⊢; omega)⟩
    · rintro ⟨h1, h2⟩ j hj hk
      cases j with
      | zero => exact h1
      | succ j => exact h2 j (by simp at hj ⊢; omega) (by simp at hk ⊢; omega)


end Go.Proofs.YtklcklflnkbccaaGreatDoor

/- Two items of the reference, compared. -/
namespace Go.Proofs.YtklcklflnkbccaaGreatDoor
open Go.RowKit

theorem Tryz.eqRef (a b : ByteArray) (x y : Int) (w : World) : (Op.equalIn 10000 89 (.agg #[.string a, .int .u64 x]) (.agg #[.string b, .int .u64 y])).run Tryz.prog w = .ok (a.toList == b.toList && x == y) w := by
  have hS : Tryz.prog.underlying 89 = some (.struct (Tryz.prog.fieldsOf 89)) := by kernel_rfl
  rw [show (10000 : Nat) = 9999 + 1 from rfl]
  first
    | rw [run_equalIn_agg w 9999 89 _ _ hS (by kernel_rfl)]
    | rw [run_equalIn_agg w 9999 89 _ _ hS (fun w => by kernel_rfl)]
  have u9 := Tryz.underlying9
  have u31 := Tryz.underlying33
  simp only [Program.fieldsOf, Tryz.underlying89]
  go_simp
  by_cases h1 : a.toList = b.toList <;> by_cases h2 : x = y <;> simp [h1, h2]

end Go.Proofs.YtklcklflnkbccaaGreatDoor

/- Walks of the reference: Same. -/
namespace Go.Proofs.YtklcklflnkbccaaGreatDoor
open Go.RowKit

def sameI (a b : It) : Bool := (a.k.toList == b.k.toList) && (a.v.toNat == b.v.toNat)
def sameK (a b : List It) (k : Nat) : Prop := ∀ j (h1 : j < a.length) (h2 : j < b.length), j < k → sameI a[j] b[j] = true

set_option maxHeartbeats 4000000 in
set_option maxRecDepth 100000 in
theorem same_any (a b : List It) (A B : Option Addr) (c d : Nat) (w : World) (hla : a.length ≤ 100000) (ha : ItR w A a) (hb : ItR w B b) : Calls Tryz.prog 14 #[.slice A a.length c, .slice B b.length d] w fun e w' => ((e = .returned (.bool true) ∧ a.length = b.length ∧ sameK a b a.length) ∨ (e = .returned (.bool false) ∧ ¬ (a.length = b.length ∧ sameK a b a.length))) ∧ Dr w w' := by
  have HA := Lib.hid ha
  have HB := Lib.hid hb
  clear ha hb
  by_cases hn : a.length = b.length
  · have t1 : ((a.length : Int) != (b.length : Int)) = false := by simp [hn]
    obtain ⟨n, hnn⟩ : ∃ n, n = b.length := ⟨_, rfl⟩
    have HN := Lib.hid hnn
    have HL := Lib.hid hn
    rw [hn, ← hnn]
    have t2 : ((n : Int) != (n : Int)) = false := by simp
    clear hnn t1
    go_enter Tryz.func14, Tryz.ntmps14
    go_wp2_with fail
    go_loopw [5] (fun i wr => ∃ k : Nat, k ≤ n ∧ i = .int .i64 (k : Nat) ∧ sameK a b k ∧ Dr w wr) (fun i _ => n - (intOf i).toNat)
    case atStart => exact ⟨0, Nat.zero_le _, rfl, fun j _ _ h => absurd h (by omega), Dr.refl _⟩
    case round =>
      obtain ⟨k, hk, rfl, hsm, hdr⟩ := hrel
      have HD := Lib.hid hdr
      have HS := Lib.hid hsm
      clear hdr hsm
      by_cases hlt : k < n
      · have hla' : k < a.length := by have := HN.out; omega
        have hlb' : k < b.length := by have := HN.out; omega
        obtain ⟨ba, oa, rfl, _, q1, q2⟩ := (HA.out.below (HD.out.below _)).at k hla'
        obtain ⟨bb, ob, rfl, _, r1, r2⟩ := (HB.out.below (HD.out.below _)).at k hlb'
        have hx1 : (k : Int) < (n : Int) := by omega
        have hx2 : decide ((k : Int) < (n : Int)) = true := decide_eq_true hx1
        have hx5 : decide (k < n) = true := decide_eq_true hlt
        have hwk : IntKind.i64.wrap ((k : Int) + 1) = (k : Int) + 1 := wrap64 _ (by omega) (by have := HN.out; omega)
        have hm : Tryz.prog.eqGuardType Tryz.prog.depth 89 = false := by kernel_rfl
        have hq := fun W => Tryz.eqRef a[k].k b[k].k (a[k].v.toNat : Int) (b[k].v.toNat : Int) W
        have hv : (((a[k].v.toNat : Int)) == (b[k].v.toNat : Int)) = (a[k].v.toNat == b[k].v.toNat) := by
          rw [Bool.eq_iff_iff, beq_iff_eq, beq_iff_eq]; omega
        have HY : Hid (sameI a[k] b[k] = true → sameK a b (k + 1)) := Lib.hid (fun h j h1 h2 hj => by
          by_cases e : j = k
          · subst e; exact h
          · exact HS.out j h1 h2 (by omega))
        have HZ : Hid (sameI a[k] b[k] = false → ¬ (a.length = b.length ∧ sameK a b a.length)) := Lib.hid (fun h hh => by
          have := hh.2 k hla' hlb' hla'
          rw [h] at this
          cases this)
        rw [hv] at hq
        unfold sameI at HY HZ
        generalize (a[k].k.toList == b[k].k.toList) = ek at *
        generalize (a[k].v.toNat == b[k].v.toNat) = ev at *
        cases ek <;> cases ev
        case true.true =>
          have HT := Lib.hid (HY.out rfl)
          clear HY HZ
          go_wp2_with fail
          go_quiet (fail)
          go_wp2_with fail
          go_roundw
          case rel => exact ⟨k + 1, by omega, by go_num, HT.out, by first | exact HD.out.trans (Dr.one _ _) | exact HD.out⟩
          case measure => simp [intOf]; omega
        all_goals (have HT := Lib.hid (HZ.out rfl))
        all_goals (clear HY HZ)
        all_goals (go_wp2_with fail)
        all_goals (go_quiet (fail))
        all_goals (go_wp2_with fail)
        all_goals (go_ret)
        all_goals (exact ⟨.inr ⟨rfl, fun h => HT.out ⟨HL.out, by rw [HL.out, ← HN.out]; exact h.2⟩⟩, by first | exact HD.out.trans (Dr.one _ _) | exact HD.out⟩)
      · have hx1 : decide ((k : Int) < (n : Int)) = false := decide_eq_false (by omega)
        have hx5 : decide (k < n) = false := decide_eq_false hlt
        have HT : Hid (sameK a b a.length) := Lib.hid (fun j h1 h2 hj => HS.out j h1 h2 (by have := HN.out; have := HL.out; omega))
        go_wp2_with fail
        go_ret
        exact ⟨.inl ⟨rfl, trivial, by have h := HT.out; rw [HL.out, ← HN.out] at h; exact h⟩, HD.out⟩
  · have t1 : ((a.length : Int) != (b.length : Int)) = true := by simp; omega
    have HT : Hid (¬ (a.length = b.length ∧ sameK a b a.length)) := Lib.hid (fun h => hn h.1)
    go_enter Tryz.func14, Tryz.ntmps14
    go_wp2_with fail
    go_ret
    exact ⟨.inr ⟨rfl, HT.out⟩, Dr.refl _⟩

end Go.Proofs.YtklcklflnkbccaaGreatDoor

/- Walks of the reference: Find, Put. -/
namespace Go.Proofs.YtklcklflnkbccaaGreatDoor
open Go.RowKit

set_option maxHeartbeats 4000000 in
set_option maxRecDepth 100000 in
theorem find_any (l : List It) (A : Option Addr) (c : Nat) (key : ByteArray) (w : World) (hl : l.length ≤ 100000) (h : ItR w A l) : Calls Tryz.prog 54 #[.slice A l.length c, .string key] w fun e w' => e = .returned (.tuple #[.int .i64 (findR l key : Nat), .bool (isR l key)]) ∧ Dr w w' := by
  have HR := Lib.hid h
  clear h
  go_enter Tryz.func54, Tryz.ntmps54
  go_wp2_with fail
  go_loopw [6] (fun i wr => ∃ k : Nat, k ≤ l.length ∧ i = .int .i64 (k : Nat) ∧ (∀ j (h : j < l.length), j < k → Op.bytesLess l[j].k.toList key.toList = true) ∧ Dr w wr) (fun i _ => l.length - (intOf i).toNat)
  case atStart => exact ⟨0, Nat.zero_le _, rfl, fun j _ h => absurd h (by omega), Dr.refl _⟩
  case round =>
    obtain ⟨k, hk, rfl, hls, hdr⟩ := hrel
    have HD := Lib.hid hdr
    have HL := Lib.hid hls
    clear hdr hls
    by_cases hlt : k < l.length
    · obtain ⟨b, off, rfl, _, q1, q2⟩ := (HR.out.below (HD.out.below _)).at k hlt
      have hx1 : (k : Int) < (l.length : Int) := by omega
      have hx2 : decide ((k : Int) < (l.length : Int)) = true := decide_eq_true hx1
      have hx5 : decide (k < l.length) = true := decide_eq_true hlt
      have hwk : IntKind.i64.wrap ((k : Int) + 1) = (k : Int) + 1 := wrap64 _ (by omega) (by omega)
      have HY : Hid (Op.bytesLess l[k].k.toList key.toList = true → ∀ j (h : j < l.length), j < k + 1 → Op.bytesLess l[j].k.toList key.toList = true) := Lib.hid (fun h j h1 hj => by
        by_cases e : j = k
        · subst e; exact h
        · exact HL.out j h1 (by omega))
      have HZ : Hid (Op.bytesLess l[k].k.toList key.toList = false → findR l key = k ∧ isR l key = (l[k].k.toList == key.toList)) := Lib.hid (fun h => findR_at hlt h HL.out)
      generalize l[k] = it at *
      cases hbl : Op.bytesLess it.k.toList key.toList with
      | true =>
        have HT := Lib.hid (HY.out hbl)
        clear HY HZ
        go_wp2_with fail
        try go_quiet (fail)
        try go_wp2_with fail
        go_roundw
        case rel => exact ⟨k + 1, by omega, by go_num, HT.out, by first | exact HD.out.trans (Dr.one _ _) | exact HD.out⟩
        case measure => simp [intOf]; omega
      | false =>
        have HT := Lib.hid (HZ.out hbl)
        clear HY HZ
        go_wp2_with fail
        go_quiet (fail)
        go_wp2_with fail
        go_ret2
        exact ⟨by rw [HT.out.1, HT.out.2]; rfl, by first | exact HD.out.trans (Dr.one _ _) | exact HD.out⟩
    · have hx1 : decide ((k : Int) < (l.length : Int)) = false := decide_eq_false (by omega)
      have hx5 : decide (k < l.length) = false := decide_eq_false hlt
      have HT := Lib.hid (findR_no (l := l) (key := key) (fun j h => HL.out j h (by omega)))
      go_wp2_with fail
      go_ret2
      exact ⟨by rw [HT.out.1, HT.out.2]; rfl, HD.out⟩

theorem ItR.drop {w : World} {b off c k : Nat} {P : Option Addr} {l : List It} (h : ItR w (some ⟨b, off, none⟩) l) (hc : l.length ≤ c) (hP : (c = k ∧ P = some ⟨b, off, none⟩) ∨ P = some ⟨b, off + k * 2, none⟩) : ItR w P (l.drop k) := by
  refine ⟨by rw [itCs_len], fun hn => ?_⟩
  rw [List.length_drop] at hn
  rcases hP with ⟨h1, _⟩ | rfl
  · omega
  · obtain ⟨b', off', e', hb, hcc⟩ := h.2 (by omega)
    injection e' with e'
    injection e' with e1 e2
    subst e1 e2
    refine ⟨_, _, rfl, hb, fun j hj => ?_⟩
    rw [List.length_drop] at hj
    have e : itCs l = itCs (l.take k) ++ itCs (l.drop k) := by
      unfold itCs
      rw [← List.flatten_append, ← List.map_append, List.take_append_drop]
    rw [Nat.add_assoc, hcc (k * 2 + j) (by omega), e, List.getElem?_append_right (by rw [itCs_len, List.length_take]; omega), itCs_len, List.length_take, Nat.min_eq_left (by omega)]
    congr 1
    omega
theorem itCs_app' (a b : List It) : itCs (a ++ b) = itCs a ++ itCs b := by simp [itCs]
theorem itCs_one (l : List It) : ∀ u ∈ itCs l, u.oneCell' = true := by
  intro u hu
  unfold itCs at hu
  obtain ⟨x, hx, hu⟩ := List.mem_flatten.1 hu
  obtain ⟨i, _, rfl⟩ := List.mem_map.1 hx
  simp [itC] at hu
  rcases hu with rfl | rfl <;> rfl

theorem own_itrE {w : World} {base : Nat} {e : TypeId} {v : Value} {l : List It} (h : w.ownsRow base e 2 v l.length (itCs l)) : ∃ A c, v = .slice A l.length c ∧ l.length ≤ c ∧ ItR w A l := by
  obtain ⟨A, c, e, hc, hr⟩ := own_rdk h
  exact ⟨A, c, e, hc, by unfold ItR; rw [Nat.mul_comm]; exact hr⟩

def PutRPost (r : List It × Int) (l : List It) (A : Option Addr) (w : World) (e : Ending) (w' : World) : Prop :=
  ∃ A' c', e = .returned (.tuple #[.slice A' r.1.length c', .int .i64 r.2]) ∧ r.1.length ≤ c' ∧ (A' = none → c' = 0) ∧ ItR w' A' r.1 ∧ Below w.heap.size w w' ∧ ((A' = A ∧ r.1 = l) ∨ ∀ a, A' = some a → w.heap.size ≤ a.block)

set_option maxHeartbeats 4000000 in
set_option maxRecDepth 100000 in
theorem putR_any (l : List It) (A : Option Addr) (c : Nat) (key : ByteArray) (v : UInt64) (w : World) (hl : l.length ≤ 100000) (hc : l.length ≤ c) (hA : A = none → c = 0) (hks : key.size ≤ 1000000) (h : ItR w A l) : Calls Tryz.prog 25 #[.slice A l.length c, .string key, .int .u64 (v.toNat : Int)] w (PutRPost (putR l key v) l A w) := by
  have HR := Lib.hid h
  by_cases h16 : 16 < key.size
  · have HP : Hid (putR l key v = (l, 3)) := Lib.hid (by unfold putR; rw [if_pos h16])
    have t1 : decide ((16 : Int) < (key.size : Int)) = true := decide_eq_true (by omega)
    clear h
    go_enter Tryz.func25, Tryz.ntmps25
    go_wp2_with fail
    go_ret2
    rw [HP.out]
    exact ⟨_, _, rfl, hc, hA, HR.out, Below.refl _ _, .inl ⟨rfl, rfl⟩⟩
  · have t1 : decide ((16 : Int) < (key.size : Int)) = false := decide_eq_false (by omega)
    by_cases hv0 : v.toNat = 0
    · have HP : Hid (putR l key v = (l, 2)) := Lib.hid (by unfold putR; rw [if_neg h16, if_pos hv0])
      have t2 : ((v.toNat : Int) == 0) = true := by rw [hv0]; rfl
      clear h
      go_enter Tryz.func25, Tryz.ntmps25
      go_wp2_with fail
      go_ret2
      rw [HP.out]
      exact ⟨_, _, rfl, hc, hA, HR.out, Below.refl _ _, .inl ⟨rfl, rfl⟩⟩
    · have t2 : ((v.toNat : Int) == 0) = false := by rw [beq_eq_false_iff_ne]; omega
      have HF := Lib.hid (find_any l A c key w hl h)
      obtain ⟨at_, hat⟩ := (⟨_, rfl⟩ : ∃ at_, findR l key = at_)
      obtain ⟨is_, his⟩ := (⟨_, rfl⟩ : ∃ is_, isR l key = is_)
      have hle : at_ ≤ l.length := hat ▸ findR_le l key
      have hlt : is_ = true → at_ < l.length := fun e => hat ▸ isR_lt (his.trans e)
      have HP : Hid (putR l key v = (l.take at_ ++ ⟨key, v⟩ :: l.drop (at_ + if is_ then 1 else 0), 0)) := Lib.hid (by unfold putR; rw [if_neg h16, if_neg hv0, hat, his])
      obtain ⟨to, hto⟩ : ∃ to, to = at_ + if is_ then 1 else 0 := ⟨_, rfl⟩
      have htl : to ≤ l.length := by
        rw [hto]
        cases is_ with
        | true => have := hlt rfl; simp; omega
        | false => simpa using hle
      rw [hat, his] at HF
      rw [← hto] at HP
      have hwa : is_ = true → IntKind.i64.wrap ((at_ : Int) + 1) = (to : Int) := fun e => by
        rw [hto, e]; exact (wrap64 _ (by omega) (by omega)).trans (by simp)
      have hwb : is_ = false → (at_ : Int) = (to : Int) := fun e => by rw [hto, e]; simp
      have hx1 : (at_ : Int) ≤ (c : Int) := by omega
      have hx2 : decide ((at_ : Int) ≤ (c : Int)) = true := decide_eq_true hx1
      have hx3 : decide (at_ ≤ c) = true := decide_eq_true (by omega)
      have hx4 : at_ ≤ c := by omega
      have hx5 : (0 : Int) ≤ (at_ : Int) := by omega
      have hy1 : (to : Int) ≤ (l.length : Int) := by omega
      have hy2 : decide ((to : Int) ≤ (l.length : Int)) = true := decide_eq_true hy1
      have hy3 : (l.length : Int) ≤ (c : Int) := by omega
      have hy4 : (0 : Int) ≤ (to : Int) := by omega
      have HTo := Lib.hid hto
      clear hat his hlt h hto
      have HDr : Hid (∀ (W : World), Below w.heap.size w W → ∀ P m, m = l.length - to → ((l.length = to) ∨ ∃ b off f, A = some ⟨b, off, f⟩ ∧ ((c = to ∧ P = A) ∨ P = some ⟨b, off + to * 2, f⟩)) → Rd W P (m * 2) (itCs (l.drop to))) := Lib.hid (fun W hW P m hm hP => by
        subst hm
        by_cases h0 : l.length - to = 0
        · rw [h0]
          refine ⟨by rw [itCs_len, List.length_drop, h0], fun hn => absurd hn (by omega)⟩
        · have hRW := HR.out.below hW
          obtain ⟨b, off, e, hb, hcc⟩ := hRW.2 (by omega)
          rcases hP with hP | ⟨b', off', f', e', hP⟩
          · omega
          · rw [e] at e'
            injection e' with e'
            injection e' with e1 e2 e3
            subst e1 e2 e3
            have := ItR.drop (k := to) (P := P) (e ▸ hRW) hc (hP.imp (fun h => ⟨h.1, h.2.trans e⟩) id)
            unfold ItR at this
            rw [List.length_drop, Nat.mul_comm] at this
            exact this)
      have HTk : Hid (∀ (W : World), Below w.heap.size w W → Rd W A (at_ * 2) (itCs (l.take at_))) := Lib.hid (fun W hW => by
        have := (HR.out.below hW).take at_
        unfold ItR at this
        rwa [List.length_take, Nat.min_eq_left hle, Nat.mul_comm] at this)
      have hone1 := itCs_one (l.take at_)
      have hone2 := itCs_one (l.drop to)
      go_enter Tryz.func25, Tryz.ntmps25
      go_wp2_with fail
      refine HF.out.mono ?_
      rintro e w1 ⟨rfl, hdr⟩
      clear HF
      have hb1 := hdr.below w.heap.size
      have hbn : Below w1.heap.size w1 (w1.alloc (.cells #[] 89)) := (Below.refl _ _).alloc (Nat.le_refl _) _
      have HB2 := Lib.hid (hb1.trans (hbn.mono hb1.size))
      have hO1 : Hid ((w1.alloc (.cells #[] 89)).ownsRow w.heap.size 89 2 (.slice (some ⟨w1.heap.size, 0, none⟩) 0 0) 0 []) := Lib.hid (by
        refine ⟨rfl, .inr ⟨w1.heap.size, 0, #[], rfl, hb1.size, heap_alloc_new _ _, Nat.le_refl _, by decide, rfl, rfl⟩⟩)
      clear hdr hbn hb1
      have hO5' : Hid (∀ (v5 : Value) (w5 : World), w5.ownsRow w.heap.size 89 2 v5 (at_ + 1 + (l.length - to)) (itCs (l.take at_) ++ [.string key, .int .u64 (v.toNat : Int)] ++ itCs (l.drop to)) → Below w.heap.size w w5 → PutRPost (putR l key v) l A w (.returned (.tuple #[v5, .int .i64 0])) w5) := Lib.hid (fun v5 w5 ho hb => by
        have e1 : at_ + 1 + (l.length - to) = (l.take at_ ++ ⟨key, v⟩ :: l.drop to).length := by
          simp only [List.length_append, List.length_take, List.length_cons, List.length_drop, Nat.min_eq_left hle]; omega
        have e2 : itCs (l.take at_) ++ [.string key, .int .u64 (v.toNat : Int)] ++ itCs (l.drop to) = itCs (l.take at_ ++ ⟨key, v⟩ :: l.drop to) := by
          rw [itCs_app', List.append_assoc]; rfl
        rw [e1, e2] at ho
        rw [HP.out]
        have hnew : ∀ a n c', v5 = .slice (some a) n c' → w.heap.size ≤ a.block := fun a n c' e => by
          rcases ho.2 with ⟨h1, h2⟩ | ⟨g, cap, cur, h1, h2, _⟩
          · rw [h1] at e; cases e
          · rw [h1] at e; injection e with e; injection e with e; rw [← e]; exact h2
        have hnil : ∀ n c', v5 = .slice none n c' → c' = 0 := fun n c' e => by
          rcases ho.2 with ⟨h1, h2⟩ | ⟨g, cap, cur, h1, h2, _⟩
          · rw [h1] at e; injection e with _ _ e; exact e.symm
          · rw [h1] at e; cases e
        obtain ⟨A5, c5, rfl, hc5, hr5⟩ := own_itrE ho
        exact ⟨A5, c5, rfl, hc5, fun e => hnil _ _ (by rw [e]), hr5, hb, .inr (fun a e => hnew a _ _ (by rw [e]))⟩)
      have HB0 := Lib.hid HP
      rcases A with _ | ⟨b, off, f⟩
      · obtain rfl : c = 0 := hA rfl
        have hl0 : l.length = 0 := by omega
        obtain rfl : l = [] := List.eq_nil_of_length_eq_zero hl0
        obtain rfl : at_ = 0 := by omega
        obtain rfl : to = 0 := by omega
        obtain rfl : is_ = false := by
          cases is_ with
          | false => rfl
          | true => have := HTo.out; simp at this
        clear HP hwa hwb hx1 hx2 hx3 hx4 hx5 hy1 hy2 hy3 hy4
        go_wp2_with (at_builtin; first
          | (refine wpList_app_rows rfl (.tmp 24) (.tmp 27) 26 rfl Tryz.refItemTyK (by decide) w.heap.size _ 0 [] rfl (by exact hO1.out) _ 0 _ (itCs []) rfl (by exact HTk.out _ HB2.out) hone1 (by omega) (by decide) (by exact HB2.out.size) ?_
             intro v2 w2 hO2 hB2 hK2
             rw [Nat.zero_add, List.nil_append] at hO2
             have HO2 := Lib.hid hO2
             have HB3 := Lib.hid (HB2.out.trans hB2)
             clear hO2 hB2 hK2)
          | (refine wpList_app_one rfl (.tmp 29) (.tmp 33) 26 rfl Tryz.refItemTyK _ w.heap.size v2 0 (itCs []) [.string key, .int .u64 (v.toNat : Int)] rfl (by exact HO2.out) rfl w2.heap.size 1 rfl rfl rfl (by decide) (by intro u hu; simp at hu; rcases hu with rfl | rfl <;> rfl) (by omega) (by decide) (by exact HB3.out.size) ?_
             intro g3 c3 w3 hO3 hB3 hK3 hg3
             have HO3 := Lib.hid hO3
             have HB4 := Lib.hid (HB3.out.trans hB3)
             clear hO3 hB3 hK3 hg3)
          | (refine wpList_app_rows rfl (.tmp 38) (.tmp 41) 26 rfl Tryz.refItemTyK (by decide) w.heap.size _ (0 + 1) _ rfl (by exact HO3.out) _ _ _ (itCs []) rfl (by exact HDr.out _ HB4.out _ _ (by rfl) (by first | exact .inl (by omega) | exact .inr ⟨_, _, _, rfl, by by_cases hq : c = to <;> simp [hq, Addr.add]⟩)) hone2 (by omega) (by decide) (by exact HB4.out.size) ?_
             intro v5 w5 hO5 hB5 hK5
             have HO5 := Lib.hid hO5
             have HB6 := Lib.hid (HB4.out.trans hB5)
             clear hO5 hB5 hK5))
        all_goals (go_ret2)
        all_goals (exact hO5'.out _ _ HO5.out HB6.out)
      · clear HP
        have hf : l.length = 0 ∨ f = none := by
          rcases Nat.eq_zero_or_pos l.length with h0 | h0
          · exact .inl h0
          · obtain ⟨b', off', e', _⟩ := HR.out.2 (by omega)
            injection e' with e'
            injection e' with _ _ e'
            exact .inr e'
        have HPf : Hid (∀ P, P = (if c = to then some (⟨b, off, f⟩ : Addr) else some (Addr.add ⟨b, off, f⟩ (to * 2))) → (l.length = to) ∨ ∃ b' off' f', (some (⟨b, off, f⟩ : Addr)) = some ⟨b', off', f'⟩ ∧ ((c = to ∧ P = some ⟨b, off, f⟩) ∨ P = some ⟨b', off' + to * 2, f'⟩)) := Lib.hid (fun P hP => by
          rcases hf with h0 | h0
          · exact .inl (by omega)
          · subst h0
            refine .inr ⟨b, off, none, rfl, ?_⟩
            subst hP
            by_cases hq : c = to
            · exact .inl ⟨hq, if_pos hq⟩
            · exact .inr (by rw [if_neg hq, Addr.add_lit]))
        clear hf
        cases is_ with
        | true =>
          have hwk := hwa rfl
          clear hwa hwb
          go_wp2_with (at_builtin; first
          | (refine wpList_app_rows rfl (.tmp 24) (.tmp 27) 26 rfl Tryz.refItemTyK (by decide) w.heap.size _ 0 [] rfl (by exact hO1.out) _ at_ _ (itCs (l.take at_)) rfl (by exact HTk.out _ HB2.out) hone1 (by omega) (by decide) (by exact HB2.out.size) ?_
             intro v2 w2 hO2 hB2 hK2
             rw [Nat.zero_add, List.nil_append] at hO2
             have HO2 := Lib.hid hO2
             have HB3 := Lib.hid (HB2.out.trans hB2)
             clear hO2 hB2 hK2)
          | (refine wpList_app_one rfl (.tmp 29) (.tmp 33) 26 rfl Tryz.refItemTyK _ w.heap.size v2 at_ (itCs (l.take at_)) [.string key, .int .u64 (v.toNat : Int)] rfl (by exact HO2.out) rfl w2.heap.size 1 rfl rfl rfl (by decide) (by intro u hu; simp at hu; rcases hu with rfl | rfl <;> rfl) (by omega) (by decide) (by exact HB3.out.size) ?_
             intro g3 c3 w3 hO3 hB3 hK3 hg3
             have HO3 := Lib.hid hO3
             have HB4 := Lib.hid (HB3.out.trans hB3)
             clear hO3 hB3 hK3 hg3)
          | (refine wpList_app_rows rfl (.tmp 38) (.tmp 41) 26 rfl Tryz.refItemTyK (by decide) w.heap.size _ (at_ + 1) _ rfl (by exact HO3.out) _ _ _ (itCs (l.drop to)) rfl (by exact HDr.out _ HB4.out _ _ rfl (HPf.out _ (by first | rfl | (by_cases hq : c = to <;> simp [hq])))) hone2 (by omega) (by decide) (by exact HB4.out.size) ?_
             intro v5 w5 hO5 hB5 hK5
             have HO5 := Lib.hid hO5
             have HB6 := Lib.hid (HB4.out.trans hB5)
             clear hO5 hB5 hK5))
          all_goals (go_ret2)
          all_goals (exact hO5'.out _ _ HO5.out HB6.out)
        | false =>
          obtain rfl : to = at_ := by have := hwb rfl; omega
          clear hwa hwb
          go_wp2_with (at_builtin; first
          | (refine wpList_app_rows rfl (.tmp 24) (.tmp 27) 26 rfl Tryz.refItemTyK (by decide) w.heap.size _ 0 [] rfl (by exact hO1.out) _ to _ (itCs (l.take to)) rfl (by exact HTk.out _ HB2.out) hone1 (by omega) (by decide) (by exact HB2.out.size) ?_
             intro v2 w2 hO2 hB2 hK2
             rw [Nat.zero_add, List.nil_append] at hO2
             have HO2 := Lib.hid hO2
             have HB3 := Lib.hid (HB2.out.trans hB2)
             clear hO2 hB2 hK2)
          | (refine wpList_app_one rfl (.tmp 29) (.tmp 33) 26 rfl Tryz.refItemTyK _ w.heap.size v2 to (itCs (l.take to)) [.string key, .int .u64 (v.toNat : Int)] rfl (by exact HO2.out) rfl w2.heap.size 1 rfl rfl rfl (by decide) (by intro u hu; simp at hu; rcases hu with rfl | rfl <;> rfl) (by omega) (by decide) (by exact HB3.out.size) ?_
             intro g3 c3 w3 hO3 hB3 hK3 hg3
             have HO3 := Lib.hid hO3
             have HB4 := Lib.hid (HB3.out.trans hB3)
             clear hO3 hB3 hK3 hg3)
          | (refine wpList_app_rows rfl (.tmp 38) (.tmp 41) 26 rfl Tryz.refItemTyK (by decide) w.heap.size _ (to + 1) _ rfl (by exact HO3.out) _ _ _ (itCs (l.drop to)) rfl (by exact HDr.out _ HB4.out _ _ rfl (HPf.out _ (by first | rfl | (by_cases hq : c = to <;> simp [hq])))) hone2 (by omega) (by decide) (by exact HB4.out.size) ?_
             intro v5 w5 hO5 hB5 hK5
             have HO5 := Lib.hid hO5
             have HB6 := Lib.hid (HB4.out.trans hB5)
             clear hO5 hB5 hK5))
          all_goals (go_ret2)
          all_goals (exact hO5'.out _ _ HO5.out HB6.out)

end Go.Proofs.YtklcklflnkbccaaGreatDoor

/- Walks of the reference: Merge. Printed by genmref.py. -/
namespace Go.Proofs.YtklcklflnkbccaaGreatDoor
open Go.RowKit

theorem keepW_cons (x : It) (l : List It) : keepW (x :: l) = if liveI x then x :: keepW l else keepW l := by
  unfold keepW
  rw [List.filter_cons]

def MrefAt (a b : List It) (w : World) (u5 i6 k7 : Value) (wr : World) : Prop := ∃ (i k : Nat) (out : List It), i6 = .int .i64 (i : Nat) ∧ k7 = .int .i64 (k : Nat) ∧ i ≤ a.length ∧ k ≤ b.length ∧ wr.ownsRow w.heap.size 89 2 u5 out.length (itCs out) ∧ out ++ keepW (mergeW (a.drop i) (b.drop k)) = keepW (mergeW a b) ∧ out.length ≤ i + k ∧ Below w.heap.size w wr


end Go.Proofs.YtklcklflnkbccaaGreatDoor
