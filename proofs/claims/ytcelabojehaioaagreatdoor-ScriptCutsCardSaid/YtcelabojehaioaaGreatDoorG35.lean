import Derived.Test.YtcelabojehaioaaGreatDoorG02
import Derived.Test.YtcelabojehaioaaGreatDoorG07
import Derived.Test.YtcelabojehaioaaGreatDoorG13
import Derived.Test.YtcelabojehaioaaGreatDoorG15
import Derived.Test.YtcelabojehaioaaGreatDoorG17
/- Walks of package slab: List; of package pool: All. -/
namespace Go.Proofs.YtcelabojehaioaaGreatDoor
open Go.RowKit

theorem Tryz.intTyK : RowTyK Tryz.prog 69 3 (.int .i64 0) 1 8 := ⟨Tryz.underlying69, by kernel_rfl, rfl⟩

def nvs (l : List Nat) : List Value := l.map fun a => .int .i64 ((a : Nat) : Int)
theorem nvs_app (l : List Nat) (a : Nat) : nvs (l ++ [a]) = nvs l ++ [.int .i64 (a : Int)] := by simp [nvs]

set_option maxHeartbeats 4000000 in
set_option maxRecDepth 100000 in
theorem list_slab (x : Nat) (w : World) (hx : x < 18446744073709551616) : Calls Tryz.prog 124 #[.int .u64 (x : Int)] w fun e w' => ∃ v, e = .returned v ∧ w'.ownsRow w.heap.size 3 1 v (listW x).length (nvs (listW x)) ∧ Below w.heap.size w w' := by
  have HC := Lib.hid (classS_any x w hx)
  have HBl := Lib.hid (fun W => blocks_any (classW x) W (by have := classW_lt x; omega))
  have hbl := blocksN_le (classW x)
  have HHs := Lib.hid (fun W a (ha : a < 16) => hasS_any x a W hx (by omega))
  have hdef : listW x = (List.range (blocksN (classW x))).filter (hasW x) := rfl
  rw [hdef]
  clear hdef
  generalize blocksN (classW x) = nb at *
  generalize classW x = cl at *
  go_enter Tryz.func124, Tryz.ntmps124
  go_wp2_with fail
  refine HC.out.mono ?_
  rintro e w1 ⟨rfl, hd1⟩
  have HD1 := Lib.hid (hd1.below w.heap.size)
  clear HC hd1
  go_wp2_with fail
  refine (HBl.out w1).mono ?_
  rintro e w2 ⟨rfl, rfl⟩
  clear HBl
  go_wp2_with fail
  go_loopw [3, 8] (fun u i wr => ∃ k : Nat, k ≤ nb ∧ i = .int .i64 (k : Nat) ∧ wr.ownsRow w.heap.size 3 1 u ((List.range k).filter (hasW x)).length (nvs ((List.range k).filter (hasW x))) ∧ Below w.heap.size w wr) (fun _ i _ => nb - (intOf i).toNat)
  case atStart => exact ⟨0, Nat.zero_le _, rfl, World.ownsRow_nil _ _ _ _, HD1.out⟩
  case round =>
    obtain ⟨k, hk, rfl, hown, hb⟩ := hrel
    have HO := Lib.hid hown
    have HB := Lib.hid hb
    clear hown hb
    by_cases hlt : k < nb
    · have hx1 : (k : Int) < (nb : Int) := by omega
      have hx2 : decide ((k : Int) < (nb : Int)) = true := decide_eq_true hx1
      have hx5 : decide (k < nb) = true := decide_eq_true hlt
      have hwk : IntKind.i64.wrap ((k : Int) + 1) = (k : Int) + 1 := wrap64 _ (by omega) (by omega)
      have HTk : Hid ((List.range (k + 1)).filter (hasW x) = if hasW x k then (List.range k).filter (hasW x) ++ [k] else (List.range k).filter (hasW x)) := Lib.hid (by
        rw [List.range_succ, List.filter_append]
        simp only [List.filter_cons, List.filter_nil]
        split <;> simp)
      have hfl : ((List.range k).filter (hasW x)).length ≤ 16 := Nat.le_trans (List.length_filter_le _ _) (by simp; omega)
      have HH := Lib.hid (HHs.out wr k (by omega))
      generalize (List.range k).filter (hasW x) = M at *
      go_wp2_with fail
      refine HH.out.mono ?_
      rintro e w3 ⟨rfl, hd3⟩
      have HB3 := Lib.hid (HB.out.trans (hd3.below w.heap.size))
      have HO3 := Lib.hid (own_stay HO.out (Kept.of_below (r := none) (hd3.below _)) (by
        rcases HO.out.2 with ⟨h1, _⟩ | ⟨g, cap, cur, h1, _⟩
        · exact .inr (by subst h1; rfl)
        · exact .inl (by subst h1; exact fun e => nomatch e)))
      clear HH hd3 HO HB
      cases hh : hasW x k with
      | true =>
        rw [hh, if_pos rfl] at HTk
        go_wp2_with (at_builtin; refine wpList_app_one rfl (.tmp 14) (.tmp 16) 69 rfl Tryz.intTyK w3 w.heap.size u3 M.length (nvs M) [.int .i64 (k : Int)] rfl (by exact HO3.out) rfl w3.heap.size 1 rfl rfl rfl (by decide) (by intro u hu; simp at hu; subst hu; rfl) (by omega) (by decide) (by exact HB3.out.size) ?_; intro g6 c6 w6 hO6 hB6 hK6 hg6)
        have HO6 := Lib.hid hO6
        have HB6 := Lib.hid (HB3.out.trans hB6)
        clear hO6 hB6 hK6 hg6
        go_wp2_with fail
        go_roundw
        case rel => exact ⟨k + 1, by omega, by go_num, by rw [HTk.out, List.length_append, nvs_app]; exact HO6.out, HB6.out⟩
        case measure => simp [intOf]; omega
      | false =>
        rw [hh] at HTk
        go_wp2_with fail
        go_roundw
        case rel => exact ⟨k + 1, by omega, by go_num, by rw [HTk.out]; exact HO3.out, HB3.out⟩
        case measure => simp [intOf]; omega
    · have hx2 : decide ((k : Int) < (nb : Int)) = false := decide_eq_false (by omega)
      have hx5 : decide (k < nb) = false := decide_eq_false hlt
      have hkn : k = nb := by omega
      subst hkn
      go_wp2_with fail
      go_ret
      exact ⟨_, rfl, HO.out, HB.out⟩

section
variable {w w' : World} {d p L : Nat} {s : St} {tb hb n cT cH : Nat}

/-- The blocks of the first slabs. -/
def slabAll (s : St) (i : Nat) : List Nat := (listW (tkN s i)).map fun a => placeN s.sh i (classW (tkN s i)) a
def allTo (s : St) (i : Nat) : List Nat := (List.range i).flatMap (slabAll s)
theorem allTo_succ (s : St) (i : Nat) : allTo s (i + 1) = allTo s i ++ slabAll s i := by simp [allTo, List.range_succ]
theorem slabAll_len (s : St) (i : Nat) : (slabAll s i).length ≤ 16 := by
  unfold slabAll
  rw [List.length_map]
  exact Nat.le_trans (List.length_filter_le _ _) (by simp [blocksN_le])
theorem allTo_len (s : St) : ∀ i, (allTo s i).length ≤ 16 * i
  | 0 => by simp [allTo]
  | i + 1 => by rw [allTo_succ, List.length_append]; have := allTo_len s i; have := slabAll_len s i; omega

set_option maxHeartbeats 8000000 in
set_option maxRecDepth 100000 in
theorem all_pool (h : PoolAt w d p L s tb hb n cT cH) : Calls Tryz.prog 80 #[.pointer (some ⟨p, 0, none⟩)] w fun e w' => ∃ v, e = .returned v ∧ w'.ownsRow w.heap.size 3 1 v (allP s).length (nvs (allP s)) ∧ Below w.heap.size w w' := by
  have HNo := Lib.hid (none_pool h)
  have HP := Lib.hid h
  have y5 := h.y5
  have hn64 : n ≤ 64 := by have := h.ok.fits; have := h.L1; have := h.nsh; omega
  have hall : allP s = allTo s n := by unfold allP allTo; rw [h.ntk]; rfl
  rw [hall]
  clear h hall
  go_enter Tryz.func80, Tryz.ntmps80
  go_wp2_with fail
  refine HNo.out.mono ?_
  rintro e w1 ⟨rfl, rfl⟩
  clear HNo
  go_wp2_with fail
  go_loopw [3, 15] (fun u i wr => ∃ k : Nat, k ≤ n ∧ i = .int .i64 (k : Nat) ∧ wr.ownsRow w.heap.size 3 1 u (allTo s k).length (nvs (allTo s k)) ∧ Below w.heap.size w wr) (fun _ i _ => n - (intOf i).toNat)
  case atStart => exact ⟨0, Nat.zero_le _, rfl, World.ownsRow_nil _ _ _ _, Below.refl _ _⟩
  case round =>
    obtain ⟨k, hk, rfl, hown, hb⟩ := hrel
    have HO := Lib.hid hown
    have HB := Lib.hid hb
    clear hown hb
    by_cases hlt : k < n
    · have hx1 : (k : Int) < (n : Int) := by omega
      have hx2 : decide ((k : Int) < (n : Int)) = true := decide_eq_true hx1
      have hx5 : decide (k < n) = true := decide_eq_true hlt
      have hwk : IntKind.i64.wrap ((k : Int) + 1) = (k : Int) + 1 := wrap64 _ (by omega) (by omega)
      have z1 := (HP.out.below HB.out).tk k hlt
      have hx := tkN_lt s k
      have hcl := classW_lt (tkN s k)
      have hal := allTo_len s k
      have HLs := Lib.hid (list_slab (tkN s k) wr hx)
      have HCl := Lib.hid (fun W => classS_any (tkN s k) W hx)
      have HPl := Lib.hid (fun (W : World) a (hW : Below w.heap.size w W) (ha : a ≤ 16) => place_pool (HP.out.below hW) k (classW (tkN s k)) a hlt hcl ha)
      have HTk : Hid (allTo s (k + 1) = allTo s k ++ (listW (tkN s k)).map fun a => placeN s.sh k (classW (tkN s k)) a) := Lib.hid (allTo_succ s k)
      have hls : ∀ a ∈ listW (tkN s k), a ≤ 16 := fun a ha => by
        have := List.mem_range.1 (List.mem_filter.1 ha).1
        have := blocksN_le (classW (tkN s k))
        omega
      have hll : (listW (tkN s k)).length ≤ 16 := Nat.le_trans (List.length_filter_le _ _) (by simp [blocksN_le])
      generalize listW (tkN s k) = l at *
      generalize classW (tkN s k) = cl at *
      generalize tkN s k = x at *
      generalize allTo s k = M at *
      go_wp2_with fail
      refine HLs.out.mono ?_
      rintro e w3 ⟨v3, rfl, ho3, hb3⟩
      have hA3 : ∀ A c, v3 = .slice A l.length c → ∀ a, A = some a → wr.heap.size ≤ a.block ∧ a.block < w3.heap.size := fun A c e a ea => by
        rcases ho3.2 with ⟨h1, _⟩ | ⟨g, cap, cur, h1, h2, h3, _⟩
        · rw [h1, ea] at e; cases e
        · rw [h1, ea] at e
          injection e with e
          injection e with e
          rw [← e]
          exact ⟨h2, (Array.getElem?_eq_some_iff.1 h3).1⟩
      obtain ⟨A3, c3, rfl, hc3, hr3⟩ := rd_of_own ho3
      have hap : ∀ a, A3 = some a → a.block < w3.heap.size ∧ u3.ownBlock ≠ some a.block := fun a ea => by
        obtain ⟨h1, h2⟩ := hA3 A3 c3 rfl a ea
        refine ⟨h2, fun e => ?_⟩
        rcases HO.out.2 with ⟨h3, _⟩ | ⟨g, cap, cur, h3, _, h4, _⟩
        · rw [h3] at e; cases e
        · rw [h3] at e
          injection e with e
          have := (Array.getElem?_eq_some_iff.1 h4).1
          simp only at e
          omega
      have HAp := Lib.hid hap
      clear hA3 hap
      have HR3 := Lib.hid hr3
      have HB3 := Lib.hid (HB.out.trans (hb3.mono HB.out.size))
      have HO3 := Lib.hid (own_stay HO.out (Kept.of_below (r := none) hb3) (by
        rcases HO.out.2 with ⟨h1, _⟩ | ⟨g, cap, cur, h1, _⟩
        · exact .inr (by subst h1; rfl)
        · exact .inl (by subst h1; exact fun e => nomatch e)))
      clear HLs ho3 hb3 hr3 HO HB
      go_wp2_with fail
      go_loopw [3, 23] (fun u i wr => ∃ j : Nat, j ≤ l.length ∧ i = .int .i64 (j : Nat) ∧ wr.ownsRow w.heap.size 3 1 u (M ++ (l.take j).map fun a => placeN s.sh k cl a).length (nvs (M ++ (l.take j).map fun a => placeN s.sh k cl a)) ∧ Below w.heap.size w wr ∧ Rd wr A3 l.length (nvs l) ∧ ∀ a, A3 = some a → a.block < wr.heap.size ∧ u.ownBlock ≠ some a.block) (fun _ i _ => l.length - (intOf i).toNat)
      case atStart => exact ⟨0, Nat.zero_le _, rfl, by simpa using HO3.out, HB3.out, HR3.out, HAp.out⟩
      case round =>
        obtain ⟨j, hj, rfl, hown, hb, hrd, hap⟩ := hrel
        have HO4 := Lib.hid hown
        have HB4 := Lib.hid hb
        have HR4 := Lib.hid hrd
        have HAp4 := Lib.hid hap
        clear hown hb hrd hap HAp
        by_cases hjl : j < l.length
        · have hy1 : (j : Int) < (l.length : Int) := by omega
          have hy2 : decide ((j : Int) < (l.length : Int)) = true := decide_eq_true hy1
          have hy5 : decide (j < l.length) = true := decide_eq_true hjl
          have hwj : IntKind.i64.wrap ((j : Int) + 1) = (j : Int) + 1 := wrap64 _ (by omega) (by omega)
          obtain ⟨b, off, rfl, hbw, hcc⟩ := HR4.out.2 (by omega)
          have z2 := hcc j hjl
          rw [nvs, List.getElem?_map, List.getElem?_eq_getElem hjl] at z2
          simp only [Option.map_some] at z2
          clear hcc
          have ha16 := hls l[j] (List.getElem_mem hjl)
          have HTj : Hid (M ++ (l.take (j + 1)).map (fun a => placeN s.sh k cl a) = M ++ (l.take j).map (fun a => placeN s.sh k cl a) ++ [placeN s.sh k cl l[j]]) := Lib.hid (by
            rw [List.take_succ_eq_append_getElem hjl, List.map_append, List.append_assoc]; rfl)
          have hml : (M ++ (l.take j).map fun a => placeN s.sh k cl a).length ≤ 2000 := by
            simp only [List.length_append, List.length_map, List.length_take]; omega
          generalize l[j] = a at *
          generalize (M ++ (l.take j).map fun a => placeN s.sh k cl a) = Q at *
          go_wp2_with fail
          refine (HCl.out wr).mono ?_
          rintro e w5 ⟨rfl, hd5⟩
          have hd5' := hd5.below w.heap.size
          have HB5 := Lib.hid (HB4.out.trans (hd5.below w.heap.size))
          have HPl' := Lib.hid (HPl.out w5 a HB5.out ha16)
          have HO5 := Lib.hid (own_stay HO4.out (Kept.of_below (r := none) (hd5.below _)) (by
            rcases HO4.out.2 with ⟨h1, _⟩ | ⟨g, cap, cur, h1, _⟩
            · exact .inr (by subst h1; rfl)
            · exact .inl (by subst h1; exact fun e => nomatch e)))
          clear HO4 HB4
          go_wp2_with fail
          refine HPl'.out.mono ?_
          rintro e w6 ⟨rfl, hd6⟩
          have HB6 := Lib.hid (HB5.out.trans (hd6.below w.heap.size))
          have HO6 := Lib.hid (own_stay HO5.out (Kept.of_below (r := none) (hd6.below _)) (by
            rcases HO5.out.2 with ⟨h1, _⟩ | ⟨g, cap, cur, h1, _⟩
            · exact .inr (by subst h1; rfl)
            · exact .inl (by subst h1; exact fun e => nomatch e)))
          have HT6 := HB6
          have hs6 : wr.heap.size ≤ w6.heap.size := Nat.le_trans (hd5'.size) (hd6.below w.heap.size).size
          have hr6 : Rd w6 (some ⟨b, off, none⟩) l.length (nvs l) := Rd.below HR4.out ((hd5.below _).trans ((hd6.below _).mono hd5'.size))
          have HR6 := Lib.hid hr6
          clear HPl' hd6 HO5 HB5 hr6 hd5 hd5'
          go_wp2_with (at_builtin; refine wpList_app_one rfl (.tmp 27) (.tmp 34) 69 rfl Tryz.intTyK w6 w.heap.size u3 Q.length (nvs Q) [.int .i64 ((placeN s.sh k cl a : Nat) : Int)] rfl (by exact HO6.out) rfl w6.heap.size 1 rfl rfl rfl (by decide) (by intro u hu; simp at hu; subst hu; rfl) (by omega) (by decide) (by exact HT6.out.size) ?_; intro g8 c8 w8 hO8 hB8 hK8 hg8)
          have HO8 := Lib.hid hO8
          have HB8 := Lib.hid (HT6.out.trans hB8)
          have hne := (HAp4.out _ rfl).2
          have hbl := (HAp4.out _ rfl).1
          simp only at hne hbl
          have HR8 : Hid (Rd w8 (some ⟨b, off, none⟩) l.length (nvs l)) := Lib.hid (by
            refine ⟨HR6.out.1, fun hn => ?_⟩
            obtain ⟨b', off', e', hb', hcc'⟩ := HR6.out.2 hn
            injection e' with e'
            injection e' with e1 e2
            subst e1 e2
            exact ⟨b, off, rfl, Nat.lt_of_lt_of_le hb' hK8.1, fun j hj => (World.cell?_of_block (w := w6) (hK8.2 b hb' (fun e => hne e.symm))).trans (hcc' j hj)⟩)
          have HA8 : Hid (b < w8.heap.size ∧ some g8 ≠ some b) := Lib.hid (by
            refine ⟨by have := hK8.1; omega, fun e => ?_⟩
            injection e with e
            rcases hg8 with h | h
            · exact hne (by rw [h, e])
            · omega)
          clear hO8 hB8 hK8 hg8 hne hbl HR6
          go_wp2_with fail
          go_roundw
          case rel => exact ⟨j + 1, by omega, by go_num, by rw [HTj.out, List.length_append, nvs_app]; exact HO8.out, HB8.out, HR8.out, fun a ea => by injection ea with ea; subst ea; exact HA8.out⟩
          case measure => simp [intOf]; omega
        · have hy2 : decide ((j : Int) < (l.length : Int)) = false := decide_eq_false (by omega)
          have hy5 : decide (j < l.length) = false := decide_eq_false hjl
          have hjn : j = l.length := by omega
          subst hjn
          have HO5 : Hid (wr.ownsRow w.heap.size 3 1 u3 (M ++ l.map fun a => placeN s.sh k cl a).length (nvs (M ++ l.map fun a => placeN s.sh k cl a))) := Lib.hid (by have := HO4.out; rwa [List.take_length] at this)
          have HT5 := HB4
          clear HO4
          go_wp2_with fail
          go_roundw
          case rel => exact ⟨k + 1, by omega, by go_num, by rw [HTk.out]; exact HO5.out, HT5.out⟩
          case measure => simp [intOf]; omega
    · have hx2 : decide ((k : Int) < (n : Int)) = false := decide_eq_false (by omega)
      have hx5 : decide (k < n) = false := decide_eq_false hlt
      have hkn : k = n := by omega
      subst hkn
      go_wp2_with fail
      go_ret
      exact ⟨_, rfl, HO.out, HB.out⟩
end

end Go.Proofs.YtcelabojehaioaaGreatDoor

/- Walks of package index: visit. -/
namespace Go.Proofs.YtcelabojehaioaaGreatDoor
open Go.RowKit

theorem Tryz.itemTyK : RowTyK Tryz.prog 149 154 (.agg #[.string ⟨#[]⟩, .int .u64 0]) 2 24 := ⟨Tryz.underlying149, by kernel_rfl, rfl⟩
theorem Tryz.metMap : Tryz.prog.underlying 233 = some (.map 3 3) := Tryz.underlying233
theorem Tryz.zeroInt (W : World) : (zeroValue 3).run Tryz.prog W = .ok (.int .i64 0) W := by
  have h : (Tryz.prog.info? 3).map (·.zero) = some (some (.int .i64 0)) := by kernel_rfl
  cases hi : Tryz.prog.info? 3 with
  | none => rw [hi] at h; cases h
  | some i =>
    rw [hi] at h
    simp only [Option.map_some, Option.some.injEq] at h
    simp [zeroValue, typeInfo, hi, h]

def VisPost (r : Option (List (List UInt8 × UInt64) × List Int)) (base sb mb x : Nat) (w : World) (e : Ending) (w' : World) : Prop :=
  Below base w w' ∧ KeepB w w' ∧ match r with
    | none => e = .returned (.int .i64 5)
    | some (items', met') => e = .returned (.int .i64 0) ∧ ∃ v', SurvAt w' base sb mb x items' met' v'

section
variable {w w' : World} {base sb mb x d p L : Nat} {s : St} {F : Nat → Prop}

theorem Ix.past (h : Ix w x d p L s F) (k : Below base w w') (hF : ∀ b, F b → b < base) (hx : x < base) (ht : 0 < base ∧ 1 < base) : Ix w' x d p L s F := by
  have t : Touch (fun b => base ≤ b) w w' := ⟨k.os, k.tape, k.output, k.size, fun b _ hn => k.block b (by omega)⟩
  exact ⟨h.sys.keep t (fun b hb hn => by have := hF b hb; omega) (by omega) (by omega), h.box.touch t (by omega), h.out⟩

theorem mem_parts {o : Int} : ∀ {l : List Int}, o ∈ l → l.Nodup → ∃ l1 l2, l = l1 ++ o :: l2 ∧ o ∉ l1
  | [], h, _ => by cases h
  | a :: t, h, hn => by
    obtain ⟨h1, h2⟩ := List.nodup_cons.1 hn
    rcases List.mem_cons.1 h with rfl | ho
    · exact ⟨[], t, rfl, by simp⟩
    · obtain ⟨l1, l2, e, hno⟩ := mem_parts ho h2
      refine ⟨a :: l1, l2, by rw [e]; rfl, fun hm => ?_⟩
      rcases List.mem_cons.1 hm with rfl | hm
      · exact h1 ho
      · exact hno hm

set_option maxHeartbeats 8000000 in
set_option maxRecDepth 100000 in
/-- The node is not to be read. -/
theorem visit_none (h : Ix w x d p L s F) (_ : ∀ b, F b → b < base) {items : List (List UInt8 × UInt64)} {met : List Int} {v : Value} (hs : SurvAt w base sb mb x items met v) (f : Nat) (name : UInt64) (ahead : List UInt8) (A : Option Addr) (c : Nat) (hr : readP s name = none) :
    Calls Tryz.prog 171 #[.pointer (some ⟨sb, 0, none⟩), .int .u64 (name.toNat : Int), .slice A ahead.length c] w (VisPost (visitP s (f + 1) name ahead (items, met)) base sb mb x w) := by
  have HP : Hid (visitP s (f + 1) name ahead (items, met) = none) := Lib.hid (by rw [visitP, hr])
  have HR := Lib.hid (read_index h name)
  have HRn := Lib.hid hr
  have y0 := hs.box.cell 0
  simp only [List.getElem?_cons_zero] at y0
  have hbs : base ≤ w.heap.size := Nat.le_of_lt (Nat.lt_of_le_of_lt hs.bs hs.box.lt)
  clear h hs hr
  go_enter Tryz.func171, Tryz.ntmps171
  go_wp2_with fail
  refine HR.out.mono ?_
  rintro e w1 ⟨hb1, hp1⟩
  rw [HRn.out] at hp1
  subst hp1
  have HB := Lib.hid (hb1.mono hbs)
  have HKp := Lib.hid (KeepB.of_below hb1)
  clear hb1 HR
  go_wp2_with fail
  go_ret
  refine ⟨HB.out.alloc (Nat.le_trans hbs HB.out.size) _, HKp.out.trans (KeepB.of_below ((Below.refl _ _).alloc (Nat.le_refl _) _)), ?_⟩
  rw [HP.out]
  rfl

set_option maxHeartbeats 8000000 in
set_option maxRecDepth 100000 in
/-- The node was met ahead of this. -/
theorem visit_met (h : Ix w x d p L s F) (_ : ∀ b, F b → b < base) {items : List (List UInt8 × UInt64)} {met : List Int} {v : Value} (hs : SurvAt w base sb mb x items met v) (f : Nat) (name : UInt64) (ahead : List UInt8) (A : Option Addr) (c : Nat) (hA : Row8 w A ahead) (hac : ahead.length ≤ c) (hal : ahead.length ≤ 33) (nd : Nd) (hr : readP s name = some nd) (hm : offOf name ∈ met) :
    Calls Tryz.prog 171 #[.pointer (some ⟨sb, 0, none⟩), .int .u64 (name.toNat : Int), .slice A ahead.length c] w (VisPost (visitP s (f + 1) name ahead (items, met)) base sb mb x w) := by
  have HP : Hid (visitP s (f + 1) name ahead (items, met) = none) := Lib.hid (by rw [visitP, hr]; simp only; rw [if_pos (.inl (by simpa using hm))])
  have HR := Lib.hid (read_index h name)
  have HRn := Lib.hid hr
  have HS := Lib.hid hs
  have hwr : IntKind.i64.wrap (name.toNat : Int) = offOf name := rfl
  have hbl := (read_lens hr).1
  have y0 := hs.box.cell 0
  simp only [List.getElem?_cons_zero] at y0
  have hbs : base ≤ w.heap.size := Nat.le_of_lt (Nat.lt_of_le_of_lt hs.bs hs.box.lt)
  obtain ⟨l1, l2, hl, hno⟩ := mem_parts hm hs.nod
  have HL := Lib.hid hl
  have HNo : Hid (∀ q ∈ l1.map (fun o => (o, (1 : Int))), q.1 ≠ offOf name) := Lib.hid (fun q hq => by
    obtain ⟨o, ho, rfl⟩ := List.mem_map.1 hq
    exact fun e => hno (e ▸ ho))
  have HA := Lib.hid hA
  generalize offOf name = off at *
  clear h hs hr hm hl hno hA
  go_enter Tryz.func171, Tryz.ntmps171
  go_wp2_with fail
  refine HR.out.mono ?_
  rintro e w1 ⟨hb1, hp1⟩
  rw [HRn.out] at hp1
  obtain ⟨vn, rfl, hnd⟩ := hp1
  obtain ⟨A1, c1, A2, c2, A3, c3, rfl, o1, o2, o3⟩ := hnd
  obtain ⟨W2, hW2⟩ : ∃ W2, W2 = w1.alloc (.cells #[.slice A1 nd.pre.length c1, .int .u64 (nd.val.toNat : Int), .slice A2 nd.labels.length c2, .slice A3 nd.kids.length c3] 223) := ⟨_, rfl⟩
  have BN : Blk W2 w1.heap.size 223 [.slice A1 nd.pre.length c1, .int .u64 (nd.val.toNat : Int), .slice A2 nd.labels.length c2, .slice A3 nd.kids.length c3] := hW2 ▸ heap_alloc_new _ _
  have hb12 : Below w1.heap.size w1 W2 := hW2 ▸ (Below.refl _ _).alloc (Nat.le_refl _) _
  have hb2 : Below w.heap.size w W2 := hb1.trans (hb12.mono hb1.size)
  have S2 := HS.out.below hb2
  have hmap : MapIs W2 mb (l1.map (fun o => (o, (1 : Int))) ++ (off, 1) :: l2.map (fun o => (o, (1 : Int)))) := by
    have := S2.map
    rw [HL.out] at this
    simpa using this
  have k1 := look_yes Tryz.metMap Tryz.underlying3 W2 mb _ _ off 1 hmap HNo.out
  have k2 := upd_yes Tryz.metMap Tryz.underlying3 W2 mb _ _ off 1 2 hmap HNo.out
  obtain ⟨W3, hW3⟩ : ∃ W3, W3 = putMap W2 mb (metE 0 (l1.map (fun o => (o, (1 : Int))) ++ (off, 2) :: l2.map (fun o => (o, (1 : Int))))).toArray (l1.map (fun o => (o, (1 : Int))) ++ (off, 2) :: l2.map (fun o => (o, (1 : Int)))).length := ⟨_, rfl⟩
  rw [← hW3] at k2
  have t3 : Touch (fun b => b = mb) W2 W3 := hW3 ▸ putMap_touch _ _ _ _
  have hm3 : MapIs W3 mb (l1.map (fun o => (o, (1 : Int))) ++ (off, 2) :: l2.map (fun o => (o, (1 : Int)))) := by rw [hW3]; exact putMap_at _ _ _ _ hmap.lt
  have hk3 : KeepB W2 W3 := ⟨t3.size, fun g cs e fz _ hg => t3.block g (Array.getElem?_eq_some_iff.1 hg).1 (fun e' => by
    unfold MapIs at hmap
    rw [e', hmap] at hg
    injection hg with hg
    cases hg)⟩
  have hb23 : Below base W2 W3 := t3.below (Nat.le_trans hbs hb2.size) (fun k e => e ▸ S2.bm)
  have BN3 := hk3.box BN
  have HA3 := (HA.out.keep (KeepB.of_below hb2)).keep hk3
  have hpre : Rd W3 A1 nd.pre.length (nd.pre.map bv) := (rd_own (hk3.own (.inl rfl) (own_below o1 hb12))).2
  have S3 : Blk W3 sb 235 [.pointer (some ⟨x, 0, none⟩), v, .map (some mb)] := S2.box.touch t3 S2.sm
  clear hW3
  have z0 := S2.box.cell 0
  have z2 := S2.box.cell 2
  simp only [List.getElem?_cons_zero, List.getElem?_cons_succ] at z0 z2
  rw [hW2] at k1 k2 z0 z2
  have HW2 := Lib.hid hW2
  clear y0 HR hW2
  go_wp2_with fail
  obtain ⟨n0, n1, n2, n3, -⟩ := blk4' BN3
  have HB3 := Lib.hid ((hb2.mono hbs).trans hb23)
  have HK3 := Lib.hid ((KeepB.of_below hb2).trans hk3)
  have HM3 := Lib.hid hm3
  have HS3 := Lib.hid S3
  have HR3 := Lib.hid HA3
  have HP3 := Lib.hid hpre
  clear k1 k2 z0 z2 hb1 hb12 hb2 S2 hmap t3 hk3 hb23 BN BN3 HA3 hpre o1 o2 o3 hm3 S3
  go_region_law (refine step_app_cut rfl (.tmp 42) (.tmp 44) 39 rfl Tryz.bytesTy A ahead.length (ahead.map bv) (by simp [Act.eval]) (by exact HR3.out.1) (fun a e => by obtain ⟨g, _, _, e', _⟩ := HR3.out.2.1 a e; exact ⟨g, e'⟩) (fun e => by rw [HR3.out.2.2 e]; rfl) A1 nd.pre.length c1 (nd.pre.map bv) (by simp [Act.eval]) (by exact HP3.out) (oneCell_bv _) (by omega) (by decide) ?_; intro A4 c4 w4 hc4 hr4 hb4 hcut4)
  all_goals (have hb34 : Below W3.heap.size W3 w4 := ((Dr.drew W3).below _).trans hb4)
  all_goals (have k5 := look_yes Tryz.metMap Tryz.underlying3 w4 mb _ _ off 2 (HM3.out.below hb34) HNo.out)
  all_goals (have S4 := HS3.out.below hb34 HS3.out.lt)
  all_goals (have z0 := S4.cell 0)
  all_goals (have z2 := S4.cell 2)
  all_goals (simp only [List.getElem?_cons_zero, List.getElem?_cons_succ] at z0 z2)
  all_goals (have HB4 := Lib.hid (HB3.out.trans (hb34.mono (Nat.le_trans hbs (by have := HB3.out.size; exact this)))))
  all_goals (have HK4 := Lib.hid (HK3.out.trans (KeepB.of_below hb34)))
  all_goals (clear hb34 hb4 hcut4 hr4 S4 HM3 HS3 HR3 HP3 n0 n1 n2 n3 HA HNo HL HS)
  all_goals (go_wp2_with fail)
  all_goals (go_ret)
  all_goals (refine ⟨HB4.out, HK4.out, ?_⟩)
  all_goals (rw [HP.out])
  all_goals rfl
end

end Go.Proofs.YtcelabojehaioaaGreatDoor
